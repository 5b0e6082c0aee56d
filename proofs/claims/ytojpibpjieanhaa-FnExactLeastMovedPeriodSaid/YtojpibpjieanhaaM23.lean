/- My own texts of this seat and its words, merged: Xp79, COpen, CFewI, XRaise, Xp47, Xp99, XAreMoves, Xp82. Conditions: as each lemma says. -/
import Derived.Test.YtojpibpjieanhaaM21
import Derived.Test.YtojpibpjieanhaaM22
import Derived.RegionTactic
import Derived.BigRegion
import Derived.Deep.RegionLaw
import Derived.StillTailTactics
section
-- Written by a program of this session out of the kit's print of the loaded functions: a plain function of a Go function, and its contract.
namespace Go.Proofs.Ytojpibpjieanhaa.X
open Go.RowKit Go.Proofs.YtojpibpjieanhaaW.PrintWords Go.Proofs.YtojpibpjieanhaaW.PrintLast Go.Proofs.YtojpibpjieanhaaW.PrintMore
attribute [local go_sem] max2_int min2_int max_two min_two max_three min_three max_four min_four   -- for this text's walks alone
set_option linter.unusedVariables false
set_option linter.unusedSimpArgs false
mutual
def spec_l08Open.l0 : Nat → Int → List Int → List Int → Int → List Int → List (S55) → Option (Bool)
 | 0, _, _, _, _, _, _ => none
 | k + 1, x1, x5, x6, x7, x1000, x1001 => if x7 < (x6.length : Int) then (spec_l08Open.l1 k x1 x5 x6 x7 0 x1000 x1001) else (some false)
def spec_l08Open.l1 : Nat → Int → List Int → List Int → Int → Int → List Int → List (S55) → Option (Bool)
 | 0, _, _, _, _, _, _, _ => none
 | k + 1, x1, x5, x6, x7, x8, x1000, x1001 => if x8 < (x1001.length : Int) then (if 0 ≤ x8 then (if 0 ≤ x7 then (if x7 < (x6.length : Int) then (if ((rd_T55 x1001 x8).f0) = (rd x6 x7) then (spec_l08Open.j2 k x1 x5 x6 x7 x8 (decide (((rd_T55 x1001 x8).f2) > 0)) x1000 x1001 ((rd_T55 x1001 x8).f0) ((rd_T55 x1001 x8).f1) ((rd_T55 x1001 x8).f2)) else (spec_l08Open.j2 k x1 x5 x6 x7 x8 true x1000 x1001 ((rd_T55 x1001 x8).f0) ((rd_T55 x1001 x8).f1) ((rd_T55 x1001 x8).f2))) else (none)) else (none)) else (none)) else (spec_l08Open.l0 k x1 x5 x6 (wrap64 (x7 + 1)) x1000 x1001)
def spec_l08Open.j2 : Nat → Int → List Int → List Int → Int → Int → Bool → List Int → List (S55) → Int → Int → Int → Option (Bool)
 | 0, _, _, _, _, _, _, _, _, _, _, _ => none
 | k + 1, x1, x5, x6, x7, x8, x46, x1000, x1001, x213000, x213001, x213002 => if x46 = true then (spec_l08Open.l1 k x1 x5 x6 x7 (wrap64 (x8 + 1)) x1000 x1001) else (if x213001 = x1 then (some true) else ((spec_l00Has.f k x5 x213001).bind fun t214 => (if t214 = true then (spec_l08Open.l1 k x1 x5 x6 x7 (wrap64 (x8 + 1)) x1000 x1001) else ((spec_l00Put.f k x5 x213001).bind fun t215 => (if x6.length < 17592186044416 then (spec_l08Open.l1 k x1 t215 (x6 ++ [x213001]) x7 (wrap64 (x8 + 1)) x1000 x1001) else (none))))))
end
def spec_l08Open.f (k : Nat) (s0_0 : List Int) (s0_1 : List (S55)) (a1 : Int) : Option (Bool) := spec_l08Open.l0 k a1 (([] : List Int)) (([a1] : List Int)) 0 s0_0 s0_1
theorem spec_l08Open.mono_l : ∀ k, (∀ y0 y1 y2 y3 y4 y5, LeO (spec_l08Open.l0 k y0 y1 y2 y3 y4 y5) (spec_l08Open.l0 (k + 1) y0 y1 y2 y3 y4 y5)) ∧ (∀ y0 y1 y2 y3 y4 y5 y6, LeO (spec_l08Open.l1 k y0 y1 y2 y3 y4 y5 y6) (spec_l08Open.l1 (k + 1) y0 y1 y2 y3 y4 y5 y6)) ∧ (∀ y0 y1 y2 y3 y4 y5 y6 y7 y8 y9 y10, LeO (spec_l08Open.j2 k y0 y1 y2 y3 y4 y5 y6 y7 y8 y9 y10) (spec_l08Open.j2 (k + 1) y0 y1 y2 y3 y4 y5 y6 y7 y8 y9 y10))
 | 0 => ⟨fun _ _ _ _ _ _ r h => by simp [spec_l08Open.l0] at h, fun _ _ _ _ _ _ _ r h => by simp [spec_l08Open.l1] at h, fun _ _ _ _ _ _ _ _ _ _ _ r h => by simp [spec_l08Open.j2] at h⟩
 | k + 1 => by
  obtain ⟨ih0, ih1, ih2⟩ := spec_l08Open.mono_l k
  refine ⟨?_, ?_, ?_⟩
  ·intro y0 y1 y2 y3 y4 y5
   unfold spec_l08Open.l0
   repeat' first
   | (with_reducible exact ih0 _ _ _ _ _ _)
   | (with_reducible exact ih1 _ _ _ _ _ _ _)
   | (with_reducible exact ih2 _ _ _ _ _ _ _ _ _ _ _)
   | (with_reducible exact spec_l00Has.mono _ _ _)
   | (with_reducible exact spec_l00Put.mono _ _ _)
   | (with_reducible exact LeO.refl _)
   | (with_reducible exact LeO.none _)
   | (with_reducible refine LeO.ite ?_ ?_)
   | (with_reducible refine LeO.bind ?_ (fun _ => ?_))
   | exact ih0 _ _ _ _ _ _
   | exact ih1 _ _ _ _ _ _ _
   | exact ih2 _ _ _ _ _ _ _ _ _ _ _
   | exact spec_l00Has.mono _ _ _
   | exact spec_l00Put.mono _ _ _
   | exact LeO.none _
   | refine LeO.ite ?_ ?_
   | refine LeO.bind ?_ (fun _ => ?_)
  ·intro y0 y1 y2 y3 y4 y5 y6
   unfold spec_l08Open.l1
   repeat' first
   | (with_reducible exact ih0 _ _ _ _ _ _)
   | (with_reducible exact ih1 _ _ _ _ _ _ _)
   | (with_reducible exact ih2 _ _ _ _ _ _ _ _ _ _ _)
   | (with_reducible exact spec_l00Has.mono _ _ _)
   | (with_reducible exact spec_l00Put.mono _ _ _)
   | (with_reducible exact LeO.refl _)
   | (with_reducible exact LeO.none _)
   | (with_reducible refine LeO.ite ?_ ?_)
   | (with_reducible refine LeO.bind ?_ (fun _ => ?_))
   | exact ih0 _ _ _ _ _ _
   | exact ih1 _ _ _ _ _ _ _
   | exact ih2 _ _ _ _ _ _ _ _ _ _ _
   | exact spec_l00Has.mono _ _ _
   | exact spec_l00Put.mono _ _ _
   | exact LeO.none _
   | refine LeO.ite ?_ ?_
   | refine LeO.bind ?_ (fun _ => ?_)
  ·intro y0 y1 y2 y3 y4 y5 y6 y7 y8 y9 y10
   unfold spec_l08Open.j2
   repeat' first
   | (with_reducible exact ih0 _ _ _ _ _ _)
   | (with_reducible exact ih1 _ _ _ _ _ _ _)
   | (with_reducible exact ih2 _ _ _ _ _ _ _ _ _ _ _)
   | (with_reducible exact spec_l00Has.mono _ _ _)
   | (with_reducible exact spec_l00Put.mono _ _ _)
   | (with_reducible exact LeO.refl _)
   | (with_reducible exact LeO.none _)
   | (with_reducible refine LeO.ite ?_ ?_)
   | (with_reducible refine LeO.bind ?_ (fun _ => ?_))
   | exact ih0 _ _ _ _ _ _
   | exact ih1 _ _ _ _ _ _ _
   | exact ih2 _ _ _ _ _ _ _ _ _ _ _
   | exact spec_l00Has.mono _ _ _
   | exact spec_l00Put.mono _ _ _
   | exact LeO.none _
   | refine LeO.ite ?_ ?_
   | refine LeO.bind ?_ (fun _ => ?_)
theorem spec_l08Open.mono : ∀ a0 a1 a2 k, LeO (spec_l08Open.f k a0 a1 a2) (spec_l08Open.f (k + 1) a0 a1 a2) := by
 intro a0 a1 a2 k
 obtain ⟨ih0, ih1, ih2⟩ := spec_l08Open.mono_l k
 unfold spec_l08Open.f
 repeat' first
   | (with_reducible exact ih0 _ _ _ _ _ _)
   | (with_reducible exact ih1 _ _ _ _ _ _ _)
   | (with_reducible exact ih2 _ _ _ _ _ _ _ _ _ _ _)
   | (with_reducible exact spec_l00Has.mono _ _ _)
   | (with_reducible exact spec_l00Put.mono _ _ _)
   | (with_reducible exact LeO.refl _)
   | (with_reducible exact LeO.none _)
   | (with_reducible refine LeO.ite ?_ ?_)
   | (with_reducible refine LeO.bind ?_ (fun _ => ?_))
   | exact ih0 _ _ _ _ _ _
   | exact ih1 _ _ _ _ _ _ _
   | exact ih2 _ _ _ _ _ _ _ _ _ _ _
   | exact spec_l00Has.mono _ _ _
   | exact spec_l00Put.mono _ _ _
   | exact LeO.none _
   | refine LeO.ite ?_ ?_
   | refine LeO.bind ?_ (fun _ => ?_)
set_option maxHeartbeats 8000000 in
set_option maxRecDepth 100000 in
theorem spec_l08Open.calls (k : Nat) (g : Nat) (s0_0 : List Int) (s0_1 : List (S55)) (a1 : Int) (r : Bool) (w0 w : World) (hI : IsS36 w0 w g s0_0 s0_1) (hB : Below w0.heap.size w0 w) (h : spec_l08Open.f k s0_0 s0_1 a1 = some r) :
  Calls Try.prog 79 #[.pointer (some ⟨g, 0, none⟩), .int .i64 a1] w fun e w' => e = .returned (.bool r) ∧ IsS36 w0 w' g s0_0 s0_1 ∧ Below w0.heap.size w0 w' ∧ KeepBut w w' g none := by
 have hu55 := Try.underlying55
 have HI0 := Aside0.mk hI
 have HK := Aside0.mk (KeepBut.refl w g none)
 have HL := Aside0.mk hB.size
 clear hI
 have HW0 := Aside0.mk hB.size
 have HB := Aside0.mk hB
 clear hB
 have H : (spec_l08Open.l0 k a1 (([] : List Int)) (([a1] : List Int)) 0 s0_0 s0_1) = some r := h
 clear h
 obtain ⟨y205, hy205⟩ : ∃ y_ : List Int, y_ = (([] : List Int)) := ⟨_, rfl⟩
 replace H : (spec_l08Open.l0 k a1 y205 (([a1] : List Int)) 0 s0_0 s0_1) = some r := by first | (rw [hy205]; with_reducible exact H) | (have H2_ := (Option.bind_some _ _).symm.trans H; rw [hy205]; with_reducible exact H2_) | (have H2_ := (Option.bind_some _ _).symm.trans H; with_reducible exact H2_) | with_reducible exact H | (rw [hy205]; exact H) | exact H
 have Ny205 := Aside0.mk hy205
 clear hy205
 obtain ⟨y208, hy208⟩ : ∃ y_ : List Int, y_ = (([a1] : List Int)) := ⟨_, rfl⟩
 replace H : (spec_l08Open.l0 k a1 y205 y208 0 s0_0 s0_1) = some r := by first | (rw [hy208]; with_reducible exact H) | (have H2_ := (Option.bind_some _ _).symm.trans H; rw [hy208]; with_reducible exact H2_) | (have H2_ := (Option.bind_some _ _).symm.trans H; with_reducible exact H2_) | with_reducible exact H | (rw [hy208]; exact H) | exact H
 have Ny208 := Aside0.mk hy208
 clear hy208
 have H' := Aside0.mk H
 clear H
 go_enter Try.func79, Try.ntmps79
 go_wp2_with (first | ((with_reducible refine gate_dst (N := 10) rfl ?_); refine Kd.R_lit (Kd.int .i64) _ 2 ?hg (N := 10) ?hd (xs := ([] : List Int)) (inner := []) (ok := fun _ => True) (okp := fun _ => True) ?hr ?hp (fun _ hk => hk) trivial (Below.refl _ _) (Nat.le_refl _) (by simp) ?_; (case hd => rfl); (case hg => rfl); (case hr => first | (go_simp; done) | (go_simp; rfl)); (case hp => exact (Reps.none _ _)); intro v206 w3 ho4 hb hg_ hnew_; clear hg_ hnew_; (first | rw [← Ny205.out] at ho4 | (simp only [Int.reduceToNat] at ho4; rw [← Ny205.out] at ho4)); have n0_ := Aside0.mk (Kd.R_lower ho4 (keep_size (w := w) (g := g) (row := none) (by repeat (first | (with_reducible first | exact HK.out | apply KeepBut.set_ | apply keep_drewN | apply keep_drew | apply keep_alloc) | exact HK.out)))); have n1_ := Aside0.mk (IsS36.below (by repeat (first | (with_reducible first | exact HI0.out | apply IsS36.alloc | apply IsS36.drewN | apply IsS36.drew) | exact HI0.out)) hb); have n2_ := Aside0.mk (KeepBut.trans (by repeat (first | (with_reducible first | exact HK.out | apply KeepBut.set_ | apply keep_drewN | apply keep_drew | apply keep_alloc) | exact HK.out)) (KeepBut.of_below hb g none) (.inl rfl)); have n3_ := Aside0.mk (below_step (by repeat (first | (with_reducible first | exact HB.out | apply below_alloc | apply pw_below_drewN | apply below_drew1 | refine below_set ?_ (IsS36.ge HI0.out)) | exact HB.out)) hb); clear HI0; clear HK; clear HB; have HO207 := n0_; have HI0 := n1_; have HK := n2_; have HB := n3_; clear n0_ n1_ n2_ n3_; clear hb ho4) | ((with_reducible refine gate_dst (N := 12) rfl ?_); refine Kd.R_lit (Kd.int .i64) _ 2 ?hg (N := 12) ?hd (xs := ([a1] : List Int)) (inner := [.int .i64 a1]) (ok := fun _ => True) (okp := fun _ => True) ?hr ?hp (fun _ hk => hk) trivial (Below.refl _ _) (Nat.le_refl _) (by simp) ?_; (case hd => rfl); (case hg => rfl); (case hr => first | (go_simp; done) | (go_simp; rfl)); (case hp => exact (Reps.one (show Kd.M (Kd.int .i64) _ _ _ a1 [.int .i64 a1] from rfl) (Reps.none _ _))); intro v209 w5 ho6 hb hg_ hnew_; clear hg_ hnew_; (first | rw [← Ny208.out] at ho6 | (simp only [Int.reduceToNat] at ho6; rw [← Ny208.out] at ho6)); have n0_ := Aside0.mk (Kd.R_elder' (by (with_reducible repeat (first | apply Kd.R_alloc | apply Kd.R_drewN | apply Kd.R_drew)); exact HO207.out) (Kd.R_base ho6) hb); have n1_ := Aside0.mk (Kd.R_lower (Kd.R_new' ho6 (Kd.R_lt (by (with_reducible repeat (first | apply Kd.R_alloc | apply Kd.R_drewN | apply Kd.R_drew)); exact HO207.out))) (keep_size (w := w) (g := g) (row := none) (by repeat (first | (with_reducible first | exact HK.out | apply KeepBut.set_ | apply keep_drewN | apply keep_drew | apply keep_alloc) | exact HK.out)))); have n2_ := Aside0.mk (IsS36.below (by repeat (first | (with_reducible first | exact HI0.out | apply IsS36.alloc | apply IsS36.drewN | apply IsS36.drew) | exact HI0.out)) hb); have n3_ := Aside0.mk (KeepBut.trans (by repeat (first | (with_reducible first | exact HK.out | apply KeepBut.set_ | apply keep_drewN | apply keep_drew | apply keep_alloc) | exact HK.out)) (KeepBut.of_below hb g none) (.inl rfl)); have n4_ := Aside0.mk (below_step (by repeat (first | (with_reducible first | exact HB.out | apply below_alloc | apply pw_below_drewN | apply below_drew1 | refine below_set ?_ (IsS36.ge HI0.out)) | exact HB.out)) hb); clear HO207; clear HI0; clear HK; clear HB; have HO207 := n0_; have HO210 := n1_; have HI0 := n2_; have HK := n3_; have HB := n4_; clear n0_ n1_ n2_ n3_ n4_; clear hb ho6))
 repeat (go_quiet (first | ((with_reducible refine gate_dst (N := 10) rfl ?_); refine Kd.R_lit (Kd.int .i64) _ 2 ?hg (N := 10) ?hd (xs := ([] : List Int)) (inner := []) (ok := fun _ => True) (okp := fun _ => True) ?hr ?hp (fun _ hk => hk) trivial (Below.refl _ _) (Nat.le_refl _) (by simp) ?_; (case hd => rfl); (case hg => rfl); (case hr => first | (go_simp; done) | (go_simp; rfl)); (case hp => exact (Reps.none _ _)); intro v206 w3 ho4 hb hg_ hnew_; clear hg_ hnew_; (first | rw [← Ny205.out] at ho4 | (simp only [Int.reduceToNat] at ho4; rw [← Ny205.out] at ho4)); have n0_ := Aside0.mk (Kd.R_lower ho4 (keep_size (w := w) (g := g) (row := none) (by repeat (first | (with_reducible first | exact HK.out | apply KeepBut.set_ | apply keep_drewN | apply keep_drew | apply keep_alloc) | exact HK.out)))); have n1_ := Aside0.mk (IsS36.below (by repeat (first | (with_reducible first | exact HI0.out | apply IsS36.alloc | apply IsS36.drewN | apply IsS36.drew) | exact HI0.out)) hb); have n2_ := Aside0.mk (KeepBut.trans (by repeat (first | (with_reducible first | exact HK.out | apply KeepBut.set_ | apply keep_drewN | apply keep_drew | apply keep_alloc) | exact HK.out)) (KeepBut.of_below hb g none) (.inl rfl)); have n3_ := Aside0.mk (below_step (by repeat (first | (with_reducible first | exact HB.out | apply below_alloc | apply pw_below_drewN | apply below_drew1 | refine below_set ?_ (IsS36.ge HI0.out)) | exact HB.out)) hb); clear HI0; clear HK; clear HB; have HO207 := n0_; have HI0 := n1_; have HK := n2_; have HB := n3_; clear n0_ n1_ n2_ n3_; clear hb ho4) | ((with_reducible refine gate_dst (N := 12) rfl ?_); refine Kd.R_lit (Kd.int .i64) _ 2 ?hg (N := 12) ?hd (xs := ([a1] : List Int)) (inner := [.int .i64 a1]) (ok := fun _ => True) (okp := fun _ => True) ?hr ?hp (fun _ hk => hk) trivial (Below.refl _ _) (Nat.le_refl _) (by simp) ?_; (case hd => rfl); (case hg => rfl); (case hr => first | (go_simp; done) | (go_simp; rfl)); (case hp => exact (Reps.one (show Kd.M (Kd.int .i64) _ _ _ a1 [.int .i64 a1] from rfl) (Reps.none _ _))); intro v209 w5 ho6 hb hg_ hnew_; clear hg_ hnew_; (first | rw [← Ny208.out] at ho6 | (simp only [Int.reduceToNat] at ho6; rw [← Ny208.out] at ho6)); have n0_ := Aside0.mk (Kd.R_elder' (by (with_reducible repeat (first | apply Kd.R_alloc | apply Kd.R_drewN | apply Kd.R_drew)); exact HO207.out) (Kd.R_base ho6) hb); have n1_ := Aside0.mk (Kd.R_lower (Kd.R_new' ho6 (Kd.R_lt (by (with_reducible repeat (first | apply Kd.R_alloc | apply Kd.R_drewN | apply Kd.R_drew)); exact HO207.out))) (keep_size (w := w) (g := g) (row := none) (by repeat (first | (with_reducible first | exact HK.out | apply KeepBut.set_ | apply keep_drewN | apply keep_drew | apply keep_alloc) | exact HK.out)))); have n2_ := Aside0.mk (IsS36.below (by repeat (first | (with_reducible first | exact HI0.out | apply IsS36.alloc | apply IsS36.drewN | apply IsS36.drew) | exact HI0.out)) hb); have n3_ := Aside0.mk (KeepBut.trans (by repeat (first | (with_reducible first | exact HK.out | apply KeepBut.set_ | apply keep_drewN | apply keep_drew | apply keep_alloc) | exact HK.out)) (KeepBut.of_below hb g none) (.inl rfl)); have n4_ := Aside0.mk (below_step (by repeat (first | (with_reducible first | exact HB.out | apply below_alloc | apply pw_below_drewN | apply below_drew1 | refine below_set ?_ (IsS36.ge HI0.out)) | exact HB.out)) hb); clear HO207; clear HI0; clear HK; clear HB; have HO207 := n0_; have HO210 := n1_; have HI0 := n2_; have HK := n3_; have HB := n4_; clear n0_ n1_ n2_ n3_ n4_; clear hb ho6)); try go_wp2_with (first | ((with_reducible refine gate_dst (N := 10) rfl ?_); refine Kd.R_lit (Kd.int .i64) _ 2 ?hg (N := 10) ?hd (xs := ([] : List Int)) (inner := []) (ok := fun _ => True) (okp := fun _ => True) ?hr ?hp (fun _ hk => hk) trivial (Below.refl _ _) (Nat.le_refl _) (by simp) ?_; (case hd => rfl); (case hg => rfl); (case hr => first | (go_simp; done) | (go_simp; rfl)); (case hp => exact (Reps.none _ _)); intro v206 w3 ho4 hb hg_ hnew_; clear hg_ hnew_; (first | rw [← Ny205.out] at ho4 | (simp only [Int.reduceToNat] at ho4; rw [← Ny205.out] at ho4)); have n0_ := Aside0.mk (Kd.R_lower ho4 (keep_size (w := w) (g := g) (row := none) (by repeat (first | (with_reducible first | exact HK.out | apply KeepBut.set_ | apply keep_drewN | apply keep_drew | apply keep_alloc) | exact HK.out)))); have n1_ := Aside0.mk (IsS36.below (by repeat (first | (with_reducible first | exact HI0.out | apply IsS36.alloc | apply IsS36.drewN | apply IsS36.drew) | exact HI0.out)) hb); have n2_ := Aside0.mk (KeepBut.trans (by repeat (first | (with_reducible first | exact HK.out | apply KeepBut.set_ | apply keep_drewN | apply keep_drew | apply keep_alloc) | exact HK.out)) (KeepBut.of_below hb g none) (.inl rfl)); have n3_ := Aside0.mk (below_step (by repeat (first | (with_reducible first | exact HB.out | apply below_alloc | apply pw_below_drewN | apply below_drew1 | refine below_set ?_ (IsS36.ge HI0.out)) | exact HB.out)) hb); clear HI0; clear HK; clear HB; have HO207 := n0_; have HI0 := n1_; have HK := n2_; have HB := n3_; clear n0_ n1_ n2_ n3_; clear hb ho4) | ((with_reducible refine gate_dst (N := 12) rfl ?_); refine Kd.R_lit (Kd.int .i64) _ 2 ?hg (N := 12) ?hd (xs := ([a1] : List Int)) (inner := [.int .i64 a1]) (ok := fun _ => True) (okp := fun _ => True) ?hr ?hp (fun _ hk => hk) trivial (Below.refl _ _) (Nat.le_refl _) (by simp) ?_; (case hd => rfl); (case hg => rfl); (case hr => first | (go_simp; done) | (go_simp; rfl)); (case hp => exact (Reps.one (show Kd.M (Kd.int .i64) _ _ _ a1 [.int .i64 a1] from rfl) (Reps.none _ _))); intro v209 w5 ho6 hb hg_ hnew_; clear hg_ hnew_; (first | rw [← Ny208.out] at ho6 | (simp only [Int.reduceToNat] at ho6; rw [← Ny208.out] at ho6)); have n0_ := Aside0.mk (Kd.R_elder' (by (with_reducible repeat (first | apply Kd.R_alloc | apply Kd.R_drewN | apply Kd.R_drew)); exact HO207.out) (Kd.R_base ho6) hb); have n1_ := Aside0.mk (Kd.R_lower (Kd.R_new' ho6 (Kd.R_lt (by (with_reducible repeat (first | apply Kd.R_alloc | apply Kd.R_drewN | apply Kd.R_drew)); exact HO207.out))) (keep_size (w := w) (g := g) (row := none) (by repeat (first | (with_reducible first | exact HK.out | apply KeepBut.set_ | apply keep_drewN | apply keep_drew | apply keep_alloc) | exact HK.out)))); have n2_ := Aside0.mk (IsS36.below (by repeat (first | (with_reducible first | exact HI0.out | apply IsS36.alloc | apply IsS36.drewN | apply IsS36.drew) | exact HI0.out)) hb); have n3_ := Aside0.mk (KeepBut.trans (by repeat (first | (with_reducible first | exact HK.out | apply KeepBut.set_ | apply keep_drewN | apply keep_drew | apply keep_alloc) | exact HK.out)) (KeepBut.of_below hb g none) (.inl rfl)); have n4_ := Aside0.mk (below_step (by repeat (first | (with_reducible first | exact HB.out | apply below_alloc | apply pw_below_drewN | apply below_drew1 | refine below_set ?_ (IsS36.ge HI0.out)) | exact HB.out)) hb); clear HO207; clear HI0; clear HK; clear HB; have HO207 := n0_; have HO210 := n1_; have HI0 := n2_; have HK := n3_; have HB := n4_; clear n0_ n1_ n2_ n3_ n4_; clear hb ho6)))
 go_loopg [5, 6, 7] k (fun kq v5 v6 v7 w' => ∃ (x5_1 : List Int) (x6_1 : List Int) (x7_1 : Int), v7 = .int .i64 x7_1 ∧ Aside0 (spec_l08Open.l0 kq a1 x5_1 x6_1 x7_1 s0_0 s0_1 = some r) ∧ Aside0 (kq ≤ k) ∧ Aside0 (Kd.R (Kd.int .i64) 2 w' w.heap.size (fun k_ => some k_ ≠ (v6 : Value).ownBlock) v5 x5_1) ∧ Aside0 (Kd.R (Kd.int .i64) 2 w' w.heap.size (fun k_ => some k_ ≠ (v5 : Value).ownBlock) v6 x6_1) ∧ Aside0 (IsS36 w0 w' g s0_0 s0_1) ∧ Aside0 (KeepBut w w' g none) ∧ Aside0 (Below w0.heap.size w0 w'))
 case atStart => exact ⟨(y205), (y208), (0), (by first | rfl | (simp; done) | (simp [*]; done)), H', ⟨Nat.le_refl _⟩, ⟨by (with_reducible repeat (first | apply Kd.R_alloc | apply Kd.R_drewN | apply Kd.R_drew)); exact Kd.R_mono HO207.out (fun _ hk => hk.2)⟩, ⟨by (with_reducible repeat (first | apply Kd.R_alloc | apply Kd.R_drewN | apply Kd.R_drew)); exact Kd.R_mono HO210.out (fun _ hk => hk.2)⟩, ⟨by repeat (first | (with_reducible first | exact HI0.out | apply IsS36.alloc | apply IsS36.drewN | apply IsS36.drew) | exact HI0.out)⟩, ⟨by repeat (first | (with_reducible first | exact HK.out | apply KeepBut.set_ | apply keep_drewN | apply keep_drew | apply keep_alloc) | exact HK.out)⟩, ⟨by repeat (first | (with_reducible first | exact HB.out | apply below_alloc | apply pw_below_drewN | apply below_drew1 | refine below_set ?_ (IsS36.ge HI0.out)) | exact HB.out)⟩⟩
 case round =>
  clear H'
  try clear p2
  obtain ⟨x5_1, x6_1, x7_1, rfl, HA, HK1, HO_5, HO_6, HI0, HK, HB⟩ := hrel
  cases gk with
  | zero => exact absurd HA.out (by simp [spec_l08Open.l0])
  | succ k1 =>
   have H := HA.out
   clear HA
   simp only [spec_l08Open.l0] at H
   by_cases c7 : x7_1 < (x6_1.length : Int)
   ·rw [if_pos c7] at H
    have c7b0 : decide (x7_1 < (x6_1.length : Int)) = true := decide_eq_true c7
    clear c7
    have H' := Aside0.mk H
    clear H
    obtain ⟨Ao8, co8, eo8⟩ := Kd.R_slice HO_6.out
    subst eo8
    go_wp2
    repeat (go_quiet (fail); try go_wp2)
    go_loopg [5, 6, 8] k1 (fun kq v5 v6 v8 w' => ∃ (x5_2 : List Int) (x6_2 : List Int) (x8_2 : Int), v8 = .int .i64 x8_2 ∧ Aside0 (spec_l08Open.l1 kq a1 x5_2 x6_2 x7_1 x8_2 s0_0 s0_1 = some r) ∧ Aside0 (kq ≤ k1) ∧ Aside0 (Kd.R (Kd.int .i64) 2 w' w.heap.size (fun k_ => some k_ ≠ (v6 : Value).ownBlock) v5 x5_2) ∧ Aside0 (Kd.R (Kd.int .i64) 2 w' w.heap.size (fun k_ => some k_ ≠ (v5 : Value).ownBlock) v6 x6_2) ∧ Aside0 (IsS36 w0 w' g s0_0 s0_1) ∧ Aside0 (KeepBut w w' g none) ∧ Aside0 (Below w0.heap.size w0 w'))
    case atStart => exact ⟨(x5_1), (x6_1), (0), (by first | rfl | (simp; done) | (simp [*]; done)), H', ⟨Nat.le_refl _⟩, ⟨by (with_reducible repeat (first | apply Kd.R_alloc | apply Kd.R_drewN | apply Kd.R_drew)); exact HO_5.out⟩, ⟨by (with_reducible repeat (first | apply Kd.R_alloc | apply Kd.R_drewN | apply Kd.R_drew)); exact HO_6.out⟩, ⟨by repeat (first | (with_reducible first | exact HI0.out | apply IsS36.alloc | apply IsS36.drewN | apply IsS36.drew) | exact HI0.out)⟩, ⟨by repeat (first | (with_reducible first | exact HK.out | apply KeepBut.set_ | apply keep_drewN | apply keep_drew | apply keep_alloc) | exact HK.out)⟩, ⟨by repeat (first | (with_reducible first | exact HB.out | apply below_alloc | apply pw_below_drewN | apply below_drew1 | refine below_set ?_ (IsS36.ge HI0.out)) | exact HB.out)⟩⟩
    case round =>
     clear H'
     try clear p2
     try clear c7
     try clear c7b0
     try clear p2
     obtain ⟨x5_2, x6_2, x8_2, rfl, HA, HK2, HO_5, HO_6, HI0, HK, HB⟩ := hrel
     cases gk with
     | zero => exact absurd HA.out (by simp [spec_l08Open.l1])
     | succ k2 =>
      have H := HA.out
      clear HA
      simp only [spec_l08Open.l1] at H
      by_cases c9 : x8_2 < (s0_1.length : Int)
      ·rw [if_pos c9] at H
       have c9b0 : decide (x8_2 < (s0_1.length : Int)) = true := decide_eq_true c9
       clear c9
       by_cases c10 : 0 ≤ x8_2
       ·rw [if_pos c10] at H
        have c10b0 : decide (0 ≤ x8_2) = true := decide_eq_true c10
        clear c10
        have HC11 := Aside0.mk H
        clear H
        obtain ⟨ASz12_0, cSz12_0, ASz12_1, cSz12_1, HGz12, hgz12, HSz12_0, HSz12_1⟩ := HI0.out
        have hcz12_0 := cellS36_0 HGz12
        have hcz12_1 := cellS36_1 HGz12
        clear HGz12 hgz12
        have p211 : 0 ≤ (x8_2 : Int) := of_decide_eq_true (by first | (with_reducible assumption) | assumption)
        have q211 : x8_2 < (s0_1.length : Int) := of_decide_eq_true (by first | (with_reducible assumption) | assumption)
        obtain ⟨ad211, e211, hx211_0, hx211_1, hx211_2⟩ := at_T55 HSz12_1 x8_2 p211 q211
        cases e211
        replace hx211_0 := pw_cell_below HB.out hx211_0
        replace hx211_1 := pw_cell_below HB.out hx211_1
        replace hx211_2 := pw_cell_below HB.out hx211_2
        replace p211 := eq_true p211
        replace q211 := eq_true q211
        go_upto_region 10 with (first | ((with_reducible refine gate_dst (N := 9) rfl ?_); refine box_event ?hg (N := 9) ?hd (cs := #[.int .i64 0, .int .i64 0, .int .i64 0]) (t := 55) ?hr ?_; (case hd => rfl); (case hg => rfl); (case hr => first | (go_simp; done) | (go_simp; rfl)); intro gb212 hg w13 hbox hb; have n0_ := Aside0.mk (Kd.R_below (by (with_reducible repeat (first | apply Kd.R_alloc | apply Kd.R_drewN | apply Kd.R_drew)); exact HO_5.out) hb); have n1_ := Aside0.mk (Kd.R_below (by (with_reducible repeat (first | apply Kd.R_alloc | apply Kd.R_drewN | apply Kd.R_drew)); exact HO_6.out) hb); have n2_ := Aside0.mk (IsS36.below (by repeat (first | (with_reducible first | exact HI0.out | apply IsS36.alloc | apply IsS36.drewN | apply IsS36.drew) | exact HI0.out)) hb); have n3_ := Aside0.mk (KeepBut.trans (by repeat (first | (with_reducible first | exact HK.out | apply KeepBut.set_ | apply keep_drewN | apply keep_drew | apply keep_alloc) | exact HK.out)) (KeepBut.of_below hb g none) (.inl rfl)); have n4_ := Aside0.mk (below_step (by repeat (first | (with_reducible first | exact HB.out | apply below_alloc | apply pw_below_drewN | apply below_drew1 | refine below_set ?_ (IsS36.ge HI0.out)) | exact HB.out)) hb); have n5_ := Aside0.mk (hbox); have n6_ := Aside0.mk ((by rw [hg]; exact (keep_size (w := w) (g := g) (row := none) (by repeat (first | (with_reducible first | exact HK.out | apply KeepBut.set_ | apply keep_drewN | apply keep_drew | apply keep_alloc) | exact HK.out))) : w.heap.size ≤ gb212)); have n7_ := Aside0.mk ((Nat.le_trans HW0.out (by rw [hg]; exact (keep_size (w := w) (g := g) (row := none) (by repeat (first | (with_reducible first | exact HK.out | apply KeepBut.set_ | apply keep_drewN | apply keep_drew | apply keep_alloc) | exact HK.out))) : w.heap.size ≤ gb212) : w0.heap.size ≤ gb212)); have n8_ := Aside0.mk ((by rw [hg]; exact Nat.ne_of_lt (IsS36.lt (show IsS36 w0 _ g s0_0 s0_1 from by repeat (first | (with_reducible first | exact HI0.out | apply IsS36.alloc | apply IsS36.drewN | apply IsS36.drew) | exact HI0.out))) : g ≠ gb212)); have n9_ := Aside0.mk ((by rw [hg]; exact Nat.ne_of_gt (IsS36.lt (show IsS36 w0 _ g s0_0 s0_1 from by repeat (first | (with_reducible first | exact HI0.out | apply IsS36.alloc | apply IsS36.drewN | apply IsS36.drew) | exact HI0.out))) : gb212 ≠ g)); clear HO_5; clear HO_6; clear HI0; clear HK; clear HB; have HO_5 := n0_; have HO_6 := n1_; have HI0 := n2_; have HK := n3_; have HB := n4_; have BK212 := n5_; have GW212 := n6_; have GE212 := n7_; have NB0_212 := n8_; have NB212_0 := n9_; clear n0_ n1_ n2_ n3_ n4_ n5_ n6_ n7_ n8_ n9_; clear hb hbox hg; have hnb14 := NB212_0.out; have hnc14 := NB0_212.out; have hcz15_0 : w13.cell? ⟨gb212, 0, none⟩ = some (.int .i64 0) := (blk_cell BK212.out 0).trans rfl; have hcz15_1 : w13.cell? ⟨gb212, 1, none⟩ = some (.int .i64 0) := (blk_cell BK212.out 1).trans rfl; have hcz15_2 : w13.cell? ⟨gb212, 2, none⟩ = some (.int .i64 0) := (blk_cell BK212.out 2).trans rfl; have hfz15_0 := blk_frozen BK212.out 0; have hfz15_1 := blk_frozen BK212.out 1; have hfz15_2 := blk_frozen BK212.out 2))
        repeat (go_quiet (first | ((with_reducible refine gate_dst (N := 9) rfl ?_); refine box_event ?hg (N := 9) ?hd (cs := #[.int .i64 0, .int .i64 0, .int .i64 0]) (t := 55) ?hr ?_; (case hd => rfl); (case hg => rfl); (case hr => first | (go_simp; done) | (go_simp; rfl)); intro gb212 hg w13 hbox hb; have n0_ := Aside0.mk (Kd.R_below (by (with_reducible repeat (first | apply Kd.R_alloc | apply Kd.R_drewN | apply Kd.R_drew)); exact HO_5.out) hb); have n1_ := Aside0.mk (Kd.R_below (by (with_reducible repeat (first | apply Kd.R_alloc | apply Kd.R_drewN | apply Kd.R_drew)); exact HO_6.out) hb); have n2_ := Aside0.mk (IsS36.below (by repeat (first | (with_reducible first | exact HI0.out | apply IsS36.alloc | apply IsS36.drewN | apply IsS36.drew) | exact HI0.out)) hb); have n3_ := Aside0.mk (KeepBut.trans (by repeat (first | (with_reducible first | exact HK.out | apply KeepBut.set_ | apply keep_drewN | apply keep_drew | apply keep_alloc) | exact HK.out)) (KeepBut.of_below hb g none) (.inl rfl)); have n4_ := Aside0.mk (below_step (by repeat (first | (with_reducible first | exact HB.out | apply below_alloc | apply pw_below_drewN | apply below_drew1 | refine below_set ?_ (IsS36.ge HI0.out)) | exact HB.out)) hb); have n5_ := Aside0.mk (hbox); have n6_ := Aside0.mk ((by rw [hg]; exact (keep_size (w := w) (g := g) (row := none) (by repeat (first | (with_reducible first | exact HK.out | apply KeepBut.set_ | apply keep_drewN | apply keep_drew | apply keep_alloc) | exact HK.out))) : w.heap.size ≤ gb212)); have n7_ := Aside0.mk ((Nat.le_trans HW0.out (by rw [hg]; exact (keep_size (w := w) (g := g) (row := none) (by repeat (first | (with_reducible first | exact HK.out | apply KeepBut.set_ | apply keep_drewN | apply keep_drew | apply keep_alloc) | exact HK.out))) : w.heap.size ≤ gb212) : w0.heap.size ≤ gb212)); have n8_ := Aside0.mk ((by rw [hg]; exact Nat.ne_of_lt (IsS36.lt (show IsS36 w0 _ g s0_0 s0_1 from by repeat (first | (with_reducible first | exact HI0.out | apply IsS36.alloc | apply IsS36.drewN | apply IsS36.drew) | exact HI0.out))) : g ≠ gb212)); have n9_ := Aside0.mk ((by rw [hg]; exact Nat.ne_of_gt (IsS36.lt (show IsS36 w0 _ g s0_0 s0_1 from by repeat (first | (with_reducible first | exact HI0.out | apply IsS36.alloc | apply IsS36.drewN | apply IsS36.drew) | exact HI0.out))) : gb212 ≠ g)); clear HO_5; clear HO_6; clear HI0; clear HK; clear HB; have HO_5 := n0_; have HO_6 := n1_; have HI0 := n2_; have HK := n3_; have HB := n4_; have BK212 := n5_; have GW212 := n6_; have GE212 := n7_; have NB0_212 := n8_; have NB212_0 := n9_; clear n0_ n1_ n2_ n3_ n4_ n5_ n6_ n7_ n8_ n9_; clear hb hbox hg; have hnb14 := NB212_0.out; have hnc14 := NB0_212.out; have hcz15_0 : w13.cell? ⟨gb212, 0, none⟩ = some (.int .i64 0) := (blk_cell BK212.out 0).trans rfl; have hcz15_1 : w13.cell? ⟨gb212, 1, none⟩ = some (.int .i64 0) := (blk_cell BK212.out 1).trans rfl; have hcz15_2 : w13.cell? ⟨gb212, 2, none⟩ = some (.int .i64 0) := (blk_cell BK212.out 2).trans rfl; have hfz15_0 := blk_frozen BK212.out 0; have hfz15_1 := blk_frozen BK212.out 1; have hfz15_2 := blk_frozen BK212.out 2)); go_upto_region 10 with (first | ((with_reducible refine gate_dst (N := 9) rfl ?_); refine box_event ?hg (N := 9) ?hd (cs := #[.int .i64 0, .int .i64 0, .int .i64 0]) (t := 55) ?hr ?_; (case hd => rfl); (case hg => rfl); (case hr => first | (go_simp; done) | (go_simp; rfl)); intro gb212 hg w13 hbox hb; have n0_ := Aside0.mk (Kd.R_below (by (with_reducible repeat (first | apply Kd.R_alloc | apply Kd.R_drewN | apply Kd.R_drew)); exact HO_5.out) hb); have n1_ := Aside0.mk (Kd.R_below (by (with_reducible repeat (first | apply Kd.R_alloc | apply Kd.R_drewN | apply Kd.R_drew)); exact HO_6.out) hb); have n2_ := Aside0.mk (IsS36.below (by repeat (first | (with_reducible first | exact HI0.out | apply IsS36.alloc | apply IsS36.drewN | apply IsS36.drew) | exact HI0.out)) hb); have n3_ := Aside0.mk (KeepBut.trans (by repeat (first | (with_reducible first | exact HK.out | apply KeepBut.set_ | apply keep_drewN | apply keep_drew | apply keep_alloc) | exact HK.out)) (KeepBut.of_below hb g none) (.inl rfl)); have n4_ := Aside0.mk (below_step (by repeat (first | (with_reducible first | exact HB.out | apply below_alloc | apply pw_below_drewN | apply below_drew1 | refine below_set ?_ (IsS36.ge HI0.out)) | exact HB.out)) hb); have n5_ := Aside0.mk (hbox); have n6_ := Aside0.mk ((by rw [hg]; exact (keep_size (w := w) (g := g) (row := none) (by repeat (first | (with_reducible first | exact HK.out | apply KeepBut.set_ | apply keep_drewN | apply keep_drew | apply keep_alloc) | exact HK.out))) : w.heap.size ≤ gb212)); have n7_ := Aside0.mk ((Nat.le_trans HW0.out (by rw [hg]; exact (keep_size (w := w) (g := g) (row := none) (by repeat (first | (with_reducible first | exact HK.out | apply KeepBut.set_ | apply keep_drewN | apply keep_drew | apply keep_alloc) | exact HK.out))) : w.heap.size ≤ gb212) : w0.heap.size ≤ gb212)); have n8_ := Aside0.mk ((by rw [hg]; exact Nat.ne_of_lt (IsS36.lt (show IsS36 w0 _ g s0_0 s0_1 from by repeat (first | (with_reducible first | exact HI0.out | apply IsS36.alloc | apply IsS36.drewN | apply IsS36.drew) | exact HI0.out))) : g ≠ gb212)); have n9_ := Aside0.mk ((by rw [hg]; exact Nat.ne_of_gt (IsS36.lt (show IsS36 w0 _ g s0_0 s0_1 from by repeat (first | (with_reducible first | exact HI0.out | apply IsS36.alloc | apply IsS36.drewN | apply IsS36.drew) | exact HI0.out))) : gb212 ≠ g)); clear HO_5; clear HO_6; clear HI0; clear HK; clear HB; have HO_5 := n0_; have HO_6 := n1_; have HI0 := n2_; have HK := n3_; have HB := n4_; have BK212 := n5_; have GW212 := n6_; have GE212 := n7_; have NB0_212 := n8_; have NB212_0 := n9_; clear n0_ n1_ n2_ n3_ n4_ n5_ n6_ n7_ n8_ n9_; clear hb hbox hg; have hnb14 := NB212_0.out; have hnc14 := NB0_212.out; have hcz15_0 : w13.cell? ⟨gb212, 0, none⟩ = some (.int .i64 0) := (blk_cell BK212.out 0).trans rfl; have hcz15_1 : w13.cell? ⟨gb212, 1, none⟩ = some (.int .i64 0) := (blk_cell BK212.out 1).trans rfl; have hcz15_2 : w13.cell? ⟨gb212, 2, none⟩ = some (.int .i64 0) := (blk_cell BK212.out 2).trans rfl; have hfz15_0 := blk_frozen BK212.out 0; have hfz15_1 := blk_frozen BK212.out 1; have hfz15_2 := blk_frozen BK212.out 2)))
        (try simp only [Act.put, List.setIfInBounds_toArray, List.set_cons_zero, List.set_cons_succ])
        go_cut [46] (fun v46 wc => ∃ (kq : Nat) (x46_10 : Bool), v46 = .bool x46_10 ∧ Aside0 (spec_l08Open.j2 kq a1 x5_2 x6_2 x7_1 x8_2 x46_10 s0_0 s0_1 ((rd_T55 s0_1 x8_2).f0) ((rd_T55 s0_1 x8_2).f1) ((rd_T55 s0_1 x8_2).f2) = some r) ∧ Aside0 (kq ≤ k2) ∧ Aside0 (Kd.R (Kd.int .i64) 2 wc w.heap.size (fun k_ => some k_ ≠ (u6 : Value).ownBlock) u5 x5_2) ∧ Aside0 (Kd.R (Kd.int .i64) 2 wc w.heap.size (fun k_ => some k_ ≠ (u5 : Value).ownBlock) u6 x6_2) ∧ Aside0 (wc.heap[gb212]? = some (.cells #[.int .i64 ((rd_T55 s0_1 x8_2).f0), .int .i64 ((rd_T55 s0_1 x8_2).f1), .int .i64 ((rd_T55 s0_1 x8_2).f2)] 55 (0, 0))) ∧ Aside0 (IsS36 w0 wc g s0_0 s0_1) ∧ Aside0 (KeepBut w wc g none) ∧ Aside0 (Below w0.heap.size w0 wc))
        case first =>
         have H := HC11.out
         clear HC11
         by_cases c16 : 0 ≤ x7_1
         ·rw [if_pos c16] at H
          have c16b0 : decide (0 ≤ x7_1) = true := decide_eq_true c16
          clear c16
          (first | rw [c16b0] | (simp only [i64_w, i32_w]; rw [c16b0]) | skip)
          by_cases c17 : x7_1 < (x6_2.length : Int)
          ·rw [if_pos c17] at H
           have c17b0 : decide (x7_1 < (x6_2.length : Int)) = true := decide_eq_true c17
           clear c17
           by_cases c18 : ((rd_T55 s0_1 x8_2).f0) = (rd x6_2 x7_1)
           ·rw [if_pos c18] at H
            have c18b0 : (((rd_T55 s0_1 x8_2).f0) == (rd x6_2 x7_1)) = true := beq_iff_eq.mpr c18
            have c18b1 : (((rd_T55 s0_1 x8_2).f0) != (rd x6_2 x7_1)) = false := bne_eq_false_iff_eq.mpr c18
            clear c18
            have H' := Aside0.mk H
            clear H
            have hnb19 := NB212_0.out
            have hnc19 := NB0_212.out
            have hcz20_0 : w13.cell? ⟨gb212, 0, none⟩ = some (.int .i64 0) := (blk_cell BK212.out 0).trans rfl
            have hcz20_1 : w13.cell? ⟨gb212, 1, none⟩ = some (.int .i64 0) := (blk_cell BK212.out 1).trans rfl
            have hcz20_2 : w13.cell? ⟨gb212, 2, none⟩ = some (.int .i64 0) := (blk_cell BK212.out 2).trans rfl
            have hfz20_0 := blk_frozen BK212.out 0
            have hfz20_1 := blk_frozen BK212.out 1
            have hfz20_2 := blk_frozen BK212.out 2
            obtain ⟨Ao21, co21, eo21⟩ := Kd.R_slice HO_6.out
            subst eo21
            have p213 : 0 ≤ (x7_1 : Int) := of_decide_eq_true (by first | (with_reducible assumption) | assumption)
            have q213 : x7_1 < (x6_2.length : Int) := of_decide_eq_true (by first | (with_reducible assumption) | assumption)
            obtain ⟨ad213, e213, hx213_0⟩ := Kd.at_int (Kd.R_reads' HO_6.out).2.2 x7_1 p213 q213
            cases e213
            have hn213_0 : ad213.block ≠ gb212 := Kd.own_blk (Kd.R_ne HO_6.out BK212.out (by decide))
            have hn213_1 : ad213.block ≠ gb212 := Kd.own_blk (Kd.R_ne HO_6.out BK212.out (by decide))
            have hn213_2 : ad213.block ≠ gb212 := Kd.own_blk (Kd.R_ne HO_6.out BK212.out (by decide))
            replace hx213_0 := (cell_far (p := ⟨gb212, 0, none⟩) (by first | (rw [add_block]; exact hn213_0) | (show (Addr.add _ _).block ≠ _; rw [add_block]; exact hn213_0) | exact hn213_0) (.int .i64 ((rd_T55 s0_1 x8_2).f0))).trans hx213_0
            replace hx213_0 := (cell_far (p := ⟨gb212, 1, none⟩) (by first | (rw [add_block]; exact hn213_1) | (show (Addr.add _ _).block ≠ _; rw [add_block]; exact hn213_1) | exact hn213_1) (.int .i64 ((rd_T55 s0_1 x8_2).f1))).trans hx213_0
            replace hx213_0 := (cell_far (p := ⟨gb212, 2, none⟩) (by first | (rw [add_block]; exact hn213_2) | (show (Addr.add _ _).block ≠ _; rw [add_block]; exact hn213_2) | exact hn213_2) (.int .i64 ((rd_T55 s0_1 x8_2).f2))).trans hx213_0
            (try have hy213_0 := fun (n_ : Nat) => (show (((((w13.drewN n_).setCell ⟨gb212, 0, none⟩ (.int .i64 ((rd_T55 s0_1 x8_2).f0))).setCell ⟨gb212, 1, none⟩ (.int .i64 ((rd_T55 s0_1 x8_2).f1))).setCell ⟨gb212, 2, none⟩ (.int .i64 ((rd_T55 s0_1 x8_2).f2)))).cell? _ = some _ from hx213_0))
            clear hn213_0
            clear hn213_1
            clear hn213_2
            replace p213 := eq_true p213
            replace q213 := eq_true q213
            go_wp2
            repeat (go_quiet (fail); try go_wp2)
            go_meet
            case rel => exact ⟨_, (decide (((rd_T55 s0_1 x8_2).f2) > 0)), (by first | rfl | (simp; done) | (simp [*]; done)), H', ⟨by have := HK1.out; have := HK2.out; first | omega | exact Nat.le_refl _⟩, ⟨by (with_reducible repeat (first | apply Kd.R_alloc | apply Kd.R_drewN | apply Kd.R_drew)); exact Kd.R_mono (Kd.R_far (p := ⟨gb212, 2, none⟩) (Kd.R_far (p := ⟨gb212, 1, none⟩) (Kd.R_far (p := ⟨gb212, 0, none⟩) (Kd.R_types HO_5.out BK212.out (by decide)) (fun _ hk => hk.2) (.int .i64 ((rd_T55 s0_1 x8_2).f0))) (fun _ hk => hk.2) (.int .i64 ((rd_T55 s0_1 x8_2).f1))) (fun _ hk => hk.2) (.int .i64 ((rd_T55 s0_1 x8_2).f2))) (fun _ hk => hk.1)⟩, ⟨by (with_reducible repeat (first | apply Kd.R_alloc | apply Kd.R_drewN | apply Kd.R_drew)); exact Kd.R_mono (Kd.R_far (p := ⟨gb212, 2, none⟩) (Kd.R_far (p := ⟨gb212, 1, none⟩) (Kd.R_far (p := ⟨gb212, 0, none⟩) (Kd.R_types HO_6.out BK212.out (by decide)) (fun _ hk => hk.2) (.int .i64 ((rd_T55 s0_1 x8_2).f0))) (fun _ hk => hk.2) (.int .i64 ((rd_T55 s0_1 x8_2).f1))) (fun _ hk => hk.2) (.int .i64 ((rd_T55 s0_1 x8_2).f2))) (fun _ hk => hk.1)⟩, ⟨by (with_reducible repeat (first | refine blk_drewN ?_ _ | refine blk_drew ?_ | refine blk_alloc ?_ _)); refine blk_put (cs := #[.int .i64 ((rd_T55 s0_1 x8_2).f0), .int .i64 ((rd_T55 s0_1 x8_2).f1), .int .i64 0]) ?_ 2 _ rfl; (with_reducible repeat (first | refine blk_drewN ?_ _ | refine blk_drew ?_ | refine blk_alloc ?_ _)); refine blk_put (cs := #[.int .i64 ((rd_T55 s0_1 x8_2).f0), .int .i64 0, .int .i64 0]) ?_ 1 _ rfl; (with_reducible repeat (first | refine blk_drewN ?_ _ | refine blk_drew ?_ | refine blk_alloc ?_ _)); refine blk_put (cs := #[.int .i64 0, .int .i64 0, .int .i64 0]) ?_ 0 _ rfl; (with_reducible repeat (first | refine blk_drewN ?_ _ | refine blk_drew ?_ | refine blk_alloc ?_ _)); exact BK212.out⟩, ⟨by repeat (first | (with_reducible first | exact HI0.out | apply IsS36.alloc | apply IsS36.drewN | apply IsS36.drew | refine IsS36.far ?_ NB0_212.out _) | exact HI0.out)⟩, ⟨by repeat (first | (with_reducible first | exact HK.out | apply KeepBut.set_ | apply keep_drewN | apply keep_drew | apply keep_alloc | refine keep_far ?_ GW212.out _) | exact HK.out)⟩, ⟨by repeat (first | (with_reducible first | exact HB.out | apply below_alloc | apply pw_below_drewN | apply below_drew1 | refine below_set ?_ (IsS36.ge HI0.out) | refine below_set ?_ GE212.out) | exact HB.out)⟩⟩
           ·rw [if_neg c18] at H
            have c18b0 : (((rd_T55 s0_1 x8_2).f0) == (rd x6_2 x7_1)) = false := beq_eq_false_iff_ne.mpr c18
            have c18b1 : (((rd_T55 s0_1 x8_2).f0) != (rd x6_2 x7_1)) = true := bne_iff_ne.mpr c18
            have H' := Aside0.mk H
            clear H
            have hnb22 := NB212_0.out
            have hnc22 := NB0_212.out
            have hcz23_0 : w13.cell? ⟨gb212, 0, none⟩ = some (.int .i64 0) := (blk_cell BK212.out 0).trans rfl
            have hcz23_1 : w13.cell? ⟨gb212, 1, none⟩ = some (.int .i64 0) := (blk_cell BK212.out 1).trans rfl
            have hcz23_2 : w13.cell? ⟨gb212, 2, none⟩ = some (.int .i64 0) := (blk_cell BK212.out 2).trans rfl
            have hfz23_0 := blk_frozen BK212.out 0
            have hfz23_1 := blk_frozen BK212.out 1
            have hfz23_2 := blk_frozen BK212.out 2
            obtain ⟨Ao24, co24, eo24⟩ := Kd.R_slice HO_6.out
            subst eo24
            have p213 : 0 ≤ (x7_1 : Int) := of_decide_eq_true (by first | (with_reducible assumption) | assumption)
            have q213 : x7_1 < (x6_2.length : Int) := of_decide_eq_true (by first | (with_reducible assumption) | assumption)
            obtain ⟨ad213, e213, hx213_0⟩ := Kd.at_int (Kd.R_reads' HO_6.out).2.2 x7_1 p213 q213
            cases e213
            have hn213_0 : ad213.block ≠ gb212 := Kd.own_blk (Kd.R_ne HO_6.out BK212.out (by decide))
            have hn213_1 : ad213.block ≠ gb212 := Kd.own_blk (Kd.R_ne HO_6.out BK212.out (by decide))
            have hn213_2 : ad213.block ≠ gb212 := Kd.own_blk (Kd.R_ne HO_6.out BK212.out (by decide))
            replace hx213_0 := (cell_far (p := ⟨gb212, 0, none⟩) (by first | (rw [add_block]; exact hn213_0) | (show (Addr.add _ _).block ≠ _; rw [add_block]; exact hn213_0) | exact hn213_0) (.int .i64 ((rd_T55 s0_1 x8_2).f0))).trans hx213_0
            replace hx213_0 := (cell_far (p := ⟨gb212, 1, none⟩) (by first | (rw [add_block]; exact hn213_1) | (show (Addr.add _ _).block ≠ _; rw [add_block]; exact hn213_1) | exact hn213_1) (.int .i64 ((rd_T55 s0_1 x8_2).f1))).trans hx213_0
            replace hx213_0 := (cell_far (p := ⟨gb212, 2, none⟩) (by first | (rw [add_block]; exact hn213_2) | (show (Addr.add _ _).block ≠ _; rw [add_block]; exact hn213_2) | exact hn213_2) (.int .i64 ((rd_T55 s0_1 x8_2).f2))).trans hx213_0
            (try have hy213_0 := fun (n_ : Nat) => (show (((((w13.drewN n_).setCell ⟨gb212, 0, none⟩ (.int .i64 ((rd_T55 s0_1 x8_2).f0))).setCell ⟨gb212, 1, none⟩ (.int .i64 ((rd_T55 s0_1 x8_2).f1))).setCell ⟨gb212, 2, none⟩ (.int .i64 ((rd_T55 s0_1 x8_2).f2)))).cell? _ = some _ from hx213_0))
            clear hn213_0
            clear hn213_1
            clear hn213_2
            replace p213 := eq_true p213
            replace q213 := eq_true q213
            go_wp2
            repeat (go_quiet (fail); try go_wp2)
            go_meet
            case rel => exact ⟨_, (true), (by first | rfl | (simp; done) | (simp [*]; done)), H', ⟨by have := HK1.out; have := HK2.out; first | omega | exact Nat.le_refl _⟩, ⟨by (with_reducible repeat (first | apply Kd.R_alloc | apply Kd.R_drewN | apply Kd.R_drew)); exact Kd.R_mono (Kd.R_far (p := ⟨gb212, 2, none⟩) (Kd.R_far (p := ⟨gb212, 1, none⟩) (Kd.R_far (p := ⟨gb212, 0, none⟩) (Kd.R_types HO_5.out BK212.out (by decide)) (fun _ hk => hk.2) (.int .i64 ((rd_T55 s0_1 x8_2).f0))) (fun _ hk => hk.2) (.int .i64 ((rd_T55 s0_1 x8_2).f1))) (fun _ hk => hk.2) (.int .i64 ((rd_T55 s0_1 x8_2).f2))) (fun _ hk => hk.1)⟩, ⟨by (with_reducible repeat (first | apply Kd.R_alloc | apply Kd.R_drewN | apply Kd.R_drew)); exact Kd.R_mono (Kd.R_far (p := ⟨gb212, 2, none⟩) (Kd.R_far (p := ⟨gb212, 1, none⟩) (Kd.R_far (p := ⟨gb212, 0, none⟩) (Kd.R_types HO_6.out BK212.out (by decide)) (fun _ hk => hk.2) (.int .i64 ((rd_T55 s0_1 x8_2).f0))) (fun _ hk => hk.2) (.int .i64 ((rd_T55 s0_1 x8_2).f1))) (fun _ hk => hk.2) (.int .i64 ((rd_T55 s0_1 x8_2).f2))) (fun _ hk => hk.1)⟩, ⟨by (with_reducible repeat (first | refine blk_drewN ?_ _ | refine blk_drew ?_ | refine blk_alloc ?_ _)); refine blk_put (cs := #[.int .i64 ((rd_T55 s0_1 x8_2).f0), .int .i64 ((rd_T55 s0_1 x8_2).f1), .int .i64 0]) ?_ 2 _ rfl; (with_reducible repeat (first | refine blk_drewN ?_ _ | refine blk_drew ?_ | refine blk_alloc ?_ _)); refine blk_put (cs := #[.int .i64 ((rd_T55 s0_1 x8_2).f0), .int .i64 0, .int .i64 0]) ?_ 1 _ rfl; (with_reducible repeat (first | refine blk_drewN ?_ _ | refine blk_drew ?_ | refine blk_alloc ?_ _)); refine blk_put (cs := #[.int .i64 0, .int .i64 0, .int .i64 0]) ?_ 0 _ rfl; (with_reducible repeat (first | refine blk_drewN ?_ _ | refine blk_drew ?_ | refine blk_alloc ?_ _)); exact BK212.out⟩, ⟨by repeat (first | (with_reducible first | exact HI0.out | apply IsS36.alloc | apply IsS36.drewN | apply IsS36.drew | refine IsS36.far ?_ NB0_212.out _) | exact HI0.out)⟩, ⟨by repeat (first | (with_reducible first | exact HK.out | apply KeepBut.set_ | apply keep_drewN | apply keep_drew | apply keep_alloc | refine keep_far ?_ GW212.out _) | exact HK.out)⟩, ⟨by repeat (first | (with_reducible first | exact HB.out | apply below_alloc | apply pw_below_drewN | apply below_drew1 | refine below_set ?_ (IsS36.ge HI0.out) | refine below_set ?_ GE212.out) | exact HB.out)⟩⟩
          ·rw [if_neg c17] at H
           exact absurd H (by simp)
         ·rw [if_neg c16] at H
          exact absurd H (by simp)
        case rest =>
         clear HC11
         try clear c1
         try clear c2
         try clear p2
         try clear q2
         try clear hx2
         try clear c7
         try clear c7b0
         try clear c9
         try clear c9b0
         try clear c10
         try clear c10b0
         try clear c14
         try clear c16
         try clear c16b0
         try clear c17
         try clear c17b0
         try clear c18
         try clear c18b0
         try clear c18b1
         try clear c19
         try clear p21
         try clear q21
         try clear hx21
         try clear c22
         try clear hcz12_0
         try clear hcz12_1
         try clear hcz15_0
         try clear hcz15_1
         try clear hcz15_2
         try clear hcz20_0
         try clear hcz20_1
         try clear hcz20_2
         try clear hcz23_0
         try clear hcz23_1
         try clear hcz23_2
         try clear hfz15_0
         try clear hfz15_1
         try clear hfz15_2
         try clear hfz20_0
         try clear hfz20_1
         try clear hfz20_2
         try clear hfz23_0
         try clear hfz23_1
         try clear hfz23_2
         try clear hx211_0
         try clear hx211_1
         try clear hx211_2
         try clear hx213_0
         try clear p2
         try clear p211
         try clear p213
         try clear q211
         try clear q213
         obtain ⟨kq, x46_10, rfl, HA, HJ10, HO_5, HO_6, BK212, HI0, HK, HB⟩ := hcut
         cases kq with
         | zero => exact absurd HA.out (by simp [spec_l08Open.j2])
         | succ kj10 =>
          have H := HA.out
          clear HA
          simp only [spec_l08Open.j2] at H
          by_cases c25 : x46_10 = true
          ·subst c25
           have H1 : (spec_l08Open.l1 kj10 a1 x5_2 x6_2 x7_1 (wrap64 (x8_2 + 1)) s0_0 s0_1) = some r := by rw [if_pos rfl] at H; exact H
           clear H
           have H := H1
           clear H1
           have H' := Aside0.mk H
           clear H
           go_wp2
           repeat (go_quiet (fail); try go_wp2)
           go_roundg kj10
           case measure => have := HK1.out; have := HK2.out; have := HJ10.out; omega
           case rel => exact ⟨(x5_2), (x6_2), (wrap64 (x8_2 + 1)), (by first | rfl | (simp; done) | (simp [*]; done)), H', ⟨by have := HK1.out; have := HK2.out; have := HJ10.out; omega⟩, ⟨by (with_reducible repeat (first | apply Kd.R_alloc | apply Kd.R_drewN | apply Kd.R_drew)); exact HO_5.out⟩, ⟨by (with_reducible repeat (first | apply Kd.R_alloc | apply Kd.R_drewN | apply Kd.R_drew)); exact HO_6.out⟩, ⟨by repeat (first | (with_reducible first | exact HI0.out | apply IsS36.alloc | apply IsS36.drewN | apply IsS36.drew | refine IsS36.far ?_ NB0_212.out _) | exact HI0.out)⟩, ⟨by repeat (first | (with_reducible first | exact HK.out | apply KeepBut.set_ | apply keep_drewN | apply keep_drew | apply keep_alloc | refine keep_far ?_ GW212.out _) | exact HK.out)⟩, ⟨by repeat (first | (with_reducible first | exact HB.out | apply below_alloc | apply pw_below_drewN | apply below_drew1 | refine below_set ?_ (IsS36.ge HI0.out) | refine below_set ?_ GE212.out) | exact HB.out)⟩⟩
          ·replace c25 := Bool.eq_false_iff.mpr c25
           subst c25
           have H1 : (if ((rd_T55 s0_1 x8_2).f1) = a1 then (some true) else ((spec_l00Has.f kj10 x5_2 ((rd_T55 s0_1 x8_2).f1)).bind fun t214 => (if t214 = true then (spec_l08Open.l1 kj10 a1 x5_2 x6_2 x7_1 (wrap64 (x8_2 + 1)) s0_0 s0_1) else ((spec_l00Put.f kj10 x5_2 ((rd_T55 s0_1 x8_2).f1)).bind fun t215 => (if x6_2.length < 17592186044416 then (spec_l08Open.l1 kj10 a1 t215 (x6_2 ++ [((rd_T55 s0_1 x8_2).f1)]) x7_1 (wrap64 (x8_2 + 1)) s0_0 s0_1) else (none)))))) = some r := by rw [if_neg (show ¬ (false = true) by decide)] at H; exact H
           clear H
           have H := H1
           clear H1
           by_cases c26 : ((rd_T55 s0_1 x8_2).f1) = a1
           ·rw [if_pos c26] at H
            have c26b0 : (((rd_T55 s0_1 x8_2).f1) == a1) = true := beq_iff_eq.mpr c26
            have c26b1 : (((rd_T55 s0_1 x8_2).f1) != a1) = false := bne_eq_false_iff_eq.mpr c26
            clear c26
            obtain rfl := Option.some.inj H
            have hnb27 := NB212_0.out
            have hnc27 := NB0_212.out
            have hcz28_0 : wc.cell? ⟨gb212, 0, none⟩ = some (.int .i64 ((rd_T55 s0_1 x8_2).f0)) := (blk_cell BK212.out 0).trans rfl
            have hcz28_1 : wc.cell? ⟨gb212, 1, none⟩ = some (.int .i64 ((rd_T55 s0_1 x8_2).f1)) := (blk_cell BK212.out 1).trans rfl
            have hcz28_2 : wc.cell? ⟨gb212, 2, none⟩ = some (.int .i64 ((rd_T55 s0_1 x8_2).f2)) := (blk_cell BK212.out 2).trans rfl
            have hfz28_0 := blk_frozen BK212.out 0
            have hfz28_1 := blk_frozen BK212.out 1
            have hfz28_2 := blk_frozen BK212.out 2
            go_wp2
            repeat (go_quiet (fail); try go_wp2)
            go_ret
            exact ⟨by first | rfl | (simp [errW_none, errW_some] <;> rfl) | (simp [*, errW_none, errW_some] <;> rfl), by repeat (first | (with_reducible first | exact HI0.out | apply IsS36.alloc | apply IsS36.drewN | apply IsS36.drew | refine IsS36.far ?_ NB0_212.out _) | exact HI0.out), by repeat (first | (with_reducible first | exact HB.out | apply below_alloc | apply pw_below_drewN | apply below_drew1 | refine below_set ?_ (IsS36.ge HI0.out) | refine below_set ?_ GE212.out) | exact HB.out), by repeat (first | (with_reducible first | exact HK.out | apply KeepBut.set_ | apply keep_drewN | apply keep_drew | apply keep_alloc | refine keep_far ?_ GW212.out _) | exact HK.out)⟩
           ·rw [if_neg c26] at H
            have c26b0 : (((rd_T55 s0_1 x8_2).f1) == a1) = false := beq_eq_false_iff_ne.mpr c26
            have c26b1 : (((rd_T55 s0_1 x8_2).f1) != a1) = true := bne_iff_ne.mpr c26
            replace H := Option.bind_eq_some_iff.mp H
            obtain ⟨t214, A290, H⟩ := H
            replace H : (if t214 = true then (spec_l08Open.l1 kj10 a1 x5_2 x6_2 x7_1 (wrap64 (x8_2 + 1)) s0_0 s0_1) else ((spec_l00Put.f kj10 x5_2 ((rd_T55 s0_1 x8_2).f1)).bind fun t215 => (if x6_2.length < 17592186044416 then (spec_l08Open.l1 kj10 a1 t215 (x6_2 ++ [((rd_T55 s0_1 x8_2).f1)]) x7_1 (wrap64 (x8_2 + 1)) s0_0 s0_1) else (none)))) = some r := H
            have A29 := Aside0.mk A290
            clear A290
            by_cases c30 : t214 = true
            ·subst c30
             have H1 : (spec_l08Open.l1 kj10 a1 x5_2 x6_2 x7_1 (wrap64 (x8_2 + 1)) s0_0 s0_1) = some r := by rw [if_pos rfl] at H; exact H
             clear H
             have H := H1
             clear H1
             have H' := Aside0.mk H
             clear H
             have hnb31 := NB212_0.out
             have hnc31 := NB0_212.out
             have hcz32_0 : wc.cell? ⟨gb212, 0, none⟩ = some (.int .i64 ((rd_T55 s0_1 x8_2).f0)) := (blk_cell BK212.out 0).trans rfl
             have hcz32_1 : wc.cell? ⟨gb212, 1, none⟩ = some (.int .i64 ((rd_T55 s0_1 x8_2).f1)) := (blk_cell BK212.out 1).trans rfl
             have hcz32_2 : wc.cell? ⟨gb212, 2, none⟩ = some (.int .i64 ((rd_T55 s0_1 x8_2).f2)) := (blk_cell BK212.out 2).trans rfl
             have hfz32_0 := blk_frozen BK212.out 0
             have hfz32_1 := blk_frozen BK212.out 1
             have hfz32_2 := blk_frozen BK212.out 2
             obtain ⟨Ao33, co33, eo33⟩ := Kd.R_slice HO_5.out
             subst eo33
             go_wp2_with (first | (go_at_call 100; (with_reducible refine (spec_l00Has.calls kj10 _ _ x5_2 ((rd_T55 s0_1 x8_2).f1) true _ ?side1 ?side2 A29.out).mono ?_); (case side1 => repeat (first | exact (Kd.R_reads' HO_5.out).2.2 | (with_reducible refine Kd.C_alloc ?_ _) | (with_reducible refine Kd.C_drewN ?_ _) | (with_reducible refine Kd.C_drew ?_))); (case side2 => first | exact trivial | (exact (Kd.R_reads' HO_5.out).2.1)); rintro e w' ⟨rfl, ⟨nd, rfl⟩⟩; (try first | exact ⟨rfl, _, World.drewN_drewN _ _ _⟩ | exact ⟨rfl, _, Eq.trans (World.drewN_drewN _ _ _) (congrArg (World.drewN _) (Nat.add_assoc _ _ _))⟩)))
             repeat (go_quiet (first | (go_at_call 100; (with_reducible refine (spec_l00Has.calls kj10 _ _ x5_2 ((rd_T55 s0_1 x8_2).f1) true _ ?side1 ?side2 A29.out).mono ?_); (case side1 => repeat (first | exact (Kd.R_reads' HO_5.out).2.2 | (with_reducible refine Kd.C_alloc ?_ _) | (with_reducible refine Kd.C_drewN ?_ _) | (with_reducible refine Kd.C_drew ?_))); (case side2 => first | exact trivial | (exact (Kd.R_reads' HO_5.out).2.1)); rintro e w' ⟨rfl, ⟨nd, rfl⟩⟩; (try first | exact ⟨rfl, _, World.drewN_drewN _ _ _⟩ | exact ⟨rfl, _, Eq.trans (World.drewN_drewN _ _ _) (congrArg (World.drewN _) (Nat.add_assoc _ _ _))⟩))); try go_wp2_with (first | (go_at_call 100; (with_reducible refine (spec_l00Has.calls kj10 _ _ x5_2 ((rd_T55 s0_1 x8_2).f1) true _ ?side1 ?side2 A29.out).mono ?_); (case side1 => repeat (first | exact (Kd.R_reads' HO_5.out).2.2 | (with_reducible refine Kd.C_alloc ?_ _) | (with_reducible refine Kd.C_drewN ?_ _) | (with_reducible refine Kd.C_drew ?_))); (case side2 => first | exact trivial | (exact (Kd.R_reads' HO_5.out).2.1)); rintro e w' ⟨rfl, ⟨nd, rfl⟩⟩; (try first | exact ⟨rfl, _, World.drewN_drewN _ _ _⟩ | exact ⟨rfl, _, Eq.trans (World.drewN_drewN _ _ _) (congrArg (World.drewN _) (Nat.add_assoc _ _ _))⟩))))
             go_roundg kj10
             case measure => have := HK1.out; have := HK2.out; have := HJ10.out; omega
             case rel => exact ⟨(x5_2), (x6_2), (wrap64 (x8_2 + 1)), (by first | rfl | (simp; done) | (simp [*]; done)), H', ⟨by have := HK1.out; have := HK2.out; have := HJ10.out; omega⟩, ⟨by (with_reducible repeat (first | apply Kd.R_alloc | apply Kd.R_drewN | apply Kd.R_drew)); exact HO_5.out⟩, ⟨by (with_reducible repeat (first | apply Kd.R_alloc | apply Kd.R_drewN | apply Kd.R_drew)); exact HO_6.out⟩, ⟨by repeat (first | (with_reducible first | exact HI0.out | apply IsS36.alloc | apply IsS36.drewN | apply IsS36.drew | refine IsS36.far ?_ NB0_212.out _) | exact HI0.out)⟩, ⟨by repeat (first | (with_reducible first | exact HK.out | apply KeepBut.set_ | apply keep_drewN | apply keep_drew | apply keep_alloc | refine keep_far ?_ GW212.out _) | exact HK.out)⟩, ⟨by repeat (first | (with_reducible first | exact HB.out | apply below_alloc | apply pw_below_drewN | apply below_drew1 | refine below_set ?_ (IsS36.ge HI0.out) | refine below_set ?_ GE212.out) | exact HB.out)⟩⟩
            ·replace c30 := Bool.eq_false_iff.mpr c30
             subst c30
             have H1 : ((spec_l00Put.f kj10 x5_2 ((rd_T55 s0_1 x8_2).f1)).bind fun t215 => (if x6_2.length < 17592186044416 then (spec_l08Open.l1 kj10 a1 t215 (x6_2 ++ [((rd_T55 s0_1 x8_2).f1)]) x7_1 (wrap64 (x8_2 + 1)) s0_0 s0_1) else (none))) = some r := by rw [if_neg (show ¬ (false = true) by decide)] at H; exact H
             clear H
             have H := H1
             clear H1
             replace H := Option.bind_eq_some_iff.mp H
             obtain ⟨t215, A340, H⟩ := H
             replace H : (if x6_2.length < 17592186044416 then (spec_l08Open.l1 kj10 a1 t215 (x6_2 ++ [((rd_T55 s0_1 x8_2).f1)]) x7_1 (wrap64 (x8_2 + 1)) s0_0 s0_1) else (none)) = some r := H
             have A34 := Aside0.mk A340
             clear A340
             by_cases c35 : x6_2.length < 17592186044416
             ·rw [if_pos c35] at H
              have LMc35 := Aside0.mk c35
              clear c35
              obtain ⟨y218, hy218⟩ : ∃ y_ : List Int, y_ = (x6_2 ++ [((rd_T55 s0_1 x8_2).f1)]) := ⟨_, rfl⟩
              replace H : (spec_l08Open.l1 kj10 a1 t215 y218 x7_1 (wrap64 (x8_2 + 1)) s0_0 s0_1) = some r := by first | (rw [hy218]; with_reducible exact H) | (have H2_ := (Option.bind_some _ _).symm.trans H; rw [hy218]; with_reducible exact H2_) | (have H2_ := (Option.bind_some _ _).symm.trans H; with_reducible exact H2_) | with_reducible exact H | (rw [hy218]; exact H) | exact H
              have Ny218 := Aside0.mk hy218
              clear hy218
              have H' := Aside0.mk H
              clear H
              have hnb36 := NB212_0.out
              have hnc36 := NB0_212.out
              have hcz37_0 : wc.cell? ⟨gb212, 0, none⟩ = some (.int .i64 ((rd_T55 s0_1 x8_2).f0)) := (blk_cell BK212.out 0).trans rfl
              have hcz37_1 : wc.cell? ⟨gb212, 1, none⟩ = some (.int .i64 ((rd_T55 s0_1 x8_2).f1)) := (blk_cell BK212.out 1).trans rfl
              have hcz37_2 : wc.cell? ⟨gb212, 2, none⟩ = some (.int .i64 ((rd_T55 s0_1 x8_2).f2)) := (blk_cell BK212.out 2).trans rfl
              have hfz37_0 := blk_frozen BK212.out 0
              have hfz37_1 := blk_frozen BK212.out 1
              have hfz37_2 := blk_frozen BK212.out 2
              obtain ⟨Ao38, co38, eo38⟩ := Kd.R_slice HO_5.out
              subst eo38
              go_wp2_with (first | (go_at_call 100; (with_reducible refine (spec_l00Has.calls kj10 _ _ x5_2 ((rd_T55 s0_1 x8_2).f1) false _ ?side1 ?side2 A29.out).mono ?_); (case side1 => repeat (first | exact (Kd.R_reads' HO_5.out).2.2 | (with_reducible refine Kd.C_alloc ?_ _) | (with_reducible refine Kd.C_drewN ?_ _) | (with_reducible refine Kd.C_drew ?_))); (case side2 => first | exact trivial | (exact (Kd.R_reads' HO_5.out).2.1)); rintro e w' ⟨rfl, ⟨nd, rfl⟩⟩; (try first | exact ⟨rfl, _, World.drewN_drewN _ _ _⟩ | exact ⟨rfl, _, Eq.trans (World.drewN_drewN _ _ _) (congrArg (World.drewN _) (Nat.add_assoc _ _ _))⟩)) | (go_at_call 101; (with_reducible refine (spec_l00Put.calls kj10 _ _ x5_2 ((rd_T55 s0_1 x8_2).f1) t215 _ ?side1 ?side2 A34.out).mono ?_); (case side1 => repeat (first | exact (Kd.R_reads' HO_5.out).2.2 | (with_reducible refine Kd.C_alloc ?_ _) | (with_reducible refine Kd.C_drewN ?_ _) | (with_reducible refine Kd.C_drew ?_))); (case side2 => first | exact trivial | (exact (Kd.R_reads' HO_5.out).2.1)); rintro e w39 ⟨v216, rfl, ho0, hb⟩; have n0_ := Aside0.mk (Kd.R_elder' (by (with_reducible repeat (first | apply Kd.R_alloc | apply Kd.R_drewN | apply Kd.R_drew)); exact HO_5.out) (Kd.R_base ho0) hb); have n1_ := Aside0.mk (Kd.R_elder' (by (with_reducible repeat (first | apply Kd.R_alloc | apply Kd.R_drewN | apply Kd.R_drew)); exact HO_6.out) (Kd.R_base ho0) hb); have n2_ := Aside0.mk (Kd.R_lower (Kd.R_new' (Kd.R_new' ho0 (Kd.R_lt (by (with_reducible repeat (first | apply Kd.R_alloc | apply Kd.R_drewN | apply Kd.R_drew)); exact HO_5.out))) (Kd.R_lt (by (with_reducible repeat (first | apply Kd.R_alloc | apply Kd.R_drewN | apply Kd.R_drew)); exact HO_6.out))) (keep_size (w := w) (g := g) (row := none) (by repeat (first | (with_reducible first | exact HK.out | apply KeepBut.set_ | apply keep_drewN | apply keep_drew | apply keep_alloc | refine keep_far ?_ GW212.out _) | exact HK.out)))); have n3_ := Aside0.mk (blk_below (g := gb212) (o := .cells #[.int .i64 ((rd_T55 s0_1 x8_2).f0), .int .i64 ((rd_T55 s0_1 x8_2).f1), .int .i64 ((rd_T55 s0_1 x8_2).f2)] 55 (0, 0)) (by (with_reducible repeat (first | refine blk_drewN ?_ _ | refine blk_drew ?_ | refine blk_alloc ?_ _)); exact BK212.out) hb); have n4_ := Aside0.mk (IsS36.below (by repeat (first | (with_reducible first | exact HI0.out | apply IsS36.alloc | apply IsS36.drewN | apply IsS36.drew | refine IsS36.far ?_ NB0_212.out _) | exact HI0.out)) hb); have n5_ := Aside0.mk (KeepBut.trans (by repeat (first | (with_reducible first | exact HK.out | apply KeepBut.set_ | apply keep_drewN | apply keep_drew | apply keep_alloc | refine keep_far ?_ GW212.out _) | exact HK.out)) (KeepBut.of_below hb g none) (.inl rfl)); have n6_ := Aside0.mk (below_step (by repeat (first | (with_reducible first | exact HB.out | apply below_alloc | apply pw_below_drewN | apply below_drew1 | refine below_set ?_ (IsS36.ge HI0.out) | refine below_set ?_ GE212.out) | exact HB.out)) hb); clear HO_5; clear HO_6; clear BK212; clear HI0; clear HK; clear HB; have HO_5 := n0_; have HO_6 := n1_; have HO217 := n2_; have BK212 := n3_; have HI0 := n4_; have HK := n5_; have HB := n6_; clear n0_ n1_ n2_ n3_ n4_ n5_ n6_; (try clear hb); (try clear hb2); (try clear hk); (try clear hi); (try clear ho0); have hcz40_0 : w39.cell? ⟨gb212, 0, none⟩ = some (.int .i64 ((rd_T55 s0_1 x8_2).f0)) := (blk_cell BK212.out 0).trans rfl; have hcz40_1 : w39.cell? ⟨gb212, 1, none⟩ = some (.int .i64 ((rd_T55 s0_1 x8_2).f1)) := (blk_cell BK212.out 1).trans rfl; have hcz40_2 : w39.cell? ⟨gb212, 2, none⟩ = some (.int .i64 ((rd_T55 s0_1 x8_2).f2)) := (blk_cell BK212.out 2).trans rfl; have hfz40_0 := blk_frozen BK212.out 0; have hfz40_1 := blk_frozen BK212.out 1; have hfz40_2 := blk_frozen BK212.out 2) | ((with_reducible refine gate_builtin (b := .append) (xs := #[.tmp 60, .tmp 63]) rfl ?_); at_builtin; refine Kd.R_append (Kd.int .i64) w.heap.size rfl (.tmp 60) (.tmp 63) 22 2 (.int .i64 0) 8 rfl Try.underlying22 info2 rfl (by decide) (by omega) u6 x6_2 ((rd_T55 s0_1 x8_2).f1) [.int .i64 ((rd_T55 s0_1 x8_2).f1)] (fun k_ => some k_ ≠ (.slice Ao38 x5_2.length co38 : Value).ownBlock ∧ some k_ ≠ (v216 : Value).ownBlock) (fun _ => False) rfl rfl ?aP (fun _ hk => hk.elim) ?aF ?aO (Below.refl _ _) ?aS ?aL ?_; (case aP => exact rfl); (case aF => exact (fun k_ hk => ⟨Kd.fresh' (Kd.R_lt (by (with_reducible repeat (first | apply Kd.R_alloc | apply Kd.R_drewN | apply Kd.R_drew)); exact HO_5.out)) k_ hk, Kd.fresh' (Kd.R_lt (by (with_reducible repeat (first | apply Kd.R_alloc | apply Kd.R_drewN | apply Kd.R_drew)); exact HO217.out)) k_ hk⟩)); (case aO => exact (by (with_reducible repeat (first | apply Kd.R_alloc | apply Kd.R_drewN | apply Kd.R_drew)); exact HO_6.out)); (case aS => exact (keep_size (w := w) (g := g) (row := none) (by repeat (first | (with_reducible first | exact HK.out | apply KeepBut.set_ | apply keep_drewN | apply keep_drew | apply keep_alloc | refine keep_far ?_ GW212.out _) | exact HK.out)))); (case aL => have := LMc35.out; omega); intro v219 w41 ho hb hg hat; rw [← Ny218.out] at ho; have n0_ := Aside0.mk (Kd.R_after (ok := (fun k_ => some k_ ≠ (v216 : Value).ownBlock)) (by (with_reducible repeat (first | apply Kd.R_alloc | apply Kd.R_drewN | apply Kd.R_drew)); exact Kd.R_mono HO_5.out (fun _ hk => ⟨hk.2, hk.1⟩)) hg hat); have n1_ := Aside0.mk (blk_grown (g := gb212) (o := .cells #[.int .i64 ((rd_T55 s0_1 x8_2).f0), .int .i64 ((rd_T55 s0_1 x8_2).f1), .int .i64 ((rd_T55 s0_1 x8_2).f2)] 55 (0, 0)) (by (with_reducible repeat (first | refine blk_drewN ?_ _ | refine blk_drew ?_ | refine blk_alloc ?_ _)); exact BK212.out) hg (Kd.R_ne HO_6.out BK212.out (by decide))); have n2_ := Aside0.mk (IsS36.grown (by repeat (first | (with_reducible first | exact HI0.out | apply IsS36.alloc | apply IsS36.drewN | apply IsS36.drew | refine IsS36.far ?_ NB0_212.out _) | exact HI0.out)) hg (IsS36.own_ne HI0.out HO_6.out (by decide))); have n3_ := Aside0.mk (Kd.R_after (ok := (fun k_ => some k_ ≠ (.slice Ao38 x5_2.length co38 : Value).ownBlock)) (by (with_reducible repeat (first | apply Kd.R_alloc | apply Kd.R_drewN | apply Kd.R_drew)); exact Kd.R_mono HO217.out (fun _ hk => ⟨hk.1.2, hk.2⟩)) hg hat); have n4_ := Aside0.mk (below_weaken (by repeat (first | (with_reducible first | exact HB.out | apply below_alloc | apply pw_below_drewN | apply below_drew1 | refine below_set ?_ (IsS36.ge HI0.out) | refine below_set ?_ GE212.out) | exact HB.out)) HL.out hb); have n5_ := Aside0.mk (KeepBut.trans (by repeat (first | (with_reducible first | exact HK.out | apply KeepBut.set_ | apply keep_drewN | apply keep_drew | apply keep_alloc | refine keep_far ?_ GW212.out _) | exact HK.out)) (KeepBut.of_grown hg g) (Kd.R_base2 HO_6.out)); have n6_ := Aside0.mk (ho); clear HO_5; clear BK212; clear HI0; clear HO217; clear HB; clear HK; clear HO_6; have HO_5 := n0_; have BK212 := n1_; have HI0 := n2_; have HO217 := n3_; have HB := n4_; have HK := n5_; have HO220 := n6_; clear n0_ n1_ n2_ n3_ n4_ n5_ n6_; clear ho hb hg hat))
              repeat (go_quiet (first | (go_at_call 100; (with_reducible refine (spec_l00Has.calls kj10 _ _ x5_2 ((rd_T55 s0_1 x8_2).f1) false _ ?side1 ?side2 A29.out).mono ?_); (case side1 => repeat (first | exact (Kd.R_reads' HO_5.out).2.2 | (with_reducible refine Kd.C_alloc ?_ _) | (with_reducible refine Kd.C_drewN ?_ _) | (with_reducible refine Kd.C_drew ?_))); (case side2 => first | exact trivial | (exact (Kd.R_reads' HO_5.out).2.1)); rintro e w' ⟨rfl, ⟨nd, rfl⟩⟩; (try first | exact ⟨rfl, _, World.drewN_drewN _ _ _⟩ | exact ⟨rfl, _, Eq.trans (World.drewN_drewN _ _ _) (congrArg (World.drewN _) (Nat.add_assoc _ _ _))⟩)) | (go_at_call 101; (with_reducible refine (spec_l00Put.calls kj10 _ _ x5_2 ((rd_T55 s0_1 x8_2).f1) t215 _ ?side1 ?side2 A34.out).mono ?_); (case side1 => repeat (first | exact (Kd.R_reads' HO_5.out).2.2 | (with_reducible refine Kd.C_alloc ?_ _) | (with_reducible refine Kd.C_drewN ?_ _) | (with_reducible refine Kd.C_drew ?_))); (case side2 => first | exact trivial | (exact (Kd.R_reads' HO_5.out).2.1)); rintro e w39 ⟨v216, rfl, ho0, hb⟩; have n0_ := Aside0.mk (Kd.R_elder' (by (with_reducible repeat (first | apply Kd.R_alloc | apply Kd.R_drewN | apply Kd.R_drew)); exact HO_5.out) (Kd.R_base ho0) hb); have n1_ := Aside0.mk (Kd.R_elder' (by (with_reducible repeat (first | apply Kd.R_alloc | apply Kd.R_drewN | apply Kd.R_drew)); exact HO_6.out) (Kd.R_base ho0) hb); have n2_ := Aside0.mk (Kd.R_lower (Kd.R_new' (Kd.R_new' ho0 (Kd.R_lt (by (with_reducible repeat (first | apply Kd.R_alloc | apply Kd.R_drewN | apply Kd.R_drew)); exact HO_5.out))) (Kd.R_lt (by (with_reducible repeat (first | apply Kd.R_alloc | apply Kd.R_drewN | apply Kd.R_drew)); exact HO_6.out))) (keep_size (w := w) (g := g) (row := none) (by repeat (first | (with_reducible first | exact HK.out | apply KeepBut.set_ | apply keep_drewN | apply keep_drew | apply keep_alloc | refine keep_far ?_ GW212.out _) | exact HK.out)))); have n3_ := Aside0.mk (blk_below (g := gb212) (o := .cells #[.int .i64 ((rd_T55 s0_1 x8_2).f0), .int .i64 ((rd_T55 s0_1 x8_2).f1), .int .i64 ((rd_T55 s0_1 x8_2).f2)] 55 (0, 0)) (by (with_reducible repeat (first | refine blk_drewN ?_ _ | refine blk_drew ?_ | refine blk_alloc ?_ _)); exact BK212.out) hb); have n4_ := Aside0.mk (IsS36.below (by repeat (first | (with_reducible first | exact HI0.out | apply IsS36.alloc | apply IsS36.drewN | apply IsS36.drew | refine IsS36.far ?_ NB0_212.out _) | exact HI0.out)) hb); have n5_ := Aside0.mk (KeepBut.trans (by repeat (first | (with_reducible first | exact HK.out | apply KeepBut.set_ | apply keep_drewN | apply keep_drew | apply keep_alloc | refine keep_far ?_ GW212.out _) | exact HK.out)) (KeepBut.of_below hb g none) (.inl rfl)); have n6_ := Aside0.mk (below_step (by repeat (first | (with_reducible first | exact HB.out | apply below_alloc | apply pw_below_drewN | apply below_drew1 | refine below_set ?_ (IsS36.ge HI0.out) | refine below_set ?_ GE212.out) | exact HB.out)) hb); clear HO_5; clear HO_6; clear BK212; clear HI0; clear HK; clear HB; have HO_5 := n0_; have HO_6 := n1_; have HO217 := n2_; have BK212 := n3_; have HI0 := n4_; have HK := n5_; have HB := n6_; clear n0_ n1_ n2_ n3_ n4_ n5_ n6_; (try clear hb); (try clear hb2); (try clear hk); (try clear hi); (try clear ho0); have hcz40_0 : w39.cell? ⟨gb212, 0, none⟩ = some (.int .i64 ((rd_T55 s0_1 x8_2).f0)) := (blk_cell BK212.out 0).trans rfl; have hcz40_1 : w39.cell? ⟨gb212, 1, none⟩ = some (.int .i64 ((rd_T55 s0_1 x8_2).f1)) := (blk_cell BK212.out 1).trans rfl; have hcz40_2 : w39.cell? ⟨gb212, 2, none⟩ = some (.int .i64 ((rd_T55 s0_1 x8_2).f2)) := (blk_cell BK212.out 2).trans rfl; have hfz40_0 := blk_frozen BK212.out 0; have hfz40_1 := blk_frozen BK212.out 1; have hfz40_2 := blk_frozen BK212.out 2) | ((with_reducible refine gate_builtin (b := .append) (xs := #[.tmp 60, .tmp 63]) rfl ?_); at_builtin; refine Kd.R_append (Kd.int .i64) w.heap.size rfl (.tmp 60) (.tmp 63) 22 2 (.int .i64 0) 8 rfl Try.underlying22 info2 rfl (by decide) (by omega) u6 x6_2 ((rd_T55 s0_1 x8_2).f1) [.int .i64 ((rd_T55 s0_1 x8_2).f1)] (fun k_ => some k_ ≠ (.slice Ao38 x5_2.length co38 : Value).ownBlock ∧ some k_ ≠ (v216 : Value).ownBlock) (fun _ => False) rfl rfl ?aP (fun _ hk => hk.elim) ?aF ?aO (Below.refl _ _) ?aS ?aL ?_; (case aP => exact rfl); (case aF => exact (fun k_ hk => ⟨Kd.fresh' (Kd.R_lt (by (with_reducible repeat (first | apply Kd.R_alloc | apply Kd.R_drewN | apply Kd.R_drew)); exact HO_5.out)) k_ hk, Kd.fresh' (Kd.R_lt (by (with_reducible repeat (first | apply Kd.R_alloc | apply Kd.R_drewN | apply Kd.R_drew)); exact HO217.out)) k_ hk⟩)); (case aO => exact (by (with_reducible repeat (first | apply Kd.R_alloc | apply Kd.R_drewN | apply Kd.R_drew)); exact HO_6.out)); (case aS => exact (keep_size (w := w) (g := g) (row := none) (by repeat (first | (with_reducible first | exact HK.out | apply KeepBut.set_ | apply keep_drewN | apply keep_drew | apply keep_alloc | refine keep_far ?_ GW212.out _) | exact HK.out)))); (case aL => have := LMc35.out; omega); intro v219 w41 ho hb hg hat; rw [← Ny218.out] at ho; have n0_ := Aside0.mk (Kd.R_after (ok := (fun k_ => some k_ ≠ (v216 : Value).ownBlock)) (by (with_reducible repeat (first | apply Kd.R_alloc | apply Kd.R_drewN | apply Kd.R_drew)); exact Kd.R_mono HO_5.out (fun _ hk => ⟨hk.2, hk.1⟩)) hg hat); have n1_ := Aside0.mk (blk_grown (g := gb212) (o := .cells #[.int .i64 ((rd_T55 s0_1 x8_2).f0), .int .i64 ((rd_T55 s0_1 x8_2).f1), .int .i64 ((rd_T55 s0_1 x8_2).f2)] 55 (0, 0)) (by (with_reducible repeat (first | refine blk_drewN ?_ _ | refine blk_drew ?_ | refine blk_alloc ?_ _)); exact BK212.out) hg (Kd.R_ne HO_6.out BK212.out (by decide))); have n2_ := Aside0.mk (IsS36.grown (by repeat (first | (with_reducible first | exact HI0.out | apply IsS36.alloc | apply IsS36.drewN | apply IsS36.drew | refine IsS36.far ?_ NB0_212.out _) | exact HI0.out)) hg (IsS36.own_ne HI0.out HO_6.out (by decide))); have n3_ := Aside0.mk (Kd.R_after (ok := (fun k_ => some k_ ≠ (.slice Ao38 x5_2.length co38 : Value).ownBlock)) (by (with_reducible repeat (first | apply Kd.R_alloc | apply Kd.R_drewN | apply Kd.R_drew)); exact Kd.R_mono HO217.out (fun _ hk => ⟨hk.1.2, hk.2⟩)) hg hat); have n4_ := Aside0.mk (below_weaken (by repeat (first | (with_reducible first | exact HB.out | apply below_alloc | apply pw_below_drewN | apply below_drew1 | refine below_set ?_ (IsS36.ge HI0.out) | refine below_set ?_ GE212.out) | exact HB.out)) HL.out hb); have n5_ := Aside0.mk (KeepBut.trans (by repeat (first | (with_reducible first | exact HK.out | apply KeepBut.set_ | apply keep_drewN | apply keep_drew | apply keep_alloc | refine keep_far ?_ GW212.out _) | exact HK.out)) (KeepBut.of_grown hg g) (Kd.R_base2 HO_6.out)); have n6_ := Aside0.mk (ho); clear HO_5; clear BK212; clear HI0; clear HO217; clear HB; clear HK; clear HO_6; have HO_5 := n0_; have BK212 := n1_; have HI0 := n2_; have HO217 := n3_; have HB := n4_; have HK := n5_; have HO220 := n6_; clear n0_ n1_ n2_ n3_ n4_ n5_ n6_; clear ho hb hg hat)); try go_wp2_with (first | (go_at_call 100; (with_reducible refine (spec_l00Has.calls kj10 _ _ x5_2 ((rd_T55 s0_1 x8_2).f1) false _ ?side1 ?side2 A29.out).mono ?_); (case side1 => repeat (first | exact (Kd.R_reads' HO_5.out).2.2 | (with_reducible refine Kd.C_alloc ?_ _) | (with_reducible refine Kd.C_drewN ?_ _) | (with_reducible refine Kd.C_drew ?_))); (case side2 => first | exact trivial | (exact (Kd.R_reads' HO_5.out).2.1)); rintro e w' ⟨rfl, ⟨nd, rfl⟩⟩; (try first | exact ⟨rfl, _, World.drewN_drewN _ _ _⟩ | exact ⟨rfl, _, Eq.trans (World.drewN_drewN _ _ _) (congrArg (World.drewN _) (Nat.add_assoc _ _ _))⟩)) | (go_at_call 101; (with_reducible refine (spec_l00Put.calls kj10 _ _ x5_2 ((rd_T55 s0_1 x8_2).f1) t215 _ ?side1 ?side2 A34.out).mono ?_); (case side1 => repeat (first | exact (Kd.R_reads' HO_5.out).2.2 | (with_reducible refine Kd.C_alloc ?_ _) | (with_reducible refine Kd.C_drewN ?_ _) | (with_reducible refine Kd.C_drew ?_))); (case side2 => first | exact trivial | (exact (Kd.R_reads' HO_5.out).2.1)); rintro e w39 ⟨v216, rfl, ho0, hb⟩; have n0_ := Aside0.mk (Kd.R_elder' (by (with_reducible repeat (first | apply Kd.R_alloc | apply Kd.R_drewN | apply Kd.R_drew)); exact HO_5.out) (Kd.R_base ho0) hb); have n1_ := Aside0.mk (Kd.R_elder' (by (with_reducible repeat (first | apply Kd.R_alloc | apply Kd.R_drewN | apply Kd.R_drew)); exact HO_6.out) (Kd.R_base ho0) hb); have n2_ := Aside0.mk (Kd.R_lower (Kd.R_new' (Kd.R_new' ho0 (Kd.R_lt (by (with_reducible repeat (first | apply Kd.R_alloc | apply Kd.R_drewN | apply Kd.R_drew)); exact HO_5.out))) (Kd.R_lt (by (with_reducible repeat (first | apply Kd.R_alloc | apply Kd.R_drewN | apply Kd.R_drew)); exact HO_6.out))) (keep_size (w := w) (g := g) (row := none) (by repeat (first | (with_reducible first | exact HK.out | apply KeepBut.set_ | apply keep_drewN | apply keep_drew | apply keep_alloc | refine keep_far ?_ GW212.out _) | exact HK.out)))); have n3_ := Aside0.mk (blk_below (g := gb212) (o := .cells #[.int .i64 ((rd_T55 s0_1 x8_2).f0), .int .i64 ((rd_T55 s0_1 x8_2).f1), .int .i64 ((rd_T55 s0_1 x8_2).f2)] 55 (0, 0)) (by (with_reducible repeat (first | refine blk_drewN ?_ _ | refine blk_drew ?_ | refine blk_alloc ?_ _)); exact BK212.out) hb); have n4_ := Aside0.mk (IsS36.below (by repeat (first | (with_reducible first | exact HI0.out | apply IsS36.alloc | apply IsS36.drewN | apply IsS36.drew | refine IsS36.far ?_ NB0_212.out _) | exact HI0.out)) hb); have n5_ := Aside0.mk (KeepBut.trans (by repeat (first | (with_reducible first | exact HK.out | apply KeepBut.set_ | apply keep_drewN | apply keep_drew | apply keep_alloc | refine keep_far ?_ GW212.out _) | exact HK.out)) (KeepBut.of_below hb g none) (.inl rfl)); have n6_ := Aside0.mk (below_step (by repeat (first | (with_reducible first | exact HB.out | apply below_alloc | apply pw_below_drewN | apply below_drew1 | refine below_set ?_ (IsS36.ge HI0.out) | refine below_set ?_ GE212.out) | exact HB.out)) hb); clear HO_5; clear HO_6; clear BK212; clear HI0; clear HK; clear HB; have HO_5 := n0_; have HO_6 := n1_; have HO217 := n2_; have BK212 := n3_; have HI0 := n4_; have HK := n5_; have HB := n6_; clear n0_ n1_ n2_ n3_ n4_ n5_ n6_; (try clear hb); (try clear hb2); (try clear hk); (try clear hi); (try clear ho0); have hcz40_0 : w39.cell? ⟨gb212, 0, none⟩ = some (.int .i64 ((rd_T55 s0_1 x8_2).f0)) := (blk_cell BK212.out 0).trans rfl; have hcz40_1 : w39.cell? ⟨gb212, 1, none⟩ = some (.int .i64 ((rd_T55 s0_1 x8_2).f1)) := (blk_cell BK212.out 1).trans rfl; have hcz40_2 : w39.cell? ⟨gb212, 2, none⟩ = some (.int .i64 ((rd_T55 s0_1 x8_2).f2)) := (blk_cell BK212.out 2).trans rfl; have hfz40_0 := blk_frozen BK212.out 0; have hfz40_1 := blk_frozen BK212.out 1; have hfz40_2 := blk_frozen BK212.out 2) | ((with_reducible refine gate_builtin (b := .append) (xs := #[.tmp 60, .tmp 63]) rfl ?_); at_builtin; refine Kd.R_append (Kd.int .i64) w.heap.size rfl (.tmp 60) (.tmp 63) 22 2 (.int .i64 0) 8 rfl Try.underlying22 info2 rfl (by decide) (by omega) u6 x6_2 ((rd_T55 s0_1 x8_2).f1) [.int .i64 ((rd_T55 s0_1 x8_2).f1)] (fun k_ => some k_ ≠ (.slice Ao38 x5_2.length co38 : Value).ownBlock ∧ some k_ ≠ (v216 : Value).ownBlock) (fun _ => False) rfl rfl ?aP (fun _ hk => hk.elim) ?aF ?aO (Below.refl _ _) ?aS ?aL ?_; (case aP => exact rfl); (case aF => exact (fun k_ hk => ⟨Kd.fresh' (Kd.R_lt (by (with_reducible repeat (first | apply Kd.R_alloc | apply Kd.R_drewN | apply Kd.R_drew)); exact HO_5.out)) k_ hk, Kd.fresh' (Kd.R_lt (by (with_reducible repeat (first | apply Kd.R_alloc | apply Kd.R_drewN | apply Kd.R_drew)); exact HO217.out)) k_ hk⟩)); (case aO => exact (by (with_reducible repeat (first | apply Kd.R_alloc | apply Kd.R_drewN | apply Kd.R_drew)); exact HO_6.out)); (case aS => exact (keep_size (w := w) (g := g) (row := none) (by repeat (first | (with_reducible first | exact HK.out | apply KeepBut.set_ | apply keep_drewN | apply keep_drew | apply keep_alloc | refine keep_far ?_ GW212.out _) | exact HK.out)))); (case aL => have := LMc35.out; omega); intro v219 w41 ho hb hg hat; rw [← Ny218.out] at ho; have n0_ := Aside0.mk (Kd.R_after (ok := (fun k_ => some k_ ≠ (v216 : Value).ownBlock)) (by (with_reducible repeat (first | apply Kd.R_alloc | apply Kd.R_drewN | apply Kd.R_drew)); exact Kd.R_mono HO_5.out (fun _ hk => ⟨hk.2, hk.1⟩)) hg hat); have n1_ := Aside0.mk (blk_grown (g := gb212) (o := .cells #[.int .i64 ((rd_T55 s0_1 x8_2).f0), .int .i64 ((rd_T55 s0_1 x8_2).f1), .int .i64 ((rd_T55 s0_1 x8_2).f2)] 55 (0, 0)) (by (with_reducible repeat (first | refine blk_drewN ?_ _ | refine blk_drew ?_ | refine blk_alloc ?_ _)); exact BK212.out) hg (Kd.R_ne HO_6.out BK212.out (by decide))); have n2_ := Aside0.mk (IsS36.grown (by repeat (first | (with_reducible first | exact HI0.out | apply IsS36.alloc | apply IsS36.drewN | apply IsS36.drew | refine IsS36.far ?_ NB0_212.out _) | exact HI0.out)) hg (IsS36.own_ne HI0.out HO_6.out (by decide))); have n3_ := Aside0.mk (Kd.R_after (ok := (fun k_ => some k_ ≠ (.slice Ao38 x5_2.length co38 : Value).ownBlock)) (by (with_reducible repeat (first | apply Kd.R_alloc | apply Kd.R_drewN | apply Kd.R_drew)); exact Kd.R_mono HO217.out (fun _ hk => ⟨hk.1.2, hk.2⟩)) hg hat); have n4_ := Aside0.mk (below_weaken (by repeat (first | (with_reducible first | exact HB.out | apply below_alloc | apply pw_below_drewN | apply below_drew1 | refine below_set ?_ (IsS36.ge HI0.out) | refine below_set ?_ GE212.out) | exact HB.out)) HL.out hb); have n5_ := Aside0.mk (KeepBut.trans (by repeat (first | (with_reducible first | exact HK.out | apply KeepBut.set_ | apply keep_drewN | apply keep_drew | apply keep_alloc | refine keep_far ?_ GW212.out _) | exact HK.out)) (KeepBut.of_grown hg g) (Kd.R_base2 HO_6.out)); have n6_ := Aside0.mk (ho); clear HO_5; clear BK212; clear HI0; clear HO217; clear HB; clear HK; clear HO_6; have HO_5 := n0_; have BK212 := n1_; have HI0 := n2_; have HO217 := n3_; have HB := n4_; have HK := n5_; have HO220 := n6_; clear n0_ n1_ n2_ n3_ n4_ n5_ n6_; clear ho hb hg hat)))
              go_roundg kj10
              case measure => have := HK1.out; have := HK2.out; have := HJ10.out; omega
              case rel => exact ⟨(t215), (y218), (wrap64 (x8_2 + 1)), (by first | rfl | (simp; done) | (simp [*]; done)), H', ⟨by have := HK1.out; have := HK2.out; have := HJ10.out; omega⟩, ⟨by (with_reducible repeat (first | apply Kd.R_alloc | apply Kd.R_drewN | apply Kd.R_drew)); exact Kd.R_mono HO217.out (fun _ hk => hk.2)⟩, ⟨by (with_reducible repeat (first | apply Kd.R_alloc | apply Kd.R_drewN | apply Kd.R_drew)); exact Kd.R_mono HO220.out (fun _ hk => hk.2)⟩, ⟨by repeat (first | (with_reducible first | exact HI0.out | apply IsS36.alloc | apply IsS36.drewN | apply IsS36.drew | refine IsS36.far ?_ NB0_212.out _) | exact HI0.out)⟩, ⟨by repeat (first | (with_reducible first | exact HK.out | apply KeepBut.set_ | apply keep_drewN | apply keep_drew | apply keep_alloc | refine keep_far ?_ GW212.out _) | exact HK.out)⟩, ⟨by repeat (first | (with_reducible first | exact HB.out | apply below_alloc | apply pw_below_drewN | apply below_drew1 | refine below_set ?_ (IsS36.ge HI0.out) | refine below_set ?_ GE212.out) | exact HB.out)⟩⟩
             ·rw [if_neg c35] at H
              exact absurd H (by simp)
       ·rw [if_neg c10] at H
        exact absurd H (by simp)
      ·rw [if_neg c9] at H
       have c9b0 : decide (x8_2 < (s0_1.length : Int)) = false := decide_eq_false c9
       clear c9
       have H' := Aside0.mk H
       clear H
       obtain ⟨ASz42_0, cSz42_0, ASz42_1, cSz42_1, HGz42, hgz42, HSz42_0, HSz42_1⟩ := HI0.out
       have hcz42_0 := cellS36_0 HGz42
       have hcz42_1 := cellS36_1 HGz42
       clear HGz42 hgz42
       go_wp2
       repeat (go_quiet (fail); try go_wp2)
       go_roundg k2
       case measure => have := HK1.out; have := HK2.out; omega
       case rel => exact ⟨(x5_2), (x6_2), (wrap64 (x7_1 + 1)), (by first | rfl | (simp; done) | (simp [*]; done)), H', ⟨by have := HK1.out; have := HK2.out; omega⟩, ⟨by (with_reducible repeat (first | apply Kd.R_alloc | apply Kd.R_drewN | apply Kd.R_drew)); exact HO_5.out⟩, ⟨by (with_reducible repeat (first | apply Kd.R_alloc | apply Kd.R_drewN | apply Kd.R_drew)); exact HO_6.out⟩, ⟨by repeat (first | (with_reducible first | exact HI0.out | apply IsS36.alloc | apply IsS36.drewN | apply IsS36.drew) | exact HI0.out)⟩, ⟨by repeat (first | (with_reducible first | exact HK.out | apply KeepBut.set_ | apply keep_drewN | apply keep_drew | apply keep_alloc) | exact HK.out)⟩, ⟨by repeat (first | (with_reducible first | exact HB.out | apply below_alloc | apply pw_below_drewN | apply below_drew1 | refine below_set ?_ (IsS36.ge HI0.out)) | exact HB.out)⟩⟩
   ·rw [if_neg c7] at H
    have c7b0 : decide (x7_1 < (x6_1.length : Int)) = false := decide_eq_false c7
    clear c7
    obtain rfl := Option.some.inj H
    obtain ⟨Ao43, co43, eo43⟩ := Kd.R_slice HO_6.out
    subst eo43
    go_wp2
    repeat (go_quiet (fail); try go_wp2)
    go_ret
    exact ⟨by first | rfl | (simp [errW_none, errW_some] <;> rfl) | (simp [*, errW_none, errW_some] <;> rfl), by repeat (first | (with_reducible first | exact HI0.out | apply IsS36.alloc | apply IsS36.drewN | apply IsS36.drew) | exact HI0.out), by repeat (first | (with_reducible first | exact HB.out | apply below_alloc | apply pw_below_drewN | apply below_drew1 | refine below_set ?_ (IsS36.ge HI0.out)) | exact HB.out), by repeat (first | (with_reducible first | exact HK.out | apply KeepBut.set_ | apply keep_drewN | apply keep_drew | apply keep_alloc) | exact HK.out)⟩
end Go.Proofs.Ytojpibpjieanhaa.X
end
section
namespace Go.Proofs.Ytojpibpjieanhaa.X
open Go.RowKit Go.Proofs.YtojpibpjieanhaaW.PrintWords Go.Proofs.YtojpibpjieanhaaW.PrintLast Go.Proofs.YtojpibpjieanhaaW.PrintMore Go.Proofs.Ytojpibpjieanhaa.FlowMath
set_option linter.unusedVariables false
set_option linter.unusedSimpArgs false
def WireOk (n : Nat) (w : S55) : Prop := 0 ≤ w.f0 ∧ w.f0 < n ∧ 0 ≤ w.f1 ∧ w.f1 < n ∧ 0 ≤ w.f2 ∧ w.f2 ≤ 20
def Edge (ws : List S55) (a b : Nat) : Prop := ∃ w, w ∈ ws ∧ w.f2 = 0 ∧ w.f0 = (a : Int) ∧ w.f1 = (b : Int)
theorem Edge.lt {ws : List S55} {n : Nat} (hw : ∀ w, w ∈ ws → WireOk n w) {a b : Nat} (h : Edge ws a b) : a < n ∧ b < n := by
  obtain ⟨w, h1, h2, h3, h4⟩ := h
  obtain ⟨_, h5, _, h6, _⟩ := hw w h1
  omega
theorem rdT_at (l : List S55) (i : Nat) (h : i < l.length) : rd_T55 l (i : Int) = l[i] := by
  unfold rd_T55; simp [h]
structure Bfs (ws : List S55) (n v : Nat) (seen list : List Int) (i : Nat) : Prop where
  all : ∀ x, x ∈ list ↔ x = (v : Int) ∨ x ∈ seen
  rng : ∀ x, x ∈ seen → ∃ y : Nat, x = (y : Int) ∧ y < n ∧ Plus (Edge ws) v y
  done : ∀ (j : Nat) (hj : j < list.length), j < i → ∀ w, w ∈ ws → w.f2 = 0 → w.f0 = list[j] → w.f1 ≠ (v : Int) ∧ w.f1 ∈ seen
  le : i ≤ list.length
noncomputable def ringB (ws : List S55) (v : Nat) : Bool := open Classical in decide (Plus (Edge ws) v v)
theorem ringB_true {ws : List S55} {v : Nat} (h : Plus (Edge ws) v v) : ringB ws v = true := by unfold ringB; exact @decide_eq_true _ (Classical.propDecidable _) h
theorem ringB_false {ws : List S55} {v : Nat} (h : ¬ Plus (Edge ws) v v) : ringB ws v = false := by unfold ringB; exact @decide_eq_false _ (Classical.propDecidable _) h
noncomputable def unseen (n : Nat) (seen : List Int) : Nat := cnt (fun y => (y : Int) ∉ seen) n
theorem bfs_end {ws : List S55} {n v : Nat} {seen list : List Int} (h : Bfs ws n v seen list list.length) : ¬ Plus (Edge ws) v v := by
  have key : ∀ a c, Plus (Edge ws) a c → (a : Int) ∈ list → (c : Int) ≠ v ∧ (c : Int) ∈ seen := by
    intro a c hp
    induction hp with
    | one e =>
      intro ha
      obtain ⟨w, h1, h2, h3, h4⟩ := e
      obtain ⟨j, hj, hje⟩ := List.mem_iff_getElem.mp ha
      have := h.done j hj hj w h1 h2 (by rw [hje, h3])
      rw [h4] at this
      exact this
    | step e _ ih =>
      intro ha
      obtain ⟨w, h1, h2, h3, h4⟩ := e
      obtain ⟨j, hj, hje⟩ := List.mem_iff_getElem.mp ha
      have := h.done j hj hj w h1 h2 (by rw [hje, h3])
      rw [h4] at this
      exact ih ((h.all _).2 (.inr this.2))
  intro hp
  exact (key v v hp ((h.all _).2 (.inl rfl))).1 rfl
theorem bfs_in (ws : List S55) (d0 : List Int) (n v : Nat) (hv : v < n) (hn : n ≤ 8) (hm : ws.length ≤ 16) (hw : ∀ w, w ∈ ws → WireOk n w) (i K2 p : Nat) (hK : 100 < K2)
    (next : ∀ (seen list : List Int), Bfs ws n v seen list (i + 1) → (unseen n seen + seen.length ≤ n) → list.length = seen.length + 1 → list.length - (i + 1) + unseen n seen ≤ p → ∀ k, K2 < k → spec_l08Open.l0 k v seen list ((i : Int) + 1) d0 ws = some (ringB ws v)) :
    ∀ (d m : Nat) (seen list : List Int), m + d = ws.length → Bfs ws n v seen list i → i < list.length → (unseen n seen + seen.length ≤ n) → list.length = seen.length + 1 →
      (∀ (j : Nat) (hj : j < ws.length), j < m → ws[j].f2 = 0 → ∀ hi : i < list.length, ws[j].f0 = list[i] → ws[j].f1 ≠ (v : Int) ∧ ws[j].f1 ∈ seen) → list.length - (i + 1) + unseen n seen ≤ p →
      ∀ k, K2 + 2 * d + 1 < k → spec_l08Open.l1 k v seen list i m d0 ws = some (ringB ws v) := by
  intro d
  induction d with
  | zero =>
    intro m seen list hmd hb hi hu hll hp hpp k hk
    cases k with
    | zero => omega
    | succ k =>
      rw [spec_l08Open.l1, if_neg (by omega), w64 (by omega) (by omega)]
      refine next seen list ⟨hb.all, hb.rng, fun j hj hji w hws h2 h3 => ?_, by omega⟩ hu hll hpp k (by omega)
      by_cases e : j = i
      · subst e
        obtain ⟨q, hq, hqe⟩ := List.mem_iff_getElem.mp hws
        have := hp q hq (by omega) (by rw [hqe]; exact h2) hj (by rw [hqe]; exact h3)
        rw [hqe] at this
        exact this
      · exact hb.done j hj (by omega) w hws h2 h3
  | succ d ih =>
    intro m seen list hmd hb hi hu hll hp hpp k hk
    have hlt : m < ws.length := by omega
    obtain ⟨w, hwe⟩ : ∃ w, w = ws[m] := ⟨_, rfl⟩
    have hwm : w ∈ ws := hwe ▸ List.getElem_mem hlt
    obtain ⟨o1, o2, o3, o4, o5, o6⟩ := hw w hwm
    cases k with
    | zero => omega
    | succ k =>
    cases k with
    | zero => omega
    | succ k =>
      rw [spec_l08Open.l1, if_pos (by omega), if_pos (by omega), if_pos (by omega), if_pos (by omega), rdT_at ws m hlt, ← hwe, rd_at list i hi]
      -- a wire that isn't of this vertex, or has registers
      have skip : ¬ (w.f2 = 0 ∧ w.f0 = list[i]) → spec_l08Open.l1 k v seen list i ((m : Int) + 1) d0 ws = some (ringB ws v) := by
        intro hns
        have := ih (m + 1) seen list (by omega) hb hi hu hll (fun j hj hjm h2 hi' h3 => by
          by_cases e : j = m
          · subst e
            rw [← hwe] at h2 h3 ⊢
            exact absurd ⟨h2, h3⟩ hns
          · exact hp j hj (by omega) h2 hi' h3) hpp k (by omega)
        rw [Int.natCast_add, Int.natCast_one] at this
        exact this
      have hwr : Aside0 (wrap64 ((m : Int) + 1) = (m : Int) + 1) := ⟨w64 (by omega) (by omega)⟩
      by_cases e1 : w.f0 = list[i]
      · rw [if_pos e1]
        by_cases e2 : w.f2 > 0
        · rw [decide_eq_true e2, spec_l08Open.j2, if_pos rfl, hwr.out]
          exact skip (fun h => by omega)
        · rw [decide_eq_false e2, spec_l08Open.j2, if_neg (by decide)]
          have e2' : w.f2 = 0 := by omega
          obtain ⟨a, ha⟩ := Int.eq_ofNat_of_zero_le o1
          obtain ⟨b, hb'⟩ := Int.eq_ofNat_of_zero_le o3
          have hE : Edge ws a b := ⟨w, hwm, e2', ha, hb'⟩
          have hreach : a = v ∨ Plus (Edge ws) v a := by
            have hmem : list[i] ∈ list := List.getElem_mem hi
            rcases (hb.all _).1 hmem with h | h
            · left; omega
            · obtain ⟨y, hy, _, hp⟩ := hb.rng _ h
              right
              have : a = y := by omega
              rw [this]; exact hp
          have hpb : Plus (Edge ws) v b := by
            rcases hreach with h | h
            · subst h; exact .one hE
            · exact h.snoc hE
          by_cases e3 : w.f1 = (v : Int)
          · rw [if_pos e3]
            have : b = v := by omega
            subst this
            rw [ringB_true hpb]
          · rw [if_neg e3, has_eq seen w.f1 (by omega) k (by omega), Option.bind_some]
            by_cases e4 : w.f1 ∈ seen
            · rw [decide_eq_true e4, if_pos rfl, hwr.out]
              have := ih (m + 1) seen list (by omega) hb hi hu hll (fun j hj hjm h2 hi' h3 => by
                by_cases e : j = m
                · subst e
                  rw [← hwe]
                  exact ⟨e3, e4⟩
                · exact hp j hj (by omega) h2 hi' h3) hpp k (by omega)
              rw [Int.natCast_add, Int.natCast_one] at this
              exact this
            · obtain ⟨seen', hs1, hs2, hs3⟩ := put_eq seen w.f1 e4 (by omega) k (by omega)
              rw [decide_eq_false e4, if_neg (by decide), hs1, Option.bind_some, if_pos (by omega), hwr.out]
              have hul : unseen n seen' < unseen n seen := by
                refine cnt_lt n (fun y _ hy hys => hy ((hs3 _).2 (.inl hys))) b (by omega) (by rw [← hb']; exact e4) ?_
                intro h; exact h ((hs3 _).2 (.inr hb'.symm))
              have hget : ∀ (j : Nat) (hj : j < list.length) (hj' : j < (list ++ [w.f1]).length), (list ++ [w.f1])[j] = list[j] := fun j hj hj' => List.getElem_append_left hj
              have := ih (m + 1) seen' (list ++ [w.f1]) (by omega)
                ⟨fun x => by rw [List.mem_append, hb.all, hs3, List.mem_singleton, or_assoc], fun x hx => by
                    rcases (hs3 x).1 hx with h | h
                    · exact hb.rng x h
                    · exact ⟨b, by omega, by omega, hpb⟩,
                  fun j hj hji w' hws h2 h3 => by
                    have hjl : j < list.length := by omega
                    rw [hget j hjl hj] at h3
                    have := hb.done j hjl hji w' hws h2 h3
                    exact ⟨this.1, (hs3 _).2 (.inl this.2)⟩, by simp; omega⟩
                (by simp; omega) (by omega) (by simp; omega)
                (fun j hj hjm h2 hi' h3 => by
                  rw [hget i hi hi'] at h3
                  by_cases e : j = m
                  · subst e
                    rw [← hwe]
                    exact ⟨e3, (hs3 _).2 (.inr rfl)⟩
                  · have := hp j hj (by omega) h2 hi h3
                    exact ⟨this.1, (hs3 _).2 (.inl this.2)⟩) (by simp; omega) k (by omega)
              rw [Int.natCast_add, Int.natCast_one] at this
              exact this
      · rw [if_neg e1, spec_l08Open.j2, if_pos rfl, hwr.out]
        exact skip (fun h => e1 h.2)
theorem unseen_le (n : Nat) (seen : List Int) : unseen n seen ≤ n := cnt_le _ _
theorem bfs_out (ws : List S55) (d0 : List Int) (n v : Nat) (hv : v < n) (hn : n ≤ 8) (hm : ws.length ≤ 16) (hw : ∀ w, w ∈ ws → WireOk n w) :
    ∀ (p i : Nat) (seen list : List Int), list.length - i + unseen n seen ≤ p → Bfs ws n v seen list i → (unseen n seen + seen.length ≤ n) → list.length = seen.length + 1 →
      ∀ k, 200 + 50 * p < k → spec_l08Open.l0 k v seen list i d0 ws = some (ringB ws v) := by
  intro p
  induction p with
  | zero =>
    intro i seen list hp hb hu hll k hk
    cases k with
    | zero => omega
    | succ k =>
      have hle := hb.le
      rw [spec_l08Open.l0, if_neg (by omega)]
      have e : i = list.length := by omega
      subst e
      rw [ringB_false (bfs_end hb)]
  | succ p ih =>
    intro i seen list hp hb hu hll k hk
    cases k with
    | zero => omega
    | succ k =>
      have hle := hb.le
      rw [spec_l08Open.l0]
      by_cases hi : i < list.length
      · rw [if_pos (by omega)]
        exact bfs_in ws d0 n v hv hn hm hw i (200 + 50 * p) p (by omega) (fun seen' list' hb' hu' hll' hpp k' hk' => by
          have := ih (i + 1) seen' list' (by omega) hb' hu' hll' k' (by omega)
          rw [Int.natCast_add, Int.natCast_one] at this
          exact this) ws.length 0 seen list (by omega) hb hi hu hll (fun j hj hjm => by omega) (by omega) k (by omega)
      · rw [if_neg (by omega)]
        have e : i = list.length := by omega
        subst e
        rw [ringB_false (bfs_end hb)]
theorem open_eq (ws : List S55) (d0 : List Int) (n v : Nat) (hv : v < n) (hn : n ≤ 8) (hm : ws.length ≤ 16) (hw : ∀ w, w ∈ ws → WireOk n w) (k : Nat) (hk : 1000 < k) : spec_l08Open.f k d0 ws v = some (ringB ws v) := by
  unfold spec_l08Open.f
  have hu := unseen_le n []
  exact bfs_out ws d0 n v hv hn hm hw (1 + n) 0 [] [(v : Int)] (by simp; omega) ⟨by simp, by simp, fun j hj hji => by omega, by simp⟩ (by simp; omega) rfl k (by omega)
end Go.Proofs.Ytojpibpjieanhaa.X
end
section
namespace Go.Proofs.Ytojpibpjieanhaa.FewMath
open Go.RowKit Go.Proofs.YtojpibpjieanhaaW.PrintWords Go.Proofs.YtojpibpjieanhaaW.PrintLast Go.Proofs.YtojpibpjieanhaaW.PrintMore
open Go.Proofs.Ytojpibpjieanhaa.X Go.Proofs.Ytojpibpjieanhaa.FlowMath
set_option linter.unusedVariables false
set_option linter.unusedSimpArgs false
set_option linter.unusedSectionVars false
def dl (x : List Int) : Nat → Int := fun v => x.getD v 0
theorem rd_dl (x : List Int) (i : Int) : rd x i = dl x i.toNat := rfl
def Wi (ws : List S55) (u v : Nat) (c : Int) : Prop := ∃ w, w ∈ ws ∧ w.f0 = (u : Int) ∧ w.f1 = (v : Int) ∧ w.f2 = c
abbrev Back (E : Nat → Nat → Int → Prop) : Nat → Nat → Int → Prop := fun u v c => E v u c
structure Fl (d : List Int) (ws : List S55) (n : Nat) : Prop where
  len : d.length = n
  n1 : 1 ≤ n
  n8 : n ≤ 8
  m16 : ws.length ≤ 16
  wok : ∀ w, w ∈ ws → WireOk n w
  del : ∀ v, 0 ≤ dl d v ∧ dl d v ≤ 100
  ac : ∀ v, ¬ Plus (Go.Proofs.Ytojpibpjieanhaa.X.Edge ws) v v
variable {d : List Int} {ws : List S55} {n : Nat}
theorem plus_mono {E E' : Nat → Nat → Prop} (h : ∀ a b, E a b → E' a b) {a b : Nat} (k : Plus E a b) : Plus E' a b := by
  induction k with
  | one e => exact .one (h _ _ e)
  | step e _ ih => exact .step (h _ _ e) ih
theorem plus_rev {E : Nat → Nat → Prop} {a b : Nat} (k : Plus (fun u v => E v u) a b) : Plus E b a := by
  induction k with
  | one e => exact .one e
  | step e _ ih => exact ih.snoc e
theorem Fl.net (h : Fl d ws n) : Net (Wi ws) (dl d) n where
  n8 := h.n8
  lt := by
    rintro u v c ⟨w, h1, h2, h3, h4⟩
    have := h.wok w h1
    unfold WireOk at this
    omega
  del := h.del
  ac := fun v hv => h.ac v (plus_mono (fun a b ⟨w, h1, h2, h3, h4⟩ => ⟨w, h1, h4, h2, h3⟩) hv)
theorem Fl.netB (h : Fl d ws n) : Net (Back (Wi ws)) (dl d) n where
  n8 := h.n8
  lt := fun u v c hc => by have := h.net.lt _ _ _ hc; omega
  del := h.del
  ac := fun v hv => h.net.ac v (plus_rev hv)
theorem Wi.of {ws : List S55} {n : Nat} {w : S55} (hw : w ∈ ws) (ho : WireOk n w) : Wi ws w.f0.toNat w.f1.toNat w.f2 := by
  unfold WireOk at ho
  exact ⟨w, hw, by omega, by omega, rfl⟩
abbrev P2 : Type := Nat × Nat
def evW (d : List Int) (n : Nat) (w : S55) : List (Ev P2) := Ev.base (w.f0.toNat, w.f1.toNat) w.f2 (dl d w.f0.toNat + dl d w.f1.toNat) :: (List.range n).map fun j => Ev.link (w.f1.toNat, j) (w.f0.toNat, j) w.f2 (dl d w.f0.toNat)
def evI (d : List Int) (n : Nat) (ws : List S55) : List (Ev P2) := ws.flatMap (evW d n)
theorem evW_len (w : S55) : (evW d n w).length = n + 1 := by simp [evW]
theorem evI_len : ∀ ws : List S55, (evI d n ws).length = ws.length * (n + 1)
  | [] => by simp [evI]
  | w :: ws => by
    have := evI_len ws
    unfold evI at this ⊢
    rw [List.flatMap_cons, List.length_append, this, evW_len, List.length_cons, Nat.succ_mul, Nat.add_comm]
def WI (d : List Int) (ws : List S55) (m : Nat) (p : P2) (x : Int) : Prop := T (Back (Wi ws)) (dl d) p.2 m p.1 x
theorem mem_evI {e : Ev P2} : e ∈ evI d n ws ↔ ∃ w, w ∈ ws ∧ (e = Ev.base (w.f0.toNat, w.f1.toNat) w.f2 (dl d w.f0.toNat + dl d w.f1.toNat) ∨ ∃ j, j < n ∧ e = Ev.link (w.f1.toNat, j) (w.f0.toNat, j) w.f2 (dl d w.f0.toNat)) := by
  unfold evI evW
  simp only [List.mem_flatMap, List.mem_cons, List.mem_map, List.mem_range]
  constructor
  · rintro ⟨w, h1, h2 | ⟨j, h2, h3⟩⟩
    · exact ⟨w, h1, .inl h2⟩
    · exact ⟨w, h1, .inr ⟨j, h2, h3.symm⟩⟩
  · rintro ⟨w, h1, h2 | ⟨j, h2, h3⟩⟩
    · exact ⟨w, h1, .inl h2⟩
    · exact ⟨w, h1, .inr ⟨j, h2, h3.symm⟩⟩
theorem T.src {E : Nat → Nat → Int → Prop} {dd : Nat → Int} {a m v : Nat} {x : Int} (hN : Net E dd n) (h : T E dd a m v x) : a < n := by
  induction h with
  | one h => exact (hN.lt _ _ _ h).1
  | snoc _ _ ih => exact ih
theorem Fl.waysI (h : Fl d ws n) : Ways (WI d ws) (evI d n ws) n where
  n8 := h.n8
  few := by
    rw [evI_len]
    have h1 := h.m16
    have h2 := h.n8
    have : ws.length * (n + 1) ≤ 16 * 9 := Nat.mul_le_mul h1 (by omega)
    omega
  ok := by
    intro e he
    obtain ⟨w, h1, h2 | ⟨j, hj, h2⟩⟩ := mem_evI.1 he
    · subst h2
      have := h.wok w h1
      unfold WireOk at this
      have a1 := h.del w.f0.toNat
      have a2 := h.del w.f1.toNat
      unfold Ev.ok
      simp only
      omega
    · subst h2
      have := h.wok w h1
      unfold WireOk at this
      have a1 := h.del w.f0.toNat
      unfold Ev.ok
      simp only
      omega
  base := by
    intro v c e he
    obtain ⟨w, h1, h2 | ⟨j, hj, h2⟩⟩ := mem_evI.1 he
    · injection h2 with e1 e2 e3
      subst e1 e2 e3
      exact (T.one (E := Back (Wi ws)) (d := dl d) (Wi.of h1 (h.wok w h1))).eqv (by omega)
    · cases h2
  link := by
    intro u v c e m x he hw
    obtain ⟨w, h1, h2 | ⟨j, hj, h2⟩⟩ := mem_evI.1 he
    · cases h2
    · injection h2 with e1 e2 e3 e4
      subst e1 e2 e3 e4
      exact T.snoc (E := Back (Wi ws)) (d := dl d) hw (Wi.of h1 (h.wok w h1))
  back := by
    rintro m ⟨i, j⟩ x hw
    cases hw with
    | @snoc _ u _ x' c h1 hE =>
      have hj : j < n := T.src h.netB h1
      obtain ⟨w, w1, w2, w3, w4⟩ := hE
      refine ⟨(u, j), x', c, dl d i, h1, mem_evI.2 ⟨w, w1, .inr ⟨j, hj, ?_⟩⟩, rfl⟩
      have e1 : w.f1.toNat = u := by omega
      have e2 : w.f0.toNat = i := by omega
      rw [e1, e2, w4]
  pos := fun m v x hw => T.pos hw
  short := fun m v x hw => FewMath.short h.netB m v.1 x hw
theorem Fl.base1 (h : Fl d ws n) {t : Nat} (h1 : 1 ≤ t) (ht : t + (evI d n ws).length ≤ 9000) {s : (P2 → Bt) × Bool} (hb : ∀ u, Bd t (s.1 u)) : ∀ v x, WI d ws 1 v x → hit ((run (evI d n ws) s).1 v) x := by
  rintro ⟨i, j⟩ x hw
  cases hw with
  | @one _ c hE =>
    obtain ⟨w, w1, w2, w3, w4⟩ := hE
    have e1 : w.f1.toNat = j := by simp only at w3; omega
    have e2 : w.f0.toNat = i := by simp only at w2; omega
    have he : Ev.base (i, j) c (dl d i + dl d j) ∈ evI d n ws := mem_evI.2 ⟨w, w1, .inl (by rw [e1, e2, w4])⟩
    refine run_new (evI d n ws) t s h1 ht h.waysI.ok hb _ he _ ⟨rfl, ?_⟩
    unfold Ev.cand key
    simp only
    omega
  | snoc h _ => exact absurd (T.pos h) (by omega)
def U (s : MB) : (P2 → Bt) × Bool := (fun p => s.1 p.1 p.2, s.2)
theorem putS_U (s : MB) (i j : Nat) (x : Bt) : U (putS s i j x) = (rlx (U s).1 (i, j) x, (U s).2 || btr x ((U s).1 (i, j))) := by
  unfold U putS
  refine Prod.ext ?_ rfl
  funext p
  obtain ⟨a, b⟩ := p
  show putM s.1 i j x a b = rlx (fun p : P2 => s.1 p.1 p.2) (i, j) x (a, b)
  unfold putM rlx pick upd
  by_cases hb : btr x (s.1 i j) = true
  · simp only [if_pos hb]
    by_cases e : a = i ∧ b = j
    · obtain ⟨rfl, rfl⟩ := e; simp
    · rw [if_neg e, if_neg (by simpa using e)]
  · simp only [if_neg hb]
    by_cases e : a = i ∧ b = j
    · obtain ⟨rfl, rfl⟩ := e; simp
    · rw [if_neg (by simpa using e)]
theorem base_eq (h : Fl d ws n) {w : S55} (hw : w ∈ ws) (s : MB) : U (putS s w.f0.toNat w.f1.toNat (yB d w)) = step1 (U s) (Ev.base (w.f0.toNat, w.f1.toNat) w.f2 (dl d w.f0.toNat + dl d w.f1.toNat)) := by
  have a1 := h.del w.f0.toNat
  have a2 := h.del w.f1.toNat
  have : yB d w = ⟨w.f2, dl d w.f0.toNat + dl d w.f1.toNat, true⟩ := by
    unfold yB
    rw [rd_dl, rd_dl, w64 (by omega) (by omega)]
  rw [putS_U, this]; rfl
theorem toStep_eq (h : Fl d ws n) {w : S55} (hw : w ∈ ws) {s : MB} {t : Nat} (ht : t ≤ 9000) (hb : ∀ u, Bd t ((U s).1 u)) (j : Nat) : U (toStep d w s j) = step1 (U s) (Ev.link (w.f1.toNat, j) (w.f0.toNat, j) w.f2 (dl d w.f0.toNat)) := by
  unfold toStep
  have hbb := hb (w.f1.toNat, j)
  by_cases hf : (s.1 w.f1.toNat j).f = true
  · have hx := hbb hf
    have ho := h.wok w hw
    unfold WireOk at ho
    have a1 := h.del w.f0.toNat
    have hx' : 0 ≤ (s.1 w.f1.toNat j).r ∧ (s.1 w.f1.toNat j).r ≤ 20 * t ∧ 0 ≤ (s.1 w.f1.toNat j).d ∧ (s.1 w.f1.toNat j).d ≤ 100 * t := hx
    have : yT d w (s.1 w.f1.toNat j) = ext ((U s).1 (w.f1.toNat, j)) w.f2 (dl d w.f0.toNat) := by
      unfold yT ext
      rw [rd_dl, w64 (by omega) (by omega), w64 (by omega) (by omega)]
      show _ = (⟨_, _, (s.1 w.f1.toNat j).f⟩ : Bt)
      rw [hf]; rfl
    rw [if_pos hf, putS_U, this]; rfl
  · have hc : (Ev.cand (U s).1 (Ev.link (w.f1.toNat, j) (w.f0.toNat, j) w.f2 (dl d w.f0.toNat))).f = false := by
      show (s.1 w.f1.toNat j).f = false
      simpa using hf
    rw [if_neg hf]
    unfold step1
    rw [rlx_same (btr_none hc), btr_none hc, Bool.or_false]
theorem ok_sub (h : Fl d ws n) {w : S55} (hw : w ∈ ws) : ∀ e, e ∈ evW d n w → e.ok := fun e he => h.waysI.ok e (List.mem_flatMap.2 ⟨w, hw, he⟩)
theorem run_app {N : Type} [DecidableEq N] (a b : List (Ev N)) (s : (N → Bt) × Bool) : run (a ++ b) s = run b (run a s) := List.foldl_append ..
theorem toN_eq (h : Fl d ws n) {w : S55} (hw : w ∈ ws) {s : MB} {t : Nat} (h1 : 1 ≤ t) (ht : t + n ≤ 9000) (hb : ∀ u, Bd t ((U s).1 u)) : ∀ j, j ≤ n → U (toN d w s j) = run ((List.range j).map fun j => Ev.link (w.f1.toNat, j) (w.f0.toNat, j) w.f2 (dl d w.f0.toNat)) (U s)
  | 0, _ => rfl
  | j + 1, hj => by
    have ih := toN_eq h hw h1 ht hb j (by omega)
    rw [List.range_succ, List.map_append, run_app, ← ih, toN]
    refine toStep_eq h hw (t := t + j) (by omega) ?_ j
    rw [ih]
    have := run_bd ((List.range j).map fun j => Ev.link (w.f1.toNat, j) (w.f0.toNat, j) w.f2 (dl d w.f0.toNat)) t (U s) h1 (fun e he => by
      obtain ⟨i, hi, rfl⟩ := List.mem_map.1 he
      refine ok_sub h hw _ (List.mem_cons_of_mem _ (List.mem_map.2 ⟨i, ?_, rfl⟩))
      rw [List.mem_range] at hi ⊢; omega) hb
    rwa [List.length_map, List.length_range] at this
theorem wireStep_eq (h : Fl d ws n) {w : S55} (hw : w ∈ ws) {s : MB} {t : Nat} (h1 : 1 ≤ t) (ht : t + (n + 1) ≤ 9000) (hb : ∀ u, Bd t ((U s).1 u)) : U (wireStep d n w s) = run (evW d n w) (U s) := by
  unfold wireStep evW
  have e0 := base_eq h hw s
  rw [toN_eq h hw (t := t + 1) (by omega) (by omega) (by
    rw [e0]
    exact run_bd [Ev.base (w.f0.toNat, w.f1.toNat) w.f2 (dl d w.f0.toNat + dl d w.f1.toNat)] t (U s) h1 (fun e he => by
      rw [List.mem_singleton] at he; subst he
      exact ok_sub h hw _ (List.mem_cons_self ..)) hb) n (Nat.le_refl _), e0]
  rfl
theorem wireN_eq (h : Fl d ws n) {s : MB} {t : Nat} (h1 : 1 ≤ t) (ht : t + ws.length * (n + 1) ≤ 9000) (hb : ∀ u, Bd t ((U s).1 u)) : ∀ j, j ≤ ws.length → U (wireN d ws n s j) = run (evI d n (ws.take j)) (U s)
  | 0, _ => rfl
  | j + 1, hj => by
    have ih := wireN_eq h h1 ht hb j (by omega)
    have hlt : j < ws.length := by omega
    have hm : (j + 1) * (n + 1) ≤ ws.length * (n + 1) := Nat.mul_le_mul_right _ hj
    rw [Nat.succ_mul] at hm
    have hl : (evI d n (ws.take j)).length = j * (n + 1) := by rw [evI_len, List.length_take, Nat.min_eq_left (by omega)]
    rw [wireN, rdT_at ws j hlt, wireStep_eq h (List.getElem_mem hlt) (t := t + j * (n + 1)) (by omega) (by omega) (by
      rw [ih, ← hl]
      refine run_bd _ t (U s) h1 (fun e he => ?_) hb
      obtain ⟨w, hw, he⟩ := List.mem_flatMap.1 he
      exact ok_sub h (List.mem_of_mem_take hw) e he), ih, List.take_add_one, List.getElem?_eq_getElem hlt, Option.toList_some]
    unfold evI
    rw [List.flatMap_append, run_app, List.flatMap_cons, List.flatMap_nil, List.append_nil]
theorem roundM_eq (h : Fl d ws n) {M : Nat → Nat → Bt} {t : Nat} (h1 : 1 ≤ t) (ht : t + (evI d n ws).length ≤ 9000) (hb : ∀ u, Bd t ((U (M, false)).1 u)) : U (roundM d ws n M) = run (evI d n ws) (U (M, false)) := by
  unfold roundM
  rw [evI_len] at ht
  rw [wireN_eq h h1 ht hb _ (Nat.le_refl _), List.take_length]
theorem impl_all (h : Fl d ws n) : ∀ (e i k : Nat) (M : Nat → Nat → Bt), i + e = n → e + 1 < k → (∀ u, Bd (2 + i * 200) ((U (M, false)).1 u)) → Sound (WI d ws) (U (M, false)).1 → Nil (U (M, false)).1 → Prog (WI d ws) i (U (M, false)).1 →
    ∃ M', allF d ws n k M = some M' ∧ (∀ u, Bd 9000 ((U (M', false)).1 u)) ∧ Sound (WI d ws) (U (M', false)).1 ∧ Nil (U (M', false)).1 ∧ Full (WI d ws) (U (M', false)).1 := by
  intro e
  induction e with
  | zero =>
    intro i k M hi hk hb hs hn hp
    cases k with
    | zero => omega
    | succ k =>
      have h8 := h.n8
      have hfew := h.waysI.few
      have hi2 : i = n := by omega
      subst hi2
      have ht : 2 + i * 200 + (evI d i ws).length ≤ 9000 := by omega
      have hR := roundM_eq h (t := 2 + i * 200) (by omega) ht hb
      have hf := prog_full h.waysI hp
      rw [full_still h.waysI (t := 2 + i * 200) (by omega) (by omega) hb hs hf] at hR
      have e2 : (roundM d ws i M).2 = false := congrArg Prod.snd hR
      have e1 : (roundM d ws i M).1 = M := by
        funext a b
        exact congrFun (congrArg Prod.fst hR) (a, b)
      refine ⟨M, ?_, fun u => (hb u).up (by omega), hs, hn, hf⟩
      rw [allF, if_neg (by rw [e2]; decide), e1]
  | succ e ih =>
    intro i k M hi hk hb hs hn hp
    cases k with
    | zero => omega
    | succ k =>
      have h8 := h.n8
      have hfew := h.waysI.few
      have ht : 2 + i * 200 + (evI d n ws).length ≤ 9000 := by omega
      have hR := roundM_eq h (t := 2 + i * 200) (by omega) ht hb
      have hb2 := run_bd (evI d n ws) (2 + i * 200) (U (M, false)) (by omega) h.waysI.ok hb
      have h0 := h.base1 (t := 2 + i * 200) (by omega) ht hb
      cases hc : (roundM d ws n M).2 with
      | true =>
        have eU : (U ((roundM d ws n M).1, false)).1 = (run (evI d n ws) (U (M, false))).1 := by rw [← hR]; rfl
        obtain ⟨M', g0, g⟩ := ih (i + 1) k (roundM d ws n M).1 (by omega) (by omega) (by rw [eU]; exact fun u => (hb2 u).up (by omega)) (by rw [eU]; exact run_sound h.waysI _ _ (fun _ h => h) hs) (by rw [eU]; exact run_nil _ _ hn) (by rw [eU]; exact prog_next h.waysI (t := 2 + i * 200) (by omega) ht hb hp h0)
        exact ⟨M', by rw [allF, if_pos hc]; exact g0, g⟩
      | false =>
        have e2 : (run (evI d n ws) (U (M, false))).2 = false := by rw [← hR]; exact hc
        have e3 := (run_flag _ _ e2).2.1
        rw [e3] at hR h0
        have e1 : (roundM d ws n M).1 = M := by
          funext a b
          exact congrFun (congrArg Prod.fst hR) (a, b)
        exact ⟨M, by rw [allF, if_neg (by rw [hc]; decide), e1], fun u => (hb u).up (by omega), hs, hn, fixed_full h.waysI (t := 2 + i * 200) (by omega) (by omega) hb h0 e2⟩
theorem impl_few (h : Fl d ws n) (k : Nat) (hk : 100 < k) : ∃ M', impl_Flow_allBetween.f k d ws = some (rowsS n M') ∧ (∀ u, Bd 9000 ((U (M', false)).1 u)) ∧ Sound (WI d ws) (U (M', false)).1 ∧ Nil (U (M', false)).1 ∧ Full (WI d ws) (U (M', false)).1 := by
  have h8 := h.n8
  have h1 := h.n1
  have hl := h.len
  have hm := h.m16
  obtain ⟨M', g0, g⟩ := impl_all h n 0 k (fun _ _ => zB) (by omega) (by omega) (fun u hf => absurd hf (by simp [U, zB])) (fun u hf => absurd hf (by simp [U, zB])) (fun u _ => rfl) (fun m v x hm hw => absurd (T.pos hw) (by omega))
  refine ⟨M', ?_, g⟩
  unfold impl_Flow_allBetween.f
  have hin : ∀ w ∈ ws, WireIn d.length w := by
    intro w hw
    have ho := h.wok w hw
    unfold WireOk at ho
    unfold WireIn
    omega
  rw [if_pos ⟨by omega, by omega, by omega, hin⟩, hl, g0]
  rfl
end Go.Proofs.Ytojpibpjieanhaa.FewMath
end
section
namespace Go.Proofs.Ytojpibpjieanhaa.X
open Go.RowKit Go.Proofs.YtojpibpjieanhaaW.PrintWords Go.Proofs.YtojpibpjieanhaaW.PrintLast Go.Proofs.YtojpibpjieanhaaW.PrintMore
set_option linter.unusedVariables false
set_option linter.unusedSimpArgs false
abbrev MC : Type := List Int × Bool
def raiseS (s : MC) (i : Nat) (x : Int) : MC := if rd s.1 (i : Int) < x then (s.1.set i x, true) else s
structure MvW (B n : Nat) (w : World) (g8 g9 gm cm : Nat) (s : MC) : Prop where
  b8 : w.heap[g8]? = some (.cells #[.slice (some ⟨gm, 0, none⟩) n cm] 22 (0, 0))
  R : Kd.R (Kd.int .i64) 2 w B (fun _ => True) (.slice (some ⟨gm, 0, none⟩) n cm) s.1
  b9 : w.heap[g9]? = some (.cells #[.bool s.2] 4 (0, 0))
  h8 : B ≤ g8
  h9 : B ≤ g9
variable {B n : Nat} {w : World} {g8 g9 gm cm : Nat} {s : MC}
theorem MvW.move (h : MvW B n w g8 g9 gm cm s) {w1 : World} (hb : Below w.heap.size w w1) : MvW B n w1 g8 g9 gm cm s :=
  ⟨blk_below h.b8 hb, Kd.R_below h.R hb, blk_below h.b9 hb, h.h8, h.h9⟩
theorem MvW.drew (h : MvW B n w g8 g9 gm cm s) : MvW B n w.drew g8 g9 gm cm s := h.move (below_drew1 (Below.refl _ _))
theorem MvW.rng (h : MvW B n w g8 g9 gm cm s) : B ≤ gm ∧ gm < w.heap.size := ⟨Kd.R_base h.R gm (by simp [Value.ownBlock]), Kd.R_lt h.R gm (by simp [Value.ownBlock])⟩
theorem MvW.typ (h : MvW B n w g8 g9 gm cm s) : ∃ cells, w.heap[gm]? = some (.cells cells 2 (0, 0)) := Kd.R_typed h.R gm (by simp [Value.ownBlock])
theorem MvW.len (h : MvW B n w g8 g9 gm cm s) : n = s.1.length := (Kd.R_reads' h.R).1
theorem MvW.c8 (h : MvW B n w g8 g9 gm cm s) : w.cell? ⟨g8, 0, none⟩ = some (.slice (some ⟨gm, 0, none⟩) n cm) := (blk_cell h.b8 0).trans rfl
theorem MvW.cel (h : MvW B n w g8 g9 gm cm s) (i : Nat) (hi : i < n) : w.cell? ⟨gm, i, none⟩ = some (.int .i64 (rd s.1 (i : Int))) ∧ w.frozen? ⟨gm, i, none⟩ = false := by
  have := Kd.R_celln 0 h.R (i : Int) (by omega) (by omega)
  rw [Int.toNat_natCast] at this
  exact this
theorem MvW.put (h : MvW B n w g8 g9 gm cm s) (i : Nat) (x : Int) : MvW B n (w.setCell ⟨gm, i, none⟩ (.int .i64 x)) g8 g9 gm cm (s.1.set i x, s.2) := by
  obtain ⟨cells, q⟩ := h.typ
  have := Kd.R_putn h.R (i : Int) x
  rw [Int.toNat_natCast] at this
  exact ⟨blk_far h.b8 (p := ⟨gm, i, none⟩) (blk_ne h.b8 q (by decide)) _, this, blk_far h.b9 (p := ⟨gm, i, none⟩) (blk_ne h.b9 q (by decide)) _, h.h8, h.h9⟩
theorem MvW.flag (h : MvW B n w g8 g9 gm cm s) (c : Bool) : MvW B n (w.setCell ⟨g9, 0, none⟩ (.bool c)) g8 g9 gm cm (s.1, c) :=
  ⟨blk_far h.b8 (p := ⟨g9, 0, none⟩) (blk_ne h.b8 h.b9 (by decide)) _, Kd.R_mono (Kd.R_far (p := ⟨g9, 0, none⟩) (Kd.R_types h.R h.b9 (by decide)) (fun _ hk => hk.2) _) (fun _ _ => trivial), blk_put h.b9 0 _ rfl, h.h8, h.h9⟩
theorem MvW.far (h : MvW B n w g8 g9 gm cm s) {g : Nat} {cs : Array Value} {t : TypeId} (hg : w.heap[g]? = some (.cells cs t (0, 0))) (h1 : 22 ≠ t) (h2 : 2 ≠ t) (h3 : 4 ≠ t) (j : Nat) (u : Value) : MvW B n (w.setCell ⟨g, j, none⟩ u) g8 g9 gm cm s :=
  ⟨blk_far h.b8 (p := ⟨g, j, none⟩) (blk_ne h.b8 hg h1) _, Kd.R_mono (Kd.R_far (p := ⟨g, j, none⟩) (Kd.R_types h.R hg (by intro q hq; have : q = 2 := by simpa [Kd.int, Kd.scalar] using hq
                                                                                                                          subst this; exact h2)) (fun _ hk => hk.2) _) (fun _ _ => trivial), blk_far h.b9 (p := ⟨g, j, none⟩) (blk_ne h.b9 hg h3) _, h.h8, h.h9⟩
def RaiseW (B n : Nat) (w : World) (g8 g9 gm cm : Nat) (s : MC) (w' : World) : Prop := MvW B n w' g8 g9 gm cm s ∧ Below B w w' ∧ Kept w w' (fun k => k = gm ∨ k = g9)
set_option maxHeartbeats 4000000 in
set_option maxRecDepth 100000 in
theorem RaiseClo (i : Nat) (x : Int) (hi : i < n) (hn : n ≤ 1000000) (h : MvW B n w g8 g9 gm cm s) :
    Calls Try.prog 98 #[.int .i64 (i : Int), .int .i64 x, .pointer (some ⟨g8, 0, none⟩), .pointer (some ⟨g9, 0, none⟩)] w fun e w' => e = .returned (.tuple #[]) ∧ RaiseW B n w g8 g9 gm cm (raiseS s i x) w' := by
  have HH := Aside0.mk h
  have p0 : (0 ≤ (i : Int)) = True := eq_true (by omega)
  have p1 : ((i : Int) < (n : Int)) = True := eq_true (by omega)
  have c8 := h.c8
  obtain ⟨cmi, zmi⟩ := h.cel i hi
  clear h
  cases hv : decide (rd s.1 (i : Int) < x) with
  | false =>
    have HV : Aside0 (raiseS s i x = s) := ⟨by unfold raiseS; rw [if_neg (of_decide_eq_false hv)]⟩
    go_enter Try.func98, Try.ntmps98
    go_wp2
    (first | (refine bodyPost_end (results_none rfl _ _ _) rfl ?_) | (refine bodyPost_ret (results_none rfl _ _ _) rfl ?_))
    rw [HV.out]
    exact ⟨rfl, HH.out, Below.refl _ _, Kept.refl _ _⟩
  | true =>
    have HV : Aside0 (raiseS s i x = (s.1.set i x, true)) := ⟨by unfold raiseS; rw [if_pos (of_decide_eq_true hv)]⟩
    have HP := Aside0.mk (HH.out.put i x)
    have z9 : ∀ v, (w.setCell ⟨gm, i, none⟩ v).frozen? ⟨g9, 0, none⟩ = false := fun v => by obtain ⟨cells, q⟩ := HH.out.typ; exact blk_frozen (blk_far HH.out.b9 (p := ⟨gm, i, none⟩) (blk_ne HH.out.b9 q (by decide)) v) 0
    have c9 : ∀ v, (w.setCell ⟨gm, i, none⟩ v).cell? ⟨g9, 0, none⟩ = some (.bool s.2) := fun v => by obtain ⟨cells, q⟩ := HH.out.typ; exact (blk_cell (blk_far HH.out.b9 (p := ⟨gm, i, none⟩) (blk_ne HH.out.b9 q (by decide)) v) 0).trans rfl
    have HF := Aside0.mk (HP.out.flag true)
    go_enter Try.func98, Try.ntmps98
    go_wp2
    (first | (refine bodyPost_end (results_none rfl _ _ _) rfl ?_) | (refine bodyPost_ret (results_none rfl _ _ _) rfl ?_))
    rw [HV.out]
    have hr := HH.out.rng
    exact ⟨rfl, HF.out, ((Below.refl _ _).setCell (p := ⟨gm, i, none⟩) hr.1 _).setCell (p := ⟨g9, 0, none⟩) HH.out.h9 _, Kept.setCell (p := ⟨g9, 0, none⟩) (Kept.setCell (p := ⟨gm, i, none⟩) (Kept.refl _ _) (.inl (.inl rfl)) _) (.inl (.inr rfl)) _⟩
end Go.Proofs.Ytojpibpjieanhaa.X
end
section
-- Written by a program of this session out of the kit's print of the loaded functions: a plain function of a Go function, and its contract.
namespace Go.Proofs.Ytojpibpjieanhaa.X
open Go.RowKit Go.Proofs.YtojpibpjieanhaaW.PrintWords Go.Proofs.YtojpibpjieanhaaW.PrintLast Go.Proofs.YtojpibpjieanhaaW.PrintMore
attribute [local go_sem] max2_int min2_int max_two min_two max_three min_three max_four min_four   -- for this text's walks alone
set_option linter.unusedVariables false
set_option linter.unusedSimpArgs false
def impl_within.f (a0 : Int) (a1 : Int) (a2 : Int) : Option (Bool) := if a0 ≥ a1 then (some (decide (a0 ≤ a2))) else (some false)
set_option maxHeartbeats 8000000 in
set_option maxRecDepth 100000 in
theorem impl_within.calls (a0 : Int) (a1 : Int) (a2 : Int) (r : Bool) (w : World) (h : impl_within.f a0 a1 a2 = some r) :
  Calls Try.prog 47 #[.int .i64 a0, .int .i64 a1, .int .i64 a2] w fun e w' => e = .returned (.bool r) ∧ Drawn0 w w' := by
 have H : (if a0 ≥ a1 then (some (decide (a0 ≤ a2))) else (some false)) = some r := h
 clear h
 by_cases c4 : a0 ≥ a1
 ·rw [if_pos c4] at H
  have c4b0 : decide (a1 ≤ a0) = true := decide_eq_true c4
  clear c4
  obtain rfl := Option.some.inj H
  go_enter Try.func47, Try.ntmps47
  go_wp2
  go_ret
  exact ⟨by first | rfl | (simp; done) | (simp [*]; done), by repeat (first | exact Drawn0.refl _ | apply Drawn0.step)⟩
 ·rw [if_neg c4] at H
  have c4b0 : decide (a1 ≤ a0) = false := decide_eq_false c4
  clear c4
  obtain rfl := Option.some.inj H
  go_enter Try.func47, Try.ntmps47
  go_wp2
  go_ret
  exact ⟨by first | rfl | (simp; done) | (simp [*]; done), by repeat (first | exact Drawn0.refl _ | apply Drawn0.step)⟩
end Go.Proofs.Ytojpibpjieanhaa.X
end
section
-- Written by a program of this session out of the kit's print of the loaded functions: a plain function of a Go function, and its contract.
namespace Go.Proofs.Ytojpibpjieanhaa.X
open Go.RowKit Go.Proofs.YtojpibpjieanhaaW.PrintWords Go.Proofs.YtojpibpjieanhaaW.PrintLast Go.Proofs.YtojpibpjieanhaaW.PrintMore
attribute [local go_sem] max2_int min2_int max_two min_two max_three min_three max_four min_four   -- for this text's walks alone
set_option linter.unusedVariables false
set_option linter.unusedSimpArgs false
class C_slices_IndexFunc_int64_int64 where
 f : Int → Option Bool
section
variable [C_slices_IndexFunc_int64_int64]
def slices_IndexFunc_int64_int64.l0 : Nat → List Int → Int → Int → Option (Int)
 | 0, _, _, _ => none
 | k + 1, x0, x7, x8 => if x8 < x7 then (if 0 ≤ x8 then (if x8 < (x0.length : Int) then ((C_slices_IndexFunc_int64_int64.f (rd x0 x8)).bind fun t120 => (if t120 = true then (some x8) else (slices_IndexFunc_int64_int64.l0 k x0 x7 (wrap64 (x8 + 1))))) else (none)) else (none)) else (some (-1))
def slices_IndexFunc_int64_int64.f (k : Nat) (l0 : List Int) (a1 : Int) : Option (Int) := slices_IndexFunc_int64_int64.l0 k l0 (l0.length : Int) 0
theorem slices_IndexFunc_int64_int64.mono_l : ∀ k, (∀ y0 y1 y2, LeO (slices_IndexFunc_int64_int64.l0 k y0 y1 y2) (slices_IndexFunc_int64_int64.l0 (k + 1) y0 y1 y2))
 | 0 => fun _ _ _ r h => by simp [slices_IndexFunc_int64_int64.l0] at h
 | k + 1 => by
  have ih0 := slices_IndexFunc_int64_int64.mono_l k
  ·intro y0 y1 y2
   unfold slices_IndexFunc_int64_int64.l0
   repeat' first
   | (with_reducible exact ih0 _ _ _)
   | (with_reducible exact LeO.refl _)
   | (with_reducible exact LeO.none _)
   | (with_reducible refine LeO.ite ?_ ?_)
   | (with_reducible refine LeO.bind ?_ (fun _ => ?_))
   | exact ih0 _ _ _
   | exact LeO.none _
   | refine LeO.ite ?_ ?_
   | refine LeO.bind ?_ (fun _ => ?_)
theorem slices_IndexFunc_int64_int64.mono : ∀ a0 a1 k, LeO (slices_IndexFunc_int64_int64.f k a0 a1) (slices_IndexFunc_int64_int64.f (k + 1) a0 a1) := by
 intro a0 a1 k
 have ih0 := slices_IndexFunc_int64_int64.mono_l k
 unfold slices_IndexFunc_int64_int64.f
 repeat' first
   | (with_reducible exact ih0 _ _ _)
   | (with_reducible exact LeO.refl _)
   | (with_reducible exact LeO.none _)
   | (with_reducible refine LeO.ite ?_ ?_)
   | (with_reducible refine LeO.bind ?_ (fun _ => ?_))
   | exact ih0 _ _ _
   | exact LeO.none _
   | refine LeO.ite ?_ ?_
   | refine LeO.bind ?_ (fun _ => ?_)
set_option maxHeartbeats 8000000 in
set_option maxRecDepth 100000 in
theorem slices_IndexFunc_int64_int64.calls (k : Nat) (A0 : Option Addr) (c0 : Nat) (l0 : List Int) (a1 : Int) (r : Int) (cf : Nat) (cfn : Func) (caps : Array Value) (hcf : CloIs Try.prog cf cfn) (w : World) (hcl : ∀ x r W, C_slices_IndexFunc_int64_int64.f x = some r → Below w.heap.size w W → Calls Try.prog cf (#[.int .i64 x] ++ caps) W fun e w' => e = .returned (.bool r) ∧ Drawn0 W w') (hr0 : Kd.C (Kd.int .i64) w A0 l0.length l0) (hc0 : l0.length ≤ c0) (h : slices_IndexFunc_int64_int64.f k l0 a1 = some r) :
  Calls Try.prog 99 #[.slice A0 l0.length c0, .func (.func cf) #[] caps] w fun e w' => e = .returned (.int .i64 r) ∧ Drawn0 w w' := by
 have HCF := Aside0.mk hcf
 have HCL := Aside0.mk hcl
 clear hcf hcl
 have HR0 := Aside0.mk hr0
 have HC0 := Aside0.mk hc0
 clear hr0 hc0
 have H : (slices_IndexFunc_int64_int64.l0 k l0 (l0.length : Int) 0) = some r := h
 clear h
 have H' := Aside0.mk H
 clear H
 go_enter Try.func99, Try.ntmps99
 go_wp2
 go_loopg [8] k (fun kq v8 w' => ∃ (x8_1 : Int), v8 = .int .i64 x8_1 ∧ Aside0 (slices_IndexFunc_int64_int64.l0 kq l0 (l0.length : Int) x8_1 = some r) ∧ Aside0 (kq ≤ k) ∧ Drawn0 w w')
 case atStart => exact ⟨(0), (by first | rfl | (simp; done) | (simp [*]; done)), H', ⟨Nat.le_refl _⟩, by repeat (first | exact Drawn0.refl _ | apply Drawn0.step)⟩
 case round =>
  clear H'
  try clear p2
  obtain ⟨x8_1, rfl, HA, HK1, ⟨m1, rfl⟩⟩ := hrel
  cases gk with
  | zero => exact absurd HA.out (by simp [slices_IndexFunc_int64_int64.l0])
  | succ k1 =>
   have H := HA.out
   clear HA
   simp only [slices_IndexFunc_int64_int64.l0] at H
   by_cases c3 : x8_1 < (l0.length : Int)
   ·rw [if_pos c3] at H
    have c3b0 : decide (x8_1 < (l0.length : Int)) = true := decide_eq_true c3
    clear c3
    by_cases c4 : 0 ≤ x8_1
    ·rw [if_pos c4] at H
     have c4b0 : decide (0 ≤ x8_1) = true := decide_eq_true c4
     clear c4
     by_cases c5 : x8_1 < (l0.length : Int)
     ·rw [if_pos c5] at H
      have c5b0 : decide (x8_1 < (l0.length : Int)) = true := decide_eq_true c5
      clear c5
      replace H := Option.bind_eq_some_iff.mp H
      obtain ⟨t120, A60, H⟩ := H
      replace H : (if t120 = true then (some x8_1) else (slices_IndexFunc_int64_int64.l0 k1 l0 (l0.length : Int) (wrap64 (x8_1 + 1)))) = some r := H
      have A6 := Aside0.mk A60
      clear A60
      by_cases c7 : t120 = true
      ·subst c7
       have H1 : (some x8_1) = some r := by rw [if_pos rfl] at H; exact H
       clear H
       have H := H1
       clear H1
       obtain rfl := Option.some.inj H
       have p119 : 0 ≤ (x8_1 : Int) := of_decide_eq_true (by first | (with_reducible assumption) | assumption)
       have q119 : x8_1 < (l0.length : Int) := of_decide_eq_true (by first | (with_reducible assumption) | assumption)
       obtain ⟨ad119, e119, hx119_0⟩ := Kd.at_int HR0.out x8_1 p119 q119
       cases e119
       replace p119 := eq_true p119
       replace q119 := eq_true q119
       go_wp2_with (first | ((with_reducible refine gate_dst (N := 16) rfl ?_); refine goesV_ (some 16) rfl rfl HCF.out.hf HCF.out.hname HCF.out.hb #[.int .i64 (rd l0 x8_1)] rfl rfl (by (try simp only [List.map_toArray, List.map_cons, List.map_nil]); first | done | rfl | (simp only [List.length_drop, List.length_take]; rfl)) ?_; (refine (HCL.out (rd l0 x8_1) true _ A6.out (by repeat (first | (with_reducible first | exact HB.out | apply below_alloc | apply pw_below_drewN | apply below_drew1) | exact HB.out | exact Below.refl _ _))).mono ?_); rintro e w' ⟨rfl, ⟨nd, rfl⟩⟩; refine ⟨_, rfl, ?_⟩))
       go_ret
       exact ⟨by first | rfl | (simp; done) | (simp [*]; done), by repeat (first | exact Drawn0.refl _ | apply Drawn0.step)⟩
      ·replace c7 := Bool.eq_false_iff.mpr c7
       subst c7
       have H1 : (slices_IndexFunc_int64_int64.l0 k1 l0 (l0.length : Int) (wrap64 (x8_1 + 1))) = some r := by rw [if_neg (show ¬ (false = true) by decide)] at H; exact H
       clear H
       have H := H1
       clear H1
       have H' := Aside0.mk H
       clear H
       have p119 : 0 ≤ (x8_1 : Int) := of_decide_eq_true (by first | (with_reducible assumption) | assumption)
       have q119 : x8_1 < (l0.length : Int) := of_decide_eq_true (by first | (with_reducible assumption) | assumption)
       obtain ⟨ad119, e119, hx119_0⟩ := Kd.at_int HR0.out x8_1 p119 q119
       cases e119
       replace p119 := eq_true p119
       replace q119 := eq_true q119
       go_wp2_with (first | ((with_reducible refine gate_dst (N := 16) rfl ?_); refine goesV_ (some 16) rfl rfl HCF.out.hf HCF.out.hname HCF.out.hb #[.int .i64 (rd l0 x8_1)] rfl rfl (by (try simp only [List.map_toArray, List.map_cons, List.map_nil]); first | done | rfl | (simp only [List.length_drop, List.length_take]; rfl)) ?_; (refine (HCL.out (rd l0 x8_1) false _ A6.out (by repeat (first | (with_reducible first | exact HB.out | apply below_alloc | apply pw_below_drewN | apply below_drew1) | exact HB.out | exact Below.refl _ _))).mono ?_); rintro e w' ⟨rfl, ⟨nd, rfl⟩⟩; refine ⟨_, rfl, ?_⟩))
       go_roundg k1
       case measure => have := HK1.out; omega
       case rel => exact ⟨(wrap64 (x8_1 + 1)), (by first | rfl | (simp; done) | (simp [*]; done)), H', ⟨by have := HK1.out; omega⟩, by repeat (first | exact Drawn0.refl _ | apply Drawn0.step)⟩
     ·rw [if_neg c5] at H
      exact absurd H (by simp)
    ·rw [if_neg c4] at H
     exact absurd H (by simp)
   ·rw [if_neg c3] at H
    have c3b0 : decide (x8_1 < (l0.length : Int)) = false := decide_eq_false c3
    clear c3
    obtain rfl := Option.some.inj H
    go_wp2
    go_ret
    exact ⟨by first | rfl | (simp; done) | (simp [*]; done), by repeat (first | exact Drawn0.refl _ | apply Drawn0.step)⟩
end
end Go.Proofs.Ytojpibpjieanhaa.X
end
section
namespace Go.Proofs.Ytojpibpjieanhaa.X
open Go.RowKit Go.Proofs.YtojpibpjieanhaaW.PrintWords Go.Proofs.YtojpibpjieanhaaW.PrintLast Go.Proofs.YtojpibpjieanhaaW.PrintMore
set_option linter.unusedVariables false
set_option linter.unusedSimpArgs false
theorem drawn_trans {a b c : World} (h : Drawn0 a b) (k : Drawn0 b c) : Drawn0 a c := by
  obtain ⟨m, rfl⟩ := h
  obtain ⟨n, rfl⟩ := k
  exact ⟨m + n, by simp [World.drewN, Nat.add_assoc]⟩
abbrev areC : C_slices_IndexFunc_int64_int64 := ⟨fun x => some (!decide (-20 ≤ x ∧ x ≤ 20))⟩
set_option maxHeartbeats 4000000 in
set_option maxRecDepth 100000 in
theorem AreClo0 (x : Int) (b : Bool) (w : World) (h : impl_within.f x (-20) 20 = some b) : Calls Try.prog 77 #[.int .i64 x] w fun e w' => e = .returned (.bool !b) ∧ Drawn0 w w' := by
  have H := Aside0.mk h
  clear h
  have HD := Aside0.mk (Drawn0.refl w)
  go_enter Try.func77, Try.ntmps77
  go_wp2_with (first
    | (go_at_call 47; (with_reducible refine (impl_within.calls x (-20) 20 _ _ H.out).mono ?_); rintro e wn ⟨rfl, hb⟩; have n0_ := Aside0.mk (drawn_trans HD.out hb); clear HD hb; have HD := n0_; clear n0_))
  go_ret
  exact ⟨rfl, HD.out⟩
theorem AreClo (x : Int) (w : World) : Calls Try.prog 77 #[.int .i64 x] w fun e w' => e = .returned (.bool (!decide (-20 ≤ x ∧ x ≤ 20))) ∧ Drawn0 w w' :=
  AreClo0 x _ w (by unfold impl_within.f; by_cases h : x ≥ -20 <;> simp [h] <;> omega)
set_option maxHeartbeats 4000000 in
set_option maxRecDepth 100000 in
theorem AreHas (k : Nat) (A : Option Addr) (c : Nat) (l : List Int) (r : Int) (w : World) (hr : Kd.C (Kd.int .i64) w A l.length l) (hc : l.length ≤ c) (h : @slices_IndexFunc_int64_int64.f areC k l 0 = some r) :
    Calls Try.prog 76 #[.slice A l.length c, .func (.func 77) #[] #[]] w fun e w' => e = .returned (.bool (decide (r ≥ 0))) ∧ Drawn0 w w' := by
  have H := Aside0.mk h
  have HR := Aside0.mk hr
  have HC := Aside0.mk hc
  clear h hr hc
  have HD := Aside0.mk (Drawn0.refl w)
  go_enter Try.func76, Try.ntmps76
  go_wp2_with (first
    | (go_at_call 99; refine (@slices_IndexFunc_int64_int64.calls areC k A c l 0 r 77 Try.f77 #[] ⟨Try.func77, rfl, by kernel_rfl⟩ _ ?hcl HR.out HC.out H.out).mono ?_; (case hcl => exact fun x r W hx _ => by obtain rfl := Option.some.inj hx; exact AreClo x W); rintro e wn ⟨rfl, hb⟩; have n0_ := Aside0.mk (drawn_trans HD.out hb); clear HD hb; have HD := n0_; clear n0_))
  go_ret
  exact ⟨rfl, HD.out⟩
def impl_areMoves.f (k : Nat) (l : List Int) : Option Bool := (@slices_IndexFunc_int64_int64.f areC k l 0).bind fun i => some (!decide (i ≥ 0))
theorem impl_areMoves.mono : ∀ l k, LeO (impl_areMoves.f k l) (impl_areMoves.f (k + 1) l) := by
  intro l k
  unfold impl_areMoves.f
  exact LeO.bind (@slices_IndexFunc_int64_int64.mono areC l 0 k) (fun _ => LeO.refl _)
set_option maxHeartbeats 4000000 in
set_option maxRecDepth 100000 in
theorem impl_areMoves.calls (k : Nat) (A : Option Addr) (c : Nat) (l : List Int) (r : Bool) (w : World) (hr : Kd.C (Kd.int .i64) w A l.length l) (hc : l.length ≤ c) (h : impl_areMoves.f k l = some r) :
    Calls Try.prog 48 #[.slice A l.length c] w fun e w' => e = .returned (.bool r) ∧ Drawn0 w w' := by
  unfold impl_areMoves.f at h
  obtain ⟨i, hi, h⟩ := Option.bind_eq_some_iff.mp h
  obtain rfl := Option.some.inj h
  have H := Aside0.mk hi
  have HR := Aside0.mk hr
  have HC := Aside0.mk hc
  clear h hr hc hi
  have HD := Aside0.mk (Drawn0.refl w)
  go_enter Try.func48, Try.ntmps48
  go_wp2_with (first
    | (go_at_call 76; (with_reducible refine (AreHas k A c l i _ HR.out HC.out H.out).mono ?_); rintro e wn ⟨rfl, hb⟩; have n0_ := Aside0.mk (drawn_trans HD.out hb); clear HD hb; have HD := n0_; clear n0_))
  go_ret
  exact ⟨rfl, HD.out⟩
end Go.Proofs.Ytojpibpjieanhaa.X
end
section
-- Written by a program of this session out of the kit's print of the loaded functions: a plain function of a Go function, and its contract.
namespace Go.Proofs.Ytojpibpjieanhaa.X
open Go.RowKit Go.Proofs.YtojpibpjieanhaaW.PrintWords Go.Proofs.YtojpibpjieanhaaW.PrintLast Go.Proofs.YtojpibpjieanhaaW.PrintMore
attribute [local go_sem] max2_int min2_int max_two min_two max_three min_three max_four min_four   -- for this text's walks alone
set_option linter.unusedVariables false
set_option linter.unusedSimpArgs false
def impl_isDelay.f (a0 : Int) : Option (Bool) := (impl_within.f a0 0 100).bind fun t806 => (some t806)
set_option maxHeartbeats 8000000 in
set_option maxRecDepth 100000 in
theorem impl_isDelay.calls (a0 : Int) (r : Bool) (w : World) (h : impl_isDelay.f a0 = some r) :
  Calls Try.prog 82 #[.int .i64 a0] w fun e w' => e = .returned (.bool r) ∧ Drawn0 w w' := by
 have H : ((impl_within.f a0 0 100).bind fun t806 => (some t806)) = some r := h
 clear h
 replace H := Option.bind_eq_some_iff.mp H
 obtain ⟨t806, A20, H⟩ := H
 replace H : (some t806) = some r := H
 have A2 := Aside0.mk A20
 clear A20
 obtain rfl := Option.some.inj H
 go_enter Try.func82, Try.ntmps82
 go_wp2_with (first | ((with_reducible refine gate_callee (f := 47) rfl ?_); refine goesL_ (some 4) rfl rfl Try.func47 (by kernel_rfl) rfl #[.int .i64 a0, .int .i64 0, .int .i64 100] rfl (by (try simp only [List.map_toArray, List.map_cons, List.map_nil]); first | done | rfl | (simp only [List.length_drop, List.length_take]; rfl)) ?_; (with_reducible refine (impl_within.calls a0 0 100 t806 _ A2.out).mono ?_); rintro e w' ⟨rfl, ⟨nd, rfl⟩⟩; refine ⟨_, rfl, ?_⟩))
 go_ret
 exact ⟨by first | rfl | (simp; done) | (simp [*]; done), by repeat (first | exact Drawn0.refl _ | apply Drawn0.step)⟩
end Go.Proofs.Ytojpibpjieanhaa.X
end
