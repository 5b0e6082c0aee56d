/- My own texts of this seat and its words, merged: Xp61. Conditions: as each lemma says. -/
import Derived.Test.YtojpibpjieanhaaK21
import Derived.Test.YtojpibpjieanhaaK22
section
-- Written by a program of this session out of the kit's print of the loaded functions: a plain function of a Go function, and its contract.
namespace Go.Proofs.Ytojpibpjieanhaa.X
open Go.RowKit Go.Proofs.YtojpibpjieanhaaW.PrintWords Go.Proofs.YtojpibpjieanhaaW.PrintLast Go.Proofs.YtojpibpjieanhaaW.PrintMore
attribute [local go_sem] max2_int min2_int max_two min_two max_three min_three max_four min_four   -- for this text's walks alone
set_option linter.unusedVariables false
set_option linter.unusedSimpArgs false
/-! ### spec_l08Far: function 61 -/
mutual
def spec_l08Far.l0 : Nat → Int → Int → List Int → List Int → Int → List Int → List (S55) → Option (List Int × List Int)
  | 0, _, _, _, _, _, _, _ => none
  | k + 1, x1, x6, x7, x8, x9, x1000, x1001 => if x9 < x6 then (if x7.length < 17592186044416 then (if x8.length < 17592186044416 then (spec_l08Far.l0 k x1 x6 (x7 ++ [(-1)]) (x8 ++ [(-1)]) (wrap64 (x9 + 1)) x1000 x1001) else (none)) else (none)) else (spec_l08Far.l1 k x1 x7 x8 0 x1000 x1001)
def spec_l08Far.l1 : Nat → Int → List Int → List Int → Int → List Int → List (S55) → Option (List Int × List Int)
  | 0, _, _, _, _, _, _ => none
  | k + 1, x1, x7, x8, x10, x1000, x1001 => if x10 < (x1001.length : Int) then (if 0 ≤ x10 then (if ((rd_T55 x1001 x10).f0) = x1 then (if 0 ≤ x1 then (if x1 < (x1000.length : Int) then (if 0 ≤ ((rd_T55 x1001 x10).f1) then (if ((rd_T55 x1001 x10).f1) < (x1000.length : Int) then (if ((rd_T55 x1001 x10).f1) < (x7.length : Int) then (if (rd x7 ((rd_T55 x1001 x10).f1)) < 0 then (spec_l08Far.j2 k x1 x7 x8 x10 (wrap64 ((rd x1000 x1) + (rd x1000 ((rd_T55 x1001 x10).f1)))) true x1000 x1001 ((rd_T55 x1001 x10).f0) ((rd_T55 x1001 x10).f1) ((rd_T55 x1001 x10).f2)) else (if ((rd_T55 x1001 x10).f2) < (rd x7 ((rd_T55 x1001 x10).f1)) then (spec_l08Far.j2 k x1 x7 x8 x10 (wrap64 ((rd x1000 x1) + (rd x1000 ((rd_T55 x1001 x10).f1)))) true x1000 x1001 ((rd_T55 x1001 x10).f0) ((rd_T55 x1001 x10).f1) ((rd_T55 x1001 x10).f2)) else (if ((rd_T55 x1001 x10).f2) = (rd x7 ((rd_T55 x1001 x10).f1)) then (if ((rd_T55 x1001 x10).f1) < (x8.length : Int) then (spec_l08Far.j2 k x1 x7 x8 x10 (wrap64 ((rd x1000 x1) + (rd x1000 ((rd_T55 x1001 x10).f1)))) (decide ((wrap64 ((rd x1000 x1) + (rd x1000 ((rd_T55 x1001 x10).f1)))) > (rd x8 ((rd_T55 x1001 x10).f1)))) x1000 x1001 ((rd_T55 x1001 x10).f0) ((rd_T55 x1001 x10).f1) ((rd_T55 x1001 x10).f2)) else (none)) else (spec_l08Far.j2 k x1 x7 x8 x10 (wrap64 ((rd x1000 x1) + (rd x1000 ((rd_T55 x1001 x10).f1)))) false x1000 x1001 ((rd_T55 x1001 x10).f0) ((rd_T55 x1001 x10).f1) ((rd_T55 x1001 x10).f2))))) else (none)) else (none)) else (none)) else (none)) else (none)) else (spec_l08Far.l1 k x1 x7 x8 (wrap64 (x10 + 1)) x1000 x1001)) else (none)) else (spec_l08Far.l2 k x7 x8 true x1000 x1001)
def spec_l08Far.j2 : Nat → Int → List Int → List Int → Int → Int → Bool → List Int → List (S55) → Int → Int → Int → Option (List Int × List Int)
  | 0, _, _, _, _, _, _, _, _, _, _, _ => none
  | k + 1, x1, x7, x8, x10, x12, x106, x1000, x1001, x458000, x458001, x458002 => if x106 = true then (if 0 ≤ x458001 then (if x458001 < (x7.length : Int) then (if x458001 < (x8.length : Int) then (spec_l08Far.l1 k x1 (x7.set (x458001 : Int).toNat x458002) (x8.set (x458001 : Int).toNat x12) (wrap64 (x10 + 1)) x1000 x1001) else (none)) else (none)) else (none)) else (spec_l08Far.l1 k x1 x7 x8 (wrap64 (x10 + 1)) x1000 x1001)
def spec_l08Far.l2 : Nat → List Int → List Int → Bool → List Int → List (S55) → Option (List Int × List Int)
  | 0, _, _, _, _, _ => none
  | k + 1, x7, x8, x13, x1000, x1001 => if x13 = true then (spec_l08Far.l3 k x7 x8 false 0 x1000 x1001) else (some (x7, x8))
def spec_l08Far.l3 : Nat → List Int → List Int → Bool → Int → List Int → List (S55) → Option (List Int × List Int)
  | 0, _, _, _, _, _, _ => none
  | k + 1, x7, x8, x13, x14, x1000, x1001 => if x14 < (x1001.length : Int) then (if 0 ≤ x14 then (if 0 ≤ ((rd_T55 x1001 x14).f0) then (if ((rd_T55 x1001 x14).f0) < (x7.length : Int) then (if (rd x7 ((rd_T55 x1001 x14).f0)) < 0 then (spec_l08Far.l3 k x7 x8 x13 (wrap64 (x14 + 1)) x1000 x1001) else (if ((rd_T55 x1001 x14).f0) < (x8.length : Int) then (if 0 ≤ ((rd_T55 x1001 x14).f1) then (if ((rd_T55 x1001 x14).f1) < (x1000.length : Int) then (if ((rd_T55 x1001 x14).f1) < (x7.length : Int) then (if (rd x7 ((rd_T55 x1001 x14).f1)) < 0 then (spec_l08Far.j5 k x7 x8 x13 x14 (wrap64 ((rd x7 ((rd_T55 x1001 x14).f0)) + ((rd_T55 x1001 x14).f2))) (wrap64 ((rd x8 ((rd_T55 x1001 x14).f0)) + (rd x1000 ((rd_T55 x1001 x14).f1)))) true x1000 x1001 ((rd_T55 x1001 x14).f0) ((rd_T55 x1001 x14).f1) ((rd_T55 x1001 x14).f2)) else (if (wrap64 ((rd x7 ((rd_T55 x1001 x14).f0)) + ((rd_T55 x1001 x14).f2))) < (rd x7 ((rd_T55 x1001 x14).f1)) then (spec_l08Far.j5 k x7 x8 x13 x14 (wrap64 ((rd x7 ((rd_T55 x1001 x14).f0)) + ((rd_T55 x1001 x14).f2))) (wrap64 ((rd x8 ((rd_T55 x1001 x14).f0)) + (rd x1000 ((rd_T55 x1001 x14).f1)))) true x1000 x1001 ((rd_T55 x1001 x14).f0) ((rd_T55 x1001 x14).f1) ((rd_T55 x1001 x14).f2)) else (if (wrap64 ((rd x7 ((rd_T55 x1001 x14).f0)) + ((rd_T55 x1001 x14).f2))) = (rd x7 ((rd_T55 x1001 x14).f1)) then (if ((rd_T55 x1001 x14).f1) < (x8.length : Int) then (spec_l08Far.j5 k x7 x8 x13 x14 (wrap64 ((rd x7 ((rd_T55 x1001 x14).f0)) + ((rd_T55 x1001 x14).f2))) (wrap64 ((rd x8 ((rd_T55 x1001 x14).f0)) + (rd x1000 ((rd_T55 x1001 x14).f1)))) (decide ((wrap64 ((rd x8 ((rd_T55 x1001 x14).f0)) + (rd x1000 ((rd_T55 x1001 x14).f1)))) > (rd x8 ((rd_T55 x1001 x14).f1)))) x1000 x1001 ((rd_T55 x1001 x14).f0) ((rd_T55 x1001 x14).f1) ((rd_T55 x1001 x14).f2)) else (none)) else (spec_l08Far.j5 k x7 x8 x13 x14 (wrap64 ((rd x7 ((rd_T55 x1001 x14).f0)) + ((rd_T55 x1001 x14).f2))) (wrap64 ((rd x8 ((rd_T55 x1001 x14).f0)) + (rd x1000 ((rd_T55 x1001 x14).f1)))) false x1000 x1001 ((rd_T55 x1001 x14).f0) ((rd_T55 x1001 x14).f1) ((rd_T55 x1001 x14).f2))))) else (none)) else (none)) else (none)) else (none))) else (none)) else (none)) else (none)) else (spec_l08Far.l2 k x7 x8 x13 x1000 x1001)
def spec_l08Far.j5 : Nat → List Int → List Int → Bool → Int → Int → Int → Bool → List Int → List (S55) → Int → Int → Int → Option (List Int × List Int)
  | 0, _, _, _, _, _, _, _, _, _, _, _, _ => none
  | k + 1, x7, x8, x13, x14, x16, x17, x195, x1000, x1001, x468000, x468001, x468002 => if x195 = true then (if 0 ≤ x468001 then (if x468001 < (x7.length : Int) then (if x468001 < (x8.length : Int) then (spec_l08Far.l3 k (x7.set (x468001 : Int).toNat x16) (x8.set (x468001 : Int).toNat x17) true (wrap64 (x14 + 1)) x1000 x1001) else (none)) else (none)) else (none)) else (spec_l08Far.l3 k x7 x8 x13 (wrap64 (x14 + 1)) x1000 x1001)
end
def spec_l08Far.f (k : Nat) (s0_0 : List Int) (s0_1 : List (S55)) (a1 : Int) : Option (List Int × List Int) := spec_l08Far.l0 k a1 (s0_0.length : Int) (([] : List Int)) (([] : List Int)) 0 s0_0 s0_1
set_option maxHeartbeats 8000000 in
set_option maxRecDepth 100000 in
theorem spec_l08Far.calls (k : Nat) (g : Nat) (s0_0 : List Int) (s0_1 : List (S55)) (a1 : Int) (r1 : List Int) (r2 : List Int) (w0 w : World) (hI : IsS36 w0 w g s0_0 s0_1) (hB : Below w0.heap.size w0 w) (h : spec_l08Far.f k s0_0 s0_1 a1 = some (r1, r2)) :
    Calls Try.prog 61 #[.pointer (some ⟨g, 0, none⟩), .int .i64 a1] w fun e w' => ∃ v0_ v1_ : Value, e = .returned (.tuple #[v0_, v1_]) ∧ Kd.R (Kd.int .i64) 2 w' w.heap.size (fun k_ => some k_ ≠ (v1_ : Value).ownBlock) v0_ r1 ∧ Kd.R (Kd.int .i64) 2 w' w.heap.size (fun k_ => some k_ ≠ (v0_ : Value).ownBlock) v1_ r2 ∧ IsS36 w0 w' g s0_0 s0_1 ∧ Below w0.heap.size w0 w' ∧ KeepBut w w' g none := by
  have hu55 := Try.underlying55
  have HI0 := Aside0.mk hI
  have HK := Aside0.mk (KeepBut.refl w g none)
  have HL := Aside0.mk hB.size
  clear hI
  have HW0 := Aside0.mk hB.size
  have HB := Aside0.mk hB
  clear hB
  have H : (spec_l08Far.l0 k a1 (s0_0.length : Int) (([] : List Int)) (([] : List Int)) 0 s0_0 s0_1) = some (r1, r2) := h
  clear h
  obtain ⟨y444, hy444⟩ : ∃ y_ : List Int, y_ = (([] : List Int)) := ⟨_, rfl⟩
  replace H : (spec_l08Far.l0 k a1 (s0_0.length : Int) y444 (([] : List Int)) 0 s0_0 s0_1) = some (r1, r2) := by first | (rw [hy444]; with_reducible exact H) | (have H2_ := (Option.bind_some _ _).symm.trans H; rw [hy444]; with_reducible exact H2_) | (have H2_ := (Option.bind_some _ _).symm.trans H; with_reducible exact H2_) | with_reducible exact H | (rw [hy444]; exact H) | exact H
  have Ny444 := Aside0.mk hy444
  clear hy444
  obtain ⟨y447, hy447⟩ : ∃ y_ : List Int, y_ = (([] : List Int)) := ⟨_, rfl⟩
  replace H : (spec_l08Far.l0 k a1 (s0_0.length : Int) y444 y447 0 s0_0 s0_1) = some (r1, r2) := by first | (rw [hy447]; with_reducible exact H) | (have H2_ := (Option.bind_some _ _).symm.trans H; rw [hy447]; with_reducible exact H2_) | (have H2_ := (Option.bind_some _ _).symm.trans H; with_reducible exact H2_) | with_reducible exact H | (rw [hy447]; exact H) | exact H
  have Ny447 := Aside0.mk hy447
  clear hy447
  have H' := Aside0.mk H
  clear H
  obtain ⟨ASz3_0, cSz3_0, ASz3_1, cSz3_1, HGz3, hgz3, HSz3_0, HSz3_1⟩ := HI0.out
  have hcz3_0 := cellS36_0 HGz3
  have hcz3_1 := cellS36_1 HGz3
  clear HGz3 hgz3
  go_enter Try.func61, Try.ntmps61
  go_wp2_with (first | ((with_reducible refine gate_dst (N := 23) rfl ?_); refine Kd.R_lit (Kd.int .i64) _ 2 ?hg (N := 23) ?hd (xs := ([] : List Int)) (inner := []) (ok := fun _ => True) (okp := fun _ => True) ?hr ?hp (fun _ hk => hk) trivial (Below.refl _ _) (Nat.le_refl _) (by simp) ?_; (case hd => rfl); (case hg => rfl); (case hr => first | (go_simp; done) | (go_simp; rfl)); (case hp => exact (Reps.none _ _)); intro v445 w4 ho5 hb hg_ hnew_; clear hg_ hnew_; (first | rw [← Ny444.out] at ho5 | (simp only [Int.reduceToNat] at ho5; rw [← Ny444.out] at ho5)); have n0_ := Aside0.mk (Kd.R_lower ho5 (keep_size (w := w) (g := g) (row := none) (by repeat (first | (with_reducible first | exact HK.out | apply KeepBut.set_ | apply keep_drewN | apply keep_drew | apply keep_alloc) | exact HK.out)))); have n1_ := Aside0.mk (IsS36.below (by repeat (first | (with_reducible first | exact HI0.out | apply IsS36.alloc | apply IsS36.drewN | apply IsS36.drew) | exact HI0.out)) hb); have n2_ := Aside0.mk (KeepBut.trans (by repeat (first | (with_reducible first | exact HK.out | apply KeepBut.set_ | apply keep_drewN | apply keep_drew | apply keep_alloc) | exact HK.out)) (KeepBut.of_below hb g none) (.inl rfl)); have n3_ := Aside0.mk (below_step (by repeat (first | (with_reducible first | exact HB.out | apply below_alloc | apply pw_below_drewN | apply below_drew1 | refine below_set ?_ (IsS36.ge HI0.out)) | exact HB.out)) hb); clear HI0; clear HK; clear HB; have HO446 := n0_; have HI0 := n1_; have HK := n2_; have HB := n3_; clear n0_ n1_ n2_ n3_; clear hb ho5) | ((with_reducible refine gate_dst (N := 24) rfl ?_); refine Kd.R_lit (Kd.int .i64) _ 2 ?hg (N := 24) ?hd (xs := ([] : List Int)) (inner := []) (ok := fun _ => True) (okp := fun _ => True) ?hr ?hp (fun _ hk => hk) trivial (Below.refl _ _) (Nat.le_refl _) (by simp) ?_; (case hd => rfl); (case hg => rfl); (case hr => first | (go_simp; done) | (go_simp; rfl)); (case hp => exact (Reps.none _ _)); intro v448 w6 ho7 hb hg_ hnew_; clear hg_ hnew_; (first | rw [← Ny447.out] at ho7 | (simp only [Int.reduceToNat] at ho7; rw [← Ny447.out] at ho7)); have n0_ := Aside0.mk (Kd.R_elder' (by (with_reducible repeat (first | apply Kd.R_alloc | apply Kd.R_drewN | apply Kd.R_drew)); exact HO446.out) (Kd.R_base ho7) hb); have n1_ := Aside0.mk (Kd.R_lower (Kd.R_new' ho7 (Kd.R_lt (by (with_reducible repeat (first | apply Kd.R_alloc | apply Kd.R_drewN | apply Kd.R_drew)); exact HO446.out))) (keep_size (w := w) (g := g) (row := none) (by repeat (first | (with_reducible first | exact HK.out | apply KeepBut.set_ | apply keep_drewN | apply keep_drew | apply keep_alloc) | exact HK.out)))); have n2_ := Aside0.mk (IsS36.below (by repeat (first | (with_reducible first | exact HI0.out | apply IsS36.alloc | apply IsS36.drewN | apply IsS36.drew) | exact HI0.out)) hb); have n3_ := Aside0.mk (KeepBut.trans (by repeat (first | (with_reducible first | exact HK.out | apply KeepBut.set_ | apply keep_drewN | apply keep_drew | apply keep_alloc) | exact HK.out)) (KeepBut.of_below hb g none) (.inl rfl)); have n4_ := Aside0.mk (below_step (by repeat (first | (with_reducible first | exact HB.out | apply below_alloc | apply pw_below_drewN | apply below_drew1 | refine below_set ?_ (IsS36.ge HI0.out)) | exact HB.out)) hb); clear HO446; clear HI0; clear HK; clear HB; have HO446 := n0_; have HO449 := n1_; have HI0 := n2_; have HK := n3_; have HB := n4_; clear n0_ n1_ n2_ n3_ n4_; clear hb ho7))
  repeat (go_quiet (fail); try go_wp2)
  go_loopg [7, 8, 9] k (fun kq v7 v8 v9 w' => ∃ (x7_1 : List Int) (x8_1 : List Int) (x9_1 : Int), v9 = .int .i64 x9_1 ∧ Aside0 (spec_l08Far.l0 kq a1 (s0_0.length : Int) x7_1 x8_1 x9_1 s0_0 s0_1 = some (r1, r2)) ∧ Aside0 (kq ≤ k) ∧ Aside0 (Kd.R (Kd.int .i64) 2 w' w.heap.size (fun k_ => some k_ ≠ (v8 : Value).ownBlock) v7 x7_1) ∧ Aside0 (Kd.R (Kd.int .i64) 2 w' w.heap.size (fun k_ => some k_ ≠ (v7 : Value).ownBlock) v8 x8_1) ∧ Aside0 (IsS36 w0 w' g s0_0 s0_1) ∧ Aside0 (KeepBut w w' g none) ∧ Aside0 (Below w0.heap.size w0 w'))
  case atStart => exact ⟨(y444), (y447), (0), (by first | rfl | (simp; done) | (simp [*]; done)), H', ⟨Nat.le_refl _⟩, ⟨by (with_reducible repeat (first | apply Kd.R_alloc | apply Kd.R_drewN | apply Kd.R_drew)); exact Kd.R_mono HO446.out (fun _ hk => hk.2)⟩, ⟨by (with_reducible repeat (first | apply Kd.R_alloc | apply Kd.R_drewN | apply Kd.R_drew)); exact Kd.R_mono HO449.out (fun _ hk => hk.2)⟩, ⟨by repeat (first | (with_reducible first | exact HI0.out | apply IsS36.alloc | apply IsS36.drewN | apply IsS36.drew) | exact HI0.out)⟩, ⟨by repeat (first | (with_reducible first | exact HK.out | apply KeepBut.set_ | apply keep_drewN | apply keep_drew | apply keep_alloc) | exact HK.out)⟩, ⟨by repeat (first | (with_reducible first | exact HB.out | apply below_alloc | apply pw_below_drewN | apply below_drew1 | refine below_set ?_ (IsS36.ge HI0.out)) | exact HB.out)⟩⟩
  case round =>
    clear H'
    try clear p2
    try clear c6
    try clear hcz3_0
    try clear hcz3_1
    obtain ⟨x7_1, x8_1, x9_1, rfl, HA, HK1, HO_7, HO_8, HI0, HK, HB⟩ := hrel
    cases gk with
    | zero => exact absurd HA.out (by simp [spec_l08Far.l0])
    | succ k1 =>
      have H := HA.out
      clear HA
      simp only [spec_l08Far.l0] at H
      by_cases c8 : x9_1 < (s0_0.length : Int)
      · rw [if_pos c8] at H
        have c8b0 : decide (x9_1 < (s0_0.length : Int)) = true := decide_eq_true c8
        clear c8
        by_cases c9 : x7_1.length < 17592186044416
        · rw [if_pos c9] at H
          have LMc9 := Aside0.mk c9
          clear c9
          obtain ⟨y450, hy450⟩ : ∃ y_ : List Int, y_ = (x7_1 ++ [(-1)]) := ⟨_, rfl⟩
          replace H : (if x8_1.length < 17592186044416 then (spec_l08Far.l0 k1 a1 (s0_0.length : Int) y450 (x8_1 ++ [(-1)]) (wrap64 (x9_1 + 1)) s0_0 s0_1) else (none)) = some (r1, r2) := by first | (rw [hy450]; with_reducible exact H) | (have H2_ := (Option.bind_some _ _).symm.trans H; rw [hy450]; with_reducible exact H2_) | (have H2_ := (Option.bind_some _ _).symm.trans H; with_reducible exact H2_) | with_reducible exact H | (rw [hy450]; exact H) | exact H
          have Ny450 := Aside0.mk hy450
          clear hy450
          by_cases c10 : x8_1.length < 17592186044416
          · rw [if_pos c10] at H
            have LMc10 := Aside0.mk c10
            clear c10
            obtain ⟨y453, hy453⟩ : ∃ y_ : List Int, y_ = (x8_1 ++ [(-1)]) := ⟨_, rfl⟩
            replace H : (spec_l08Far.l0 k1 a1 (s0_0.length : Int) y450 y453 (wrap64 (x9_1 + 1)) s0_0 s0_1) = some (r1, r2) := by first | (rw [hy453]; with_reducible exact H) | (have H2_ := (Option.bind_some _ _).symm.trans H; rw [hy453]; with_reducible exact H2_) | (have H2_ := (Option.bind_some _ _).symm.trans H; with_reducible exact H2_) | with_reducible exact H | (rw [hy453]; exact H) | exact H
            have Ny453 := Aside0.mk hy453
            clear hy453
            have H' := Aside0.mk H
            clear H
            go_wp2_with (first | ((with_reducible refine gate_builtin (b := .append) (xs := #[.tmp 30, .tmp 31]) rfl ?_); at_builtin; refine Kd.R_append (Kd.int .i64) w.heap.size rfl (.tmp 30) (.tmp 31) 22 2 (.int .i64 0) 8 rfl Try.underlying22 info2 rfl (by decide) (by omega) u7 x7_1 (-1) [.int .i64 (-1)] (fun k_ => some k_ ≠ (u8 : Value).ownBlock) (fun _ => False) rfl rfl ?aP (fun _ hk => hk.elim) ?aF ?aO (Below.refl _ _) ?aS ?aL ?_; (case aP => exact rfl); (case aF => exact (fun k_ hk => Kd.fresh' (Kd.R_lt (by (with_reducible repeat (first | apply Kd.R_alloc | apply Kd.R_drewN | apply Kd.R_drew)); exact HO_8.out)) k_ hk)); (case aO => exact (by (with_reducible repeat (first | apply Kd.R_alloc | apply Kd.R_drewN | apply Kd.R_drew)); exact HO_7.out)); (case aS => exact (keep_size (w := w) (g := g) (row := none) (by repeat (first | (with_reducible first | exact HK.out | apply KeepBut.set_ | apply keep_drewN | apply keep_drew | apply keep_alloc) | exact HK.out)))); (case aL => have := LMc9.out; omega); intro v451 w11 ho hb hg hat; rw [← Ny450.out] at ho; have n0_ := Aside0.mk (Kd.R_after (ok := (fun _ => True)) (by (with_reducible repeat (first | apply Kd.R_alloc | apply Kd.R_drewN | apply Kd.R_drew)); exact Kd.R_mono HO_8.out (fun _ hk => ⟨trivial, hk⟩)) hg hat); have n1_ := Aside0.mk (IsS36.grown (by repeat (first | (with_reducible first | exact HI0.out | apply IsS36.alloc | apply IsS36.drewN | apply IsS36.drew) | exact HI0.out)) hg (IsS36.own_ne HI0.out HO_7.out (by decide))); have n2_ := Aside0.mk (below_weaken (by repeat (first | (with_reducible first | exact HB.out | apply below_alloc | apply pw_below_drewN | apply below_drew1 | refine below_set ?_ (IsS36.ge HI0.out)) | exact HB.out)) HL.out hb); have n3_ := Aside0.mk (KeepBut.trans (by repeat (first | (with_reducible first | exact HK.out | apply KeepBut.set_ | apply keep_drewN | apply keep_drew | apply keep_alloc) | exact HK.out)) (KeepBut.of_grown hg g) (Kd.R_base2 HO_7.out)); have n4_ := Aside0.mk (ho); clear HO_8; clear HI0; clear HB; clear HK; clear HO_7; have HO_8 := n0_; have HI0 := n1_; have HB := n2_; have HK := n3_; have HO452 := n4_; clear n0_ n1_ n2_ n3_ n4_; clear ho hb hg hat) | ((with_reducible refine gate_builtin (b := .append) (xs := #[.tmp 33, .tmp 34]) rfl ?_); at_builtin; refine Kd.R_append (Kd.int .i64) w.heap.size rfl (.tmp 33) (.tmp 34) 22 2 (.int .i64 0) 8 rfl Try.underlying22 info2 rfl (by decide) (by omega) u8 x8_1 (-1) [.int .i64 (-1)] (fun k_ => some k_ ≠ (v451 : Value).ownBlock) (fun _ => False) rfl rfl ?aP (fun _ hk => hk.elim) ?aF ?aO (Below.refl _ _) ?aS ?aL ?_; (case aP => exact rfl); (case aF => exact (fun k_ hk => Kd.fresh' (Kd.R_lt (by (with_reducible repeat (first | apply Kd.R_alloc | apply Kd.R_drewN | apply Kd.R_drew)); exact HO452.out)) k_ hk)); (case aO => exact (by (with_reducible repeat (first | apply Kd.R_alloc | apply Kd.R_drewN | apply Kd.R_drew)); exact Kd.R_mono HO_8.out (fun _ hk => hk.2))); (case aS => exact (keep_size (w := w) (g := g) (row := none) (by repeat (first | (with_reducible first | exact HK.out | apply KeepBut.set_ | apply keep_drewN | apply keep_drew | apply keep_alloc) | exact HK.out)))); (case aL => have := LMc10.out; omega); intro v454 w12 ho hb hg hat; rw [← Ny453.out] at ho; have n0_ := Aside0.mk (IsS36.grown (by repeat (first | (with_reducible first | exact HI0.out | apply IsS36.alloc | apply IsS36.drewN | apply IsS36.drew) | exact HI0.out)) hg (IsS36.own_ne HI0.out HO_8.out (by decide))); have n1_ := Aside0.mk (Kd.R_after (ok := (fun _ => True)) (by (with_reducible repeat (first | apply Kd.R_alloc | apply Kd.R_drewN | apply Kd.R_drew)); exact Kd.R_mono HO452.out (fun _ hk => ⟨trivial, hk⟩)) hg hat); have n2_ := Aside0.mk (below_weaken (by repeat (first | (with_reducible first | exact HB.out | apply below_alloc | apply pw_below_drewN | apply below_drew1 | refine below_set ?_ (IsS36.ge HI0.out)) | exact HB.out)) HL.out hb); have n3_ := Aside0.mk (KeepBut.trans (by repeat (first | (with_reducible first | exact HK.out | apply KeepBut.set_ | apply keep_drewN | apply keep_drew | apply keep_alloc) | exact HK.out)) (KeepBut.of_grown hg g) (Kd.R_base2 HO_8.out)); have n4_ := Aside0.mk (ho); clear HI0; clear HO452; clear HB; clear HK; clear HO_8; have HI0 := n0_; have HO452 := n1_; have HB := n2_; have HK := n3_; have HO455 := n4_; clear n0_ n1_ n2_ n3_ n4_; clear ho hb hg hat))
            repeat (go_quiet (fail); try go_wp2)
            go_roundg k1
            case measure => have := HK1.out; omega
            case rel => exact ⟨(y450), (y453), (wrap64 (x9_1 + 1)), (by first | rfl | (simp; done) | (simp [*]; done)), H', ⟨by have := HK1.out; omega⟩, ⟨by (with_reducible repeat (first | apply Kd.R_alloc | apply Kd.R_drewN | apply Kd.R_drew)); exact Kd.R_mono HO452.out (fun _ hk => hk.2)⟩, ⟨by (with_reducible repeat (first | apply Kd.R_alloc | apply Kd.R_drewN | apply Kd.R_drew)); exact HO455.out⟩, ⟨by repeat (first | (with_reducible first | exact HI0.out | apply IsS36.alloc | apply IsS36.drewN | apply IsS36.drew) | exact HI0.out)⟩, ⟨by repeat (first | (with_reducible first | exact HK.out | apply KeepBut.set_ | apply keep_drewN | apply keep_drew | apply keep_alloc) | exact HK.out)⟩, ⟨by repeat (first | (with_reducible first | exact HB.out | apply below_alloc | apply pw_below_drewN | apply below_drew1 | refine below_set ?_ (IsS36.ge HI0.out)) | exact HB.out)⟩⟩
          · rw [if_neg c10] at H
            exact absurd H (by simp)
        · rw [if_neg c9] at H
          exact absurd H (by simp)
      · rw [if_neg c8] at H
        have c8b0 : decide (x9_1 < (s0_0.length : Int)) = false := decide_eq_false c8
        clear c8
        have H' := Aside0.mk H
        clear H
        go_wp2
        repeat (go_quiet (fail); try go_wp2)
        go_loopg [10] k1 (fun kq v10 w' => ∃ (x7_2 : List Int) (x8_2 : List Int) (x10_2 : Int), v10 = .int .i64 x10_2 ∧ Aside0 (spec_l08Far.l1 kq a1 x7_2 x8_2 x10_2 s0_0 s0_1 = some (r1, r2)) ∧ Aside0 (kq ≤ k1) ∧ Aside0 (Kd.R (Kd.int .i64) 2 w' w.heap.size (fun k_ => some k_ ≠ (u8 : Value).ownBlock) u7 x7_2) ∧ Aside0 (Kd.R (Kd.int .i64) 2 w' w.heap.size (fun k_ => some k_ ≠ (u7 : Value).ownBlock) u8 x8_2) ∧ Aside0 (IsS36 w0 w' g s0_0 s0_1) ∧ Aside0 (KeepBut w w' g none) ∧ Aside0 (Below w0.heap.size w0 w'))
        case atStart => exact ⟨(x7_1), (x8_1), (0), (by first | rfl | (simp; done) | (simp [*]; done)), H', ⟨Nat.le_refl _⟩, ⟨by (with_reducible repeat (first | apply Kd.R_alloc | apply Kd.R_drewN | apply Kd.R_drew)); exact HO_7.out⟩, ⟨by (with_reducible repeat (first | apply Kd.R_alloc | apply Kd.R_drewN | apply Kd.R_drew)); exact HO_8.out⟩, ⟨by repeat (first | (with_reducible first | exact HI0.out | apply IsS36.alloc | apply IsS36.drewN | apply IsS36.drew) | exact HI0.out)⟩, ⟨by repeat (first | (with_reducible first | exact HK.out | apply KeepBut.set_ | apply keep_drewN | apply keep_drew | apply keep_alloc) | exact HK.out)⟩, ⟨by repeat (first | (with_reducible first | exact HB.out | apply below_alloc | apply pw_below_drewN | apply below_drew1 | refine below_set ?_ (IsS36.ge HI0.out)) | exact HB.out)⟩⟩
        case round =>
          clear H'
          try clear c1
          try clear p2
          try clear c6
          try clear p6
          try clear c8
          try clear c8b0
          try clear c9
          try clear c10
          try clear hcz3_0
          try clear hcz3_1
          try clear p2
          obtain ⟨x7_2, x8_2, x10_2, rfl, HA, HK2, HO_7, HO_8, HI0, HK, HB⟩ := hrel
          cases gk with
          | zero => exact absurd HA.out (by simp [spec_l08Far.l1])
          | succ k2 =>
            have H := HA.out
            clear HA
            simp only [spec_l08Far.l1] at H
            by_cases c13 : x10_2 < (s0_1.length : Int)
            · rw [if_pos c13] at H
              have c13b0 : decide (x10_2 < (s0_1.length : Int)) = true := decide_eq_true c13
              clear c13
              by_cases c14 : 0 ≤ x10_2
              · rw [if_pos c14] at H
                have c14b0 : decide (0 ≤ x10_2) = true := decide_eq_true c14
                clear c14
                by_cases c15 : ((rd_T55 s0_1 x10_2).f0) = a1
                · rw [if_pos c15] at H
                  have c15b0 : (((rd_T55 s0_1 x10_2).f0) == a1) = true := beq_iff_eq.mpr c15
                  have c15b1 : (((rd_T55 s0_1 x10_2).f0) != a1) = false := bne_eq_false_iff_eq.mpr c15
                  clear c15
                  by_cases c16 : 0 ≤ a1
                  · rw [if_pos c16] at H
                    have c16b0 : decide (0 ≤ a1) = true := decide_eq_true c16
                    clear c16
                    by_cases c17 : a1 < (s0_0.length : Int)
                    · rw [if_pos c17] at H
                      have c17b0 : decide (a1 < (s0_0.length : Int)) = true := decide_eq_true c17
                      clear c17
                      by_cases c18 : 0 ≤ ((rd_T55 s0_1 x10_2).f1)
                      · rw [if_pos c18] at H
                        have c18b0 : decide (0 ≤ ((rd_T55 s0_1 x10_2).f1)) = true := decide_eq_true c18
                        clear c18
                        by_cases c19 : ((rd_T55 s0_1 x10_2).f1) < (s0_0.length : Int)
                        · rw [if_pos c19] at H
                          have c19b0 : decide (((rd_T55 s0_1 x10_2).f1) < (s0_0.length : Int)) = true := decide_eq_true c19
                          clear c19
                          have HC20 := Aside0.mk H
                          clear H
                          obtain ⟨ASz21_0, cSz21_0, ASz21_1, cSz21_1, HGz21, hgz21, HSz21_0, HSz21_1⟩ := HI0.out
                          have hcz21_0 := cellS36_0 HGz21
                          have hcz21_1 := cellS36_1 HGz21
                          clear HGz21 hgz21
                          have p456 : 0 ≤ (x10_2 : Int) := of_decide_eq_true (by first | (with_reducible assumption) | assumption)
                          have q456 : x10_2 < (s0_1.length : Int) := of_decide_eq_true (by first | (with_reducible assumption) | assumption)
                          obtain ⟨ad456, e456, hx456_0, hx456_1, hx456_2⟩ := at_T55 HSz21_1 x10_2 p456 q456
                          cases e456
                          replace hx456_0 := pw_cell_below HB.out hx456_0
                          replace hx456_1 := pw_cell_below HB.out hx456_1
                          replace hx456_2 := pw_cell_below HB.out hx456_2
                          replace p456 := eq_true p456
                          replace q456 := eq_true q456
                          go_upto_region 15 with (first | ((with_reducible refine gate_dst (N := 11) rfl ?_); refine box_event ?hg (N := 11) ?hd (cs := #[.int .i64 0, .int .i64 0, .int .i64 0]) (t := 55) ?hr ?_; (case hd => rfl); (case hg => rfl); (case hr => first | (go_simp; done) | (go_simp; rfl)); intro gb457 hg w22 hbox hb; have n0_ := Aside0.mk (Kd.R_below (by (with_reducible repeat (first | apply Kd.R_alloc | apply Kd.R_drewN | apply Kd.R_drew)); exact HO_7.out) hb); have n1_ := Aside0.mk (Kd.R_below (by (with_reducible repeat (first | apply Kd.R_alloc | apply Kd.R_drewN | apply Kd.R_drew)); exact HO_8.out) hb); have n2_ := Aside0.mk (IsS36.below (by repeat (first | (with_reducible first | exact HI0.out | apply IsS36.alloc | apply IsS36.drewN | apply IsS36.drew) | exact HI0.out)) hb); have n3_ := Aside0.mk (KeepBut.trans (by repeat (first | (with_reducible first | exact HK.out | apply KeepBut.set_ | apply keep_drewN | apply keep_drew | apply keep_alloc) | exact HK.out)) (KeepBut.of_below hb g none) (.inl rfl)); have n4_ := Aside0.mk (below_step (by repeat (first | (with_reducible first | exact HB.out | apply below_alloc | apply pw_below_drewN | apply below_drew1 | refine below_set ?_ (IsS36.ge HI0.out)) | exact HB.out)) hb); have n5_ := Aside0.mk (hbox); have n6_ := Aside0.mk ((by rw [hg]; exact (keep_size (w := w) (g := g) (row := none) (by repeat (first | (with_reducible first | exact HK.out | apply KeepBut.set_ | apply keep_drewN | apply keep_drew | apply keep_alloc) | exact HK.out))) : w.heap.size ≤ gb457)); have n7_ := Aside0.mk ((Nat.le_trans HW0.out (by rw [hg]; exact (keep_size (w := w) (g := g) (row := none) (by repeat (first | (with_reducible first | exact HK.out | apply KeepBut.set_ | apply keep_drewN | apply keep_drew | apply keep_alloc) | exact HK.out))) : w.heap.size ≤ gb457) : w0.heap.size ≤ gb457)); have n8_ := Aside0.mk ((by rw [hg]; exact Nat.ne_of_lt (IsS36.lt (show IsS36 w0 _ g s0_0 s0_1 from by repeat (first | (with_reducible first | exact HI0.out | apply IsS36.alloc | apply IsS36.drewN | apply IsS36.drew) | exact HI0.out))) : g ≠ gb457)); have n9_ := Aside0.mk ((by rw [hg]; exact Nat.ne_of_gt (IsS36.lt (show IsS36 w0 _ g s0_0 s0_1 from by repeat (first | (with_reducible first | exact HI0.out | apply IsS36.alloc | apply IsS36.drewN | apply IsS36.drew) | exact HI0.out))) : gb457 ≠ g)); clear HO_7; clear HO_8; clear HI0; clear HK; clear HB; have HO_7 := n0_; have HO_8 := n1_; have HI0 := n2_; have HK := n3_; have HB := n4_; have BK457 := n5_; have GW457 := n6_; have GE457 := n7_; have NB0_457 := n8_; have NB457_0 := n9_; clear n0_ n1_ n2_ n3_ n4_ n5_ n6_ n7_ n8_ n9_; clear hb hbox hg; have hnb23 := NB457_0.out; have hnc23 := NB0_457.out; have hcz24_0 : w22.cell? ⟨gb457, 0, none⟩ = some (.int .i64 0) := (blk_cell BK457.out 0).trans rfl; have hcz24_1 : w22.cell? ⟨gb457, 1, none⟩ = some (.int .i64 0) := (blk_cell BK457.out 1).trans rfl; have hcz24_2 : w22.cell? ⟨gb457, 2, none⟩ = some (.int .i64 0) := (blk_cell BK457.out 2).trans rfl; have hfz24_0 := blk_frozen BK457.out 0; have hfz24_1 := blk_frozen BK457.out 1; have hfz24_2 := blk_frozen BK457.out 2; obtain ⟨ASz25_0, cSz25_0, ASz25_1, cSz25_1, HGz25, hgz25, HSz25_0, HSz25_1⟩ := HI0.out; have hcz25_0 := cellS36_0 HGz25; have hcz25_1 := cellS36_1 HGz25; clear HGz25 hgz25; have p458 : 0 ≤ (a1 : Int) := of_decide_eq_true (by first | (with_reducible assumption) | assumption); have q458 : a1 < (s0_0.length : Int) := of_decide_eq_true (by first | (with_reducible assumption) | assumption); obtain ⟨ad458, e458, hx458_0⟩ := Kd.at_int HSz25_0 a1 p458 q458; cases e458; have hn458_0 : ad458.block ≠ gb457 := Nat.ne_of_lt (Nat.lt_of_lt_of_le (by have := World.block_lt_of_cell? _ _ hx458_0; first | rwa [add_block] at this | exact this) GE457.out); have hn458_1 : ad458.block ≠ gb457 := Nat.ne_of_lt (Nat.lt_of_lt_of_le (by have := World.block_lt_of_cell? _ _ hx458_0; first | rwa [add_block] at this | exact this) GE457.out); have hn458_2 : ad458.block ≠ gb457 := Nat.ne_of_lt (Nat.lt_of_lt_of_le (by have := World.block_lt_of_cell? _ _ hx458_0; first | rwa [add_block] at this | exact this) GE457.out); replace hx458_0 := pw_cell_below HB.out hx458_0; replace hx458_0 := (cell_far (p := ⟨gb457, 0, none⟩) (by first | (rw [add_block]; exact hn458_0) | (show (Addr.add _ _).block ≠ _; rw [add_block]; exact hn458_0) | exact hn458_0) (.int .i64 ((rd_T55 s0_1 x10_2).f0))).trans hx458_0; replace hx458_0 := (cell_far (p := ⟨gb457, 1, none⟩) (by first | (rw [add_block]; exact hn458_1) | (show (Addr.add _ _).block ≠ _; rw [add_block]; exact hn458_1) | exact hn458_1) (.int .i64 ((rd_T55 s0_1 x10_2).f1))).trans hx458_0; replace hx458_0 := (cell_far (p := ⟨gb457, 2, none⟩) (by first | (rw [add_block]; exact hn458_2) | (show (Addr.add _ _).block ≠ _; rw [add_block]; exact hn458_2) | exact hn458_2) (.int .i64 ((rd_T55 s0_1 x10_2).f2))).trans hx458_0; (try have hy458_0 := fun (n_ : Nat) => (show (((((w22.drewN n_).setCell ⟨gb457, 0, none⟩ (.int .i64 ((rd_T55 s0_1 x10_2).f0))).setCell ⟨gb457, 1, none⟩ (.int .i64 ((rd_T55 s0_1 x10_2).f1))).setCell ⟨gb457, 2, none⟩ (.int .i64 ((rd_T55 s0_1 x10_2).f2)))).cell? _ = some _ from hx458_0)); clear hn458_0; clear hn458_1; clear hn458_2; replace p458 := eq_true p458; replace q458 := eq_true q458; have p459 : 0 ≤ (((rd_T55 s0_1 x10_2).f1) : Int) := of_decide_eq_true (by first | (with_reducible assumption) | assumption); have q459 : ((rd_T55 s0_1 x10_2).f1) < (s0_0.length : Int) := of_decide_eq_true (by first | (with_reducible assumption) | assumption); obtain ⟨ad459, e459, hx459_0⟩ := Kd.at_int HSz25_0 ((rd_T55 s0_1 x10_2).f1) p459 q459; obtain rfl : ad458 = ad459 := (by injection e459); have hn459_0 : ad458.block ≠ gb457 := Nat.ne_of_lt (Nat.lt_of_lt_of_le (by have := World.block_lt_of_cell? _ _ hx459_0; first | rwa [add_block] at this | exact this) GE457.out); have hn459_1 : ad458.block ≠ gb457 := Nat.ne_of_lt (Nat.lt_of_lt_of_le (by have := World.block_lt_of_cell? _ _ hx459_0; first | rwa [add_block] at this | exact this) GE457.out); have hn459_2 : ad458.block ≠ gb457 := Nat.ne_of_lt (Nat.lt_of_lt_of_le (by have := World.block_lt_of_cell? _ _ hx459_0; first | rwa [add_block] at this | exact this) GE457.out); replace hx459_0 := pw_cell_below HB.out hx459_0; replace hx459_0 := (cell_far (p := ⟨gb457, 0, none⟩) (by first | (rw [add_block]; exact hn459_0) | (show (Addr.add _ _).block ≠ _; rw [add_block]; exact hn459_0) | exact hn459_0) (.int .i64 ((rd_T55 s0_1 x10_2).f0))).trans hx459_0; replace hx459_0 := (cell_far (p := ⟨gb457, 1, none⟩) (by first | (rw [add_block]; exact hn459_1) | (show (Addr.add _ _).block ≠ _; rw [add_block]; exact hn459_1) | exact hn459_1) (.int .i64 ((rd_T55 s0_1 x10_2).f1))).trans hx459_0; replace hx459_0 := (cell_far (p := ⟨gb457, 2, none⟩) (by first | (rw [add_block]; exact hn459_2) | (show (Addr.add _ _).block ≠ _; rw [add_block]; exact hn459_2) | exact hn459_2) (.int .i64 ((rd_T55 s0_1 x10_2).f2))).trans hx459_0; (try have hy459_0 := fun (n_ : Nat) => (show (((((w22.drewN n_).setCell ⟨gb457, 0, none⟩ (.int .i64 ((rd_T55 s0_1 x10_2).f0))).setCell ⟨gb457, 1, none⟩ (.int .i64 ((rd_T55 s0_1 x10_2).f1))).setCell ⟨gb457, 2, none⟩ (.int .i64 ((rd_T55 s0_1 x10_2).f2)))).cell? _ = some _ from hx459_0)); clear hn459_0; clear hn459_1; clear hn459_2; replace p459 := eq_true p459; replace q459 := eq_true q459))
                          repeat (go_quiet (fail); try go_wp2)
                          (try simp only [Act.put, List.setIfInBounds_toArray, List.set_cons_zero, List.set_cons_succ])
                          go_cut [106] (fun v106 wc => ∃ (kq : Nat) (x106_19 : Bool), v106 = .bool x106_19 ∧ Aside0 (spec_l08Far.j2 kq a1 x7_2 x8_2 x10_2 (wrap64 ((rd s0_0 a1) + (rd s0_0 ((rd_T55 s0_1 x10_2).f1)))) x106_19 s0_0 s0_1 ((rd_T55 s0_1 x10_2).f0) ((rd_T55 s0_1 x10_2).f1) ((rd_T55 s0_1 x10_2).f2) = some (r1, r2)) ∧ Aside0 (kq ≤ k2) ∧ Aside0 (Kd.R (Kd.int .i64) 2 wc w.heap.size (fun k_ => some k_ ≠ (u8 : Value).ownBlock) u7 x7_2) ∧ Aside0 (Kd.R (Kd.int .i64) 2 wc w.heap.size (fun k_ => some k_ ≠ (u7 : Value).ownBlock) u8 x8_2) ∧ Aside0 (wc.heap[gb457]? = some (.cells #[.int .i64 ((rd_T55 s0_1 x10_2).f0), .int .i64 ((rd_T55 s0_1 x10_2).f1), .int .i64 ((rd_T55 s0_1 x10_2).f2)] 55 (0, 0))) ∧ Aside0 (IsS36 w0 wc g s0_0 s0_1) ∧ Aside0 (KeepBut w wc g none) ∧ Aside0 (Below w0.heap.size w0 wc))
                          case first =>
                            have H := HC20.out
                            clear HC20
                            by_cases c26 : ((rd_T55 s0_1 x10_2).f1) < (x7_2.length : Int)
                            · rw [if_pos c26] at H
                              have c26b0 : decide (((rd_T55 s0_1 x10_2).f1) < (x7_2.length : Int)) = true := decide_eq_true c26
                              clear c26
                              (first | rw [c26b0] | (simp only [i64_w, i32_w]; rw [c26b0]) | skip)
                              by_cases c27 : (rd x7_2 ((rd_T55 s0_1 x10_2).f1)) < 0
                              · rw [if_pos c27] at H
                                have c27b0 : decide ((rd x7_2 ((rd_T55 s0_1 x10_2).f1)) < 0) = true := decide_eq_true c27
                                clear c27
                                have H' := Aside0.mk H
                                clear H
                                have hnb28 := NB457_0.out
                                have hnc28 := NB0_457.out
                                have hcz29_0 : w22.cell? ⟨gb457, 0, none⟩ = some (.int .i64 0) := (blk_cell BK457.out 0).trans rfl
                                have hcz29_1 : w22.cell? ⟨gb457, 1, none⟩ = some (.int .i64 0) := (blk_cell BK457.out 1).trans rfl
                                have hcz29_2 : w22.cell? ⟨gb457, 2, none⟩ = some (.int .i64 0) := (blk_cell BK457.out 2).trans rfl
                                have hfz29_0 := blk_frozen BK457.out 0
                                have hfz29_1 := blk_frozen BK457.out 1
                                have hfz29_2 := blk_frozen BK457.out 2
                                obtain ⟨Ao30, co30, eo30⟩ := Kd.R_slice HO_7.out
                                subst eo30
                                have p460 : 0 ≤ (((rd_T55 s0_1 x10_2).f1) : Int) := of_decide_eq_true (by first | (with_reducible assumption) | assumption)
                                have q460 : ((rd_T55 s0_1 x10_2).f1) < (x7_2.length : Int) := of_decide_eq_true (by first | (with_reducible assumption) | assumption)
                                obtain ⟨ad460, e460, hx460_0⟩ := Kd.at_int (Kd.R_reads' HO_7.out).2.2 ((rd_T55 s0_1 x10_2).f1) p460 q460
                                cases e460
                                have hn460_0 : ad460.block ≠ gb457 := Kd.own_blk (Kd.R_ne HO_7.out BK457.out (by decide))
                                have hn460_1 : ad460.block ≠ gb457 := Kd.own_blk (Kd.R_ne HO_7.out BK457.out (by decide))
                                have hn460_2 : ad460.block ≠ gb457 := Kd.own_blk (Kd.R_ne HO_7.out BK457.out (by decide))
                                replace hx460_0 := (cell_far (p := ⟨gb457, 0, none⟩) (by first | (rw [add_block]; exact hn460_0) | (show (Addr.add _ _).block ≠ _; rw [add_block]; exact hn460_0) | exact hn460_0) (.int .i64 ((rd_T55 s0_1 x10_2).f0))).trans hx460_0
                                replace hx460_0 := (cell_far (p := ⟨gb457, 1, none⟩) (by first | (rw [add_block]; exact hn460_1) | (show (Addr.add _ _).block ≠ _; rw [add_block]; exact hn460_1) | exact hn460_1) (.int .i64 ((rd_T55 s0_1 x10_2).f1))).trans hx460_0
                                replace hx460_0 := (cell_far (p := ⟨gb457, 2, none⟩) (by first | (rw [add_block]; exact hn460_2) | (show (Addr.add _ _).block ≠ _; rw [add_block]; exact hn460_2) | exact hn460_2) (.int .i64 ((rd_T55 s0_1 x10_2).f2))).trans hx460_0
                                (try have hy460_0 := fun (n_ : Nat) => (show (((((w22.drewN n_).setCell ⟨gb457, 0, none⟩ (.int .i64 ((rd_T55 s0_1 x10_2).f0))).setCell ⟨gb457, 1, none⟩ (.int .i64 ((rd_T55 s0_1 x10_2).f1))).setCell ⟨gb457, 2, none⟩ (.int .i64 ((rd_T55 s0_1 x10_2).f2)))).cell? _ = some _ from hx460_0))
                                clear hn460_0
                                clear hn460_1
                                clear hn460_2
                                replace p460 := eq_true p460
                                replace q460 := eq_true q460
                                go_wp2
                                repeat (go_quiet (fail); try go_wp2)
                                go_meet
                                case rel => exact ⟨_, (true), (by first | rfl | (simp; done) | (simp [*]; done)), H', ⟨by have := HK1.out; have := HK2.out; first | omega | exact Nat.le_refl _⟩, ⟨by (with_reducible repeat (first | apply Kd.R_alloc | apply Kd.R_drewN | apply Kd.R_drew)); exact Kd.R_mono (Kd.R_far (p := ⟨gb457, 2, none⟩) (Kd.R_far (p := ⟨gb457, 1, none⟩) (Kd.R_far (p := ⟨gb457, 0, none⟩) (Kd.R_types HO_7.out BK457.out (by decide)) (fun _ hk => hk.2) (.int .i64 ((rd_T55 s0_1 x10_2).f0))) (fun _ hk => hk.2) (.int .i64 ((rd_T55 s0_1 x10_2).f1))) (fun _ hk => hk.2) (.int .i64 ((rd_T55 s0_1 x10_2).f2))) (fun _ hk => hk.1)⟩, ⟨by (with_reducible repeat (first | apply Kd.R_alloc | apply Kd.R_drewN | apply Kd.R_drew)); exact Kd.R_mono (Kd.R_far (p := ⟨gb457, 2, none⟩) (Kd.R_far (p := ⟨gb457, 1, none⟩) (Kd.R_far (p := ⟨gb457, 0, none⟩) (Kd.R_types HO_8.out BK457.out (by decide)) (fun _ hk => hk.2) (.int .i64 ((rd_T55 s0_1 x10_2).f0))) (fun _ hk => hk.2) (.int .i64 ((rd_T55 s0_1 x10_2).f1))) (fun _ hk => hk.2) (.int .i64 ((rd_T55 s0_1 x10_2).f2))) (fun _ hk => hk.1)⟩, ⟨by (with_reducible repeat (first | refine blk_drewN ?_ _ | refine blk_drew ?_ | refine blk_alloc ?_ _)); refine blk_put (cs := #[.int .i64 ((rd_T55 s0_1 x10_2).f0), .int .i64 ((rd_T55 s0_1 x10_2).f1), .int .i64 0]) ?_ 2 _ rfl; (with_reducible repeat (first | refine blk_drewN ?_ _ | refine blk_drew ?_ | refine blk_alloc ?_ _)); refine blk_put (cs := #[.int .i64 ((rd_T55 s0_1 x10_2).f0), .int .i64 0, .int .i64 0]) ?_ 1 _ rfl; (with_reducible repeat (first | refine blk_drewN ?_ _ | refine blk_drew ?_ | refine blk_alloc ?_ _)); refine blk_put (cs := #[.int .i64 0, .int .i64 0, .int .i64 0]) ?_ 0 _ rfl; (with_reducible repeat (first | refine blk_drewN ?_ _ | refine blk_drew ?_ | refine blk_alloc ?_ _)); exact BK457.out⟩, ⟨by repeat (first | (with_reducible first | exact HI0.out | apply IsS36.alloc | apply IsS36.drewN | apply IsS36.drew | refine IsS36.far ?_ NB0_457.out _) | exact HI0.out)⟩, ⟨by repeat (first | (with_reducible first | exact HK.out | apply KeepBut.set_ | apply keep_drewN | apply keep_drew | apply keep_alloc | refine keep_far ?_ GW457.out _) | exact HK.out)⟩, ⟨by repeat (first | (with_reducible first | exact HB.out | apply below_alloc | apply pw_below_drewN | apply below_drew1 | refine below_set ?_ (IsS36.ge HI0.out) | refine below_set ?_ GE457.out) | exact HB.out)⟩⟩
                              · rw [if_neg c27] at H
                                have c27b0 : decide ((rd x7_2 ((rd_T55 s0_1 x10_2).f1)) < 0) = false := decide_eq_false c27
                                clear c27
                                by_cases c31 : ((rd_T55 s0_1 x10_2).f2) < (rd x7_2 ((rd_T55 s0_1 x10_2).f1))
                                · rw [if_pos c31] at H
                                  have c31b0 : decide (((rd_T55 s0_1 x10_2).f2) < (rd x7_2 ((rd_T55 s0_1 x10_2).f1))) = true := decide_eq_true c31
                                  clear c31
                                  have H' := Aside0.mk H
                                  clear H
                                  have hnb32 := NB457_0.out
                                  have hnc32 := NB0_457.out
                                  have hcz33_0 : w22.cell? ⟨gb457, 0, none⟩ = some (.int .i64 0) := (blk_cell BK457.out 0).trans rfl
                                  have hcz33_1 : w22.cell? ⟨gb457, 1, none⟩ = some (.int .i64 0) := (blk_cell BK457.out 1).trans rfl
                                  have hcz33_2 : w22.cell? ⟨gb457, 2, none⟩ = some (.int .i64 0) := (blk_cell BK457.out 2).trans rfl
                                  have hfz33_0 := blk_frozen BK457.out 0
                                  have hfz33_1 := blk_frozen BK457.out 1
                                  have hfz33_2 := blk_frozen BK457.out 2
                                  obtain ⟨Ao34, co34, eo34⟩ := Kd.R_slice HO_7.out
                                  subst eo34
                                  have p460 : 0 ≤ (((rd_T55 s0_1 x10_2).f1) : Int) := of_decide_eq_true (by first | (with_reducible assumption) | assumption)
                                  have q460 : ((rd_T55 s0_1 x10_2).f1) < (x7_2.length : Int) := of_decide_eq_true (by first | (with_reducible assumption) | assumption)
                                  obtain ⟨ad460, e460, hx460_0⟩ := Kd.at_int (Kd.R_reads' HO_7.out).2.2 ((rd_T55 s0_1 x10_2).f1) p460 q460
                                  cases e460
                                  have hn460_0 : ad460.block ≠ gb457 := Kd.own_blk (Kd.R_ne HO_7.out BK457.out (by decide))
                                  have hn460_1 : ad460.block ≠ gb457 := Kd.own_blk (Kd.R_ne HO_7.out BK457.out (by decide))
                                  have hn460_2 : ad460.block ≠ gb457 := Kd.own_blk (Kd.R_ne HO_7.out BK457.out (by decide))
                                  replace hx460_0 := (cell_far (p := ⟨gb457, 0, none⟩) (by first | (rw [add_block]; exact hn460_0) | (show (Addr.add _ _).block ≠ _; rw [add_block]; exact hn460_0) | exact hn460_0) (.int .i64 ((rd_T55 s0_1 x10_2).f0))).trans hx460_0
                                  replace hx460_0 := (cell_far (p := ⟨gb457, 1, none⟩) (by first | (rw [add_block]; exact hn460_1) | (show (Addr.add _ _).block ≠ _; rw [add_block]; exact hn460_1) | exact hn460_1) (.int .i64 ((rd_T55 s0_1 x10_2).f1))).trans hx460_0
                                  replace hx460_0 := (cell_far (p := ⟨gb457, 2, none⟩) (by first | (rw [add_block]; exact hn460_2) | (show (Addr.add _ _).block ≠ _; rw [add_block]; exact hn460_2) | exact hn460_2) (.int .i64 ((rd_T55 s0_1 x10_2).f2))).trans hx460_0
                                  (try have hy460_0 := fun (n_ : Nat) => (show (((((w22.drewN n_).setCell ⟨gb457, 0, none⟩ (.int .i64 ((rd_T55 s0_1 x10_2).f0))).setCell ⟨gb457, 1, none⟩ (.int .i64 ((rd_T55 s0_1 x10_2).f1))).setCell ⟨gb457, 2, none⟩ (.int .i64 ((rd_T55 s0_1 x10_2).f2)))).cell? _ = some _ from hx460_0))
                                  clear hn460_0
                                  clear hn460_1
                                  clear hn460_2
                                  replace p460 := eq_true p460
                                  replace q460 := eq_true q460
                                  have p461 : 0 ≤ (((rd_T55 s0_1 x10_2).f1) : Int) := of_decide_eq_true (by first | (with_reducible assumption) | assumption)
                                  have q461 : ((rd_T55 s0_1 x10_2).f1) < (x7_2.length : Int) := of_decide_eq_true (by first | (with_reducible assumption) | assumption)
                                  obtain ⟨ad461, e461, hx461_0⟩ := Kd.at_int (Kd.R_reads' HO_7.out).2.2 ((rd_T55 s0_1 x10_2).f1) p461 q461
                                  obtain rfl : ad460 = ad461 := (by injection e461)
                                  have hn461_0 : ad460.block ≠ gb457 := Kd.own_blk (Kd.R_ne HO_7.out BK457.out (by decide))
                                  have hn461_1 : ad460.block ≠ gb457 := Kd.own_blk (Kd.R_ne HO_7.out BK457.out (by decide))
                                  have hn461_2 : ad460.block ≠ gb457 := Kd.own_blk (Kd.R_ne HO_7.out BK457.out (by decide))
                                  replace hx461_0 := (cell_far (p := ⟨gb457, 0, none⟩) (by first | (rw [add_block]; exact hn461_0) | (show (Addr.add _ _).block ≠ _; rw [add_block]; exact hn461_0) | exact hn461_0) (.int .i64 ((rd_T55 s0_1 x10_2).f0))).trans hx461_0
                                  replace hx461_0 := (cell_far (p := ⟨gb457, 1, none⟩) (by first | (rw [add_block]; exact hn461_1) | (show (Addr.add _ _).block ≠ _; rw [add_block]; exact hn461_1) | exact hn461_1) (.int .i64 ((rd_T55 s0_1 x10_2).f1))).trans hx461_0
                                  replace hx461_0 := (cell_far (p := ⟨gb457, 2, none⟩) (by first | (rw [add_block]; exact hn461_2) | (show (Addr.add _ _).block ≠ _; rw [add_block]; exact hn461_2) | exact hn461_2) (.int .i64 ((rd_T55 s0_1 x10_2).f2))).trans hx461_0
                                  (try have hy461_0 := fun (n_ : Nat) => (show (((((w22.drewN n_).setCell ⟨gb457, 0, none⟩ (.int .i64 ((rd_T55 s0_1 x10_2).f0))).setCell ⟨gb457, 1, none⟩ (.int .i64 ((rd_T55 s0_1 x10_2).f1))).setCell ⟨gb457, 2, none⟩ (.int .i64 ((rd_T55 s0_1 x10_2).f2)))).cell? _ = some _ from hx461_0))
                                  clear hn461_0
                                  clear hn461_1
                                  clear hn461_2
                                  replace p461 := eq_true p461
                                  replace q461 := eq_true q461
                                  go_wp2
                                  repeat (go_quiet (fail); try go_wp2)
                                  go_meet
                                  case rel => exact ⟨_, (true), (by first | rfl | (simp; done) | (simp [*]; done)), H', ⟨by have := HK1.out; have := HK2.out; first | omega | exact Nat.le_refl _⟩, ⟨by (with_reducible repeat (first | apply Kd.R_alloc | apply Kd.R_drewN | apply Kd.R_drew)); exact Kd.R_mono (Kd.R_far (p := ⟨gb457, 2, none⟩) (Kd.R_far (p := ⟨gb457, 1, none⟩) (Kd.R_far (p := ⟨gb457, 0, none⟩) (Kd.R_types HO_7.out BK457.out (by decide)) (fun _ hk => hk.2) (.int .i64 ((rd_T55 s0_1 x10_2).f0))) (fun _ hk => hk.2) (.int .i64 ((rd_T55 s0_1 x10_2).f1))) (fun _ hk => hk.2) (.int .i64 ((rd_T55 s0_1 x10_2).f2))) (fun _ hk => hk.1)⟩, ⟨by (with_reducible repeat (first | apply Kd.R_alloc | apply Kd.R_drewN | apply Kd.R_drew)); exact Kd.R_mono (Kd.R_far (p := ⟨gb457, 2, none⟩) (Kd.R_far (p := ⟨gb457, 1, none⟩) (Kd.R_far (p := ⟨gb457, 0, none⟩) (Kd.R_types HO_8.out BK457.out (by decide)) (fun _ hk => hk.2) (.int .i64 ((rd_T55 s0_1 x10_2).f0))) (fun _ hk => hk.2) (.int .i64 ((rd_T55 s0_1 x10_2).f1))) (fun _ hk => hk.2) (.int .i64 ((rd_T55 s0_1 x10_2).f2))) (fun _ hk => hk.1)⟩, ⟨by (with_reducible repeat (first | refine blk_drewN ?_ _ | refine blk_drew ?_ | refine blk_alloc ?_ _)); refine blk_put (cs := #[.int .i64 ((rd_T55 s0_1 x10_2).f0), .int .i64 ((rd_T55 s0_1 x10_2).f1), .int .i64 0]) ?_ 2 _ rfl; (with_reducible repeat (first | refine blk_drewN ?_ _ | refine blk_drew ?_ | refine blk_alloc ?_ _)); refine blk_put (cs := #[.int .i64 ((rd_T55 s0_1 x10_2).f0), .int .i64 0, .int .i64 0]) ?_ 1 _ rfl; (with_reducible repeat (first | refine blk_drewN ?_ _ | refine blk_drew ?_ | refine blk_alloc ?_ _)); refine blk_put (cs := #[.int .i64 0, .int .i64 0, .int .i64 0]) ?_ 0 _ rfl; (with_reducible repeat (first | refine blk_drewN ?_ _ | refine blk_drew ?_ | refine blk_alloc ?_ _)); exact BK457.out⟩, ⟨by repeat (first | (with_reducible first | exact HI0.out | apply IsS36.alloc | apply IsS36.drewN | apply IsS36.drew | refine IsS36.far ?_ NB0_457.out _) | exact HI0.out)⟩, ⟨by repeat (first | (with_reducible first | exact HK.out | apply KeepBut.set_ | apply keep_drewN | apply keep_drew | apply keep_alloc | refine keep_far ?_ GW457.out _) | exact HK.out)⟩, ⟨by repeat (first | (with_reducible first | exact HB.out | apply below_alloc | apply pw_below_drewN | apply below_drew1 | refine below_set ?_ (IsS36.ge HI0.out) | refine below_set ?_ GE457.out) | exact HB.out)⟩⟩
                                · rw [if_neg c31] at H
                                  have c31b0 : decide (((rd_T55 s0_1 x10_2).f2) < (rd x7_2 ((rd_T55 s0_1 x10_2).f1))) = false := decide_eq_false c31
                                  clear c31
                                  by_cases c35 : ((rd_T55 s0_1 x10_2).f2) = (rd x7_2 ((rd_T55 s0_1 x10_2).f1))
                                  · rw [if_pos c35] at H
                                    have c35b0 : (((rd_T55 s0_1 x10_2).f2) == (rd x7_2 ((rd_T55 s0_1 x10_2).f1))) = true := beq_iff_eq.mpr c35
                                    have c35b1 : (((rd_T55 s0_1 x10_2).f2) != (rd x7_2 ((rd_T55 s0_1 x10_2).f1))) = false := bne_eq_false_iff_eq.mpr c35
                                    clear c35
                                    by_cases c36 : ((rd_T55 s0_1 x10_2).f1) < (x8_2.length : Int)
                                    · rw [if_pos c36] at H
                                      have c36b0 : decide (((rd_T55 s0_1 x10_2).f1) < (x8_2.length : Int)) = true := decide_eq_true c36
                                      clear c36
                                      have H' := Aside0.mk H
                                      clear H
                                      have hnb37 := NB457_0.out
                                      have hnc37 := NB0_457.out
                                      have hcz38_0 : w22.cell? ⟨gb457, 0, none⟩ = some (.int .i64 0) := (blk_cell BK457.out 0).trans rfl
                                      have hcz38_1 : w22.cell? ⟨gb457, 1, none⟩ = some (.int .i64 0) := (blk_cell BK457.out 1).trans rfl
                                      have hcz38_2 : w22.cell? ⟨gb457, 2, none⟩ = some (.int .i64 0) := (blk_cell BK457.out 2).trans rfl
                                      have hfz38_0 := blk_frozen BK457.out 0
                                      have hfz38_1 := blk_frozen BK457.out 1
                                      have hfz38_2 := blk_frozen BK457.out 2
                                      obtain ⟨Ao39, co39, eo39⟩ := Kd.R_slice HO_7.out
                                      subst eo39
                                      have p460 : 0 ≤ (((rd_T55 s0_1 x10_2).f1) : Int) := of_decide_eq_true (by first | (with_reducible assumption) | assumption)
                                      have q460 : ((rd_T55 s0_1 x10_2).f1) < (x7_2.length : Int) := of_decide_eq_true (by first | (with_reducible assumption) | assumption)
                                      obtain ⟨ad460, e460, hx460_0⟩ := Kd.at_int (Kd.R_reads' HO_7.out).2.2 ((rd_T55 s0_1 x10_2).f1) p460 q460
                                      cases e460
                                      have hn460_0 : ad460.block ≠ gb457 := Kd.own_blk (Kd.R_ne HO_7.out BK457.out (by decide))
                                      have hn460_1 : ad460.block ≠ gb457 := Kd.own_blk (Kd.R_ne HO_7.out BK457.out (by decide))
                                      have hn460_2 : ad460.block ≠ gb457 := Kd.own_blk (Kd.R_ne HO_7.out BK457.out (by decide))
                                      replace hx460_0 := (cell_far (p := ⟨gb457, 0, none⟩) (by first | (rw [add_block]; exact hn460_0) | (show (Addr.add _ _).block ≠ _; rw [add_block]; exact hn460_0) | exact hn460_0) (.int .i64 ((rd_T55 s0_1 x10_2).f0))).trans hx460_0
                                      replace hx460_0 := (cell_far (p := ⟨gb457, 1, none⟩) (by first | (rw [add_block]; exact hn460_1) | (show (Addr.add _ _).block ≠ _; rw [add_block]; exact hn460_1) | exact hn460_1) (.int .i64 ((rd_T55 s0_1 x10_2).f1))).trans hx460_0
                                      replace hx460_0 := (cell_far (p := ⟨gb457, 2, none⟩) (by first | (rw [add_block]; exact hn460_2) | (show (Addr.add _ _).block ≠ _; rw [add_block]; exact hn460_2) | exact hn460_2) (.int .i64 ((rd_T55 s0_1 x10_2).f2))).trans hx460_0
                                      (try have hy460_0 := fun (n_ : Nat) => (show (((((w22.drewN n_).setCell ⟨gb457, 0, none⟩ (.int .i64 ((rd_T55 s0_1 x10_2).f0))).setCell ⟨gb457, 1, none⟩ (.int .i64 ((rd_T55 s0_1 x10_2).f1))).setCell ⟨gb457, 2, none⟩ (.int .i64 ((rd_T55 s0_1 x10_2).f2)))).cell? _ = some _ from hx460_0))
                                      clear hn460_0
                                      clear hn460_1
                                      clear hn460_2
                                      replace p460 := eq_true p460
                                      replace q460 := eq_true q460
                                      have p461 : 0 ≤ (((rd_T55 s0_1 x10_2).f1) : Int) := of_decide_eq_true (by first | (with_reducible assumption) | assumption)
                                      have q461 : ((rd_T55 s0_1 x10_2).f1) < (x7_2.length : Int) := of_decide_eq_true (by first | (with_reducible assumption) | assumption)
                                      obtain ⟨ad461, e461, hx461_0⟩ := Kd.at_int (Kd.R_reads' HO_7.out).2.2 ((rd_T55 s0_1 x10_2).f1) p461 q461
                                      obtain rfl : ad460 = ad461 := (by injection e461)
                                      have hn461_0 : ad460.block ≠ gb457 := Kd.own_blk (Kd.R_ne HO_7.out BK457.out (by decide))
                                      have hn461_1 : ad460.block ≠ gb457 := Kd.own_blk (Kd.R_ne HO_7.out BK457.out (by decide))
                                      have hn461_2 : ad460.block ≠ gb457 := Kd.own_blk (Kd.R_ne HO_7.out BK457.out (by decide))
                                      replace hx461_0 := (cell_far (p := ⟨gb457, 0, none⟩) (by first | (rw [add_block]; exact hn461_0) | (show (Addr.add _ _).block ≠ _; rw [add_block]; exact hn461_0) | exact hn461_0) (.int .i64 ((rd_T55 s0_1 x10_2).f0))).trans hx461_0
                                      replace hx461_0 := (cell_far (p := ⟨gb457, 1, none⟩) (by first | (rw [add_block]; exact hn461_1) | (show (Addr.add _ _).block ≠ _; rw [add_block]; exact hn461_1) | exact hn461_1) (.int .i64 ((rd_T55 s0_1 x10_2).f1))).trans hx461_0
                                      replace hx461_0 := (cell_far (p := ⟨gb457, 2, none⟩) (by first | (rw [add_block]; exact hn461_2) | (show (Addr.add _ _).block ≠ _; rw [add_block]; exact hn461_2) | exact hn461_2) (.int .i64 ((rd_T55 s0_1 x10_2).f2))).trans hx461_0
                                      (try have hy461_0 := fun (n_ : Nat) => (show (((((w22.drewN n_).setCell ⟨gb457, 0, none⟩ (.int .i64 ((rd_T55 s0_1 x10_2).f0))).setCell ⟨gb457, 1, none⟩ (.int .i64 ((rd_T55 s0_1 x10_2).f1))).setCell ⟨gb457, 2, none⟩ (.int .i64 ((rd_T55 s0_1 x10_2).f2)))).cell? _ = some _ from hx461_0))
                                      clear hn461_0
                                      clear hn461_1
                                      clear hn461_2
                                      replace p461 := eq_true p461
                                      replace q461 := eq_true q461
                                      have p462 : 0 ≤ (((rd_T55 s0_1 x10_2).f1) : Int) := of_decide_eq_true (by first | (with_reducible assumption) | assumption)
                                      have q462 : ((rd_T55 s0_1 x10_2).f1) < (x7_2.length : Int) := of_decide_eq_true (by first | (with_reducible assumption) | assumption)
                                      obtain ⟨ad462, e462, hx462_0⟩ := Kd.at_int (Kd.R_reads' HO_7.out).2.2 ((rd_T55 s0_1 x10_2).f1) p462 q462
                                      obtain rfl : ad460 = ad462 := (by injection e462)
                                      have hn462_0 : ad460.block ≠ gb457 := Kd.own_blk (Kd.R_ne HO_7.out BK457.out (by decide))
                                      have hn462_1 : ad460.block ≠ gb457 := Kd.own_blk (Kd.R_ne HO_7.out BK457.out (by decide))
                                      have hn462_2 : ad460.block ≠ gb457 := Kd.own_blk (Kd.R_ne HO_7.out BK457.out (by decide))
                                      replace hx462_0 := (cell_far (p := ⟨gb457, 0, none⟩) (by first | (rw [add_block]; exact hn462_0) | (show (Addr.add _ _).block ≠ _; rw [add_block]; exact hn462_0) | exact hn462_0) (.int .i64 ((rd_T55 s0_1 x10_2).f0))).trans hx462_0
                                      replace hx462_0 := (cell_far (p := ⟨gb457, 1, none⟩) (by first | (rw [add_block]; exact hn462_1) | (show (Addr.add _ _).block ≠ _; rw [add_block]; exact hn462_1) | exact hn462_1) (.int .i64 ((rd_T55 s0_1 x10_2).f1))).trans hx462_0
                                      replace hx462_0 := (cell_far (p := ⟨gb457, 2, none⟩) (by first | (rw [add_block]; exact hn462_2) | (show (Addr.add _ _).block ≠ _; rw [add_block]; exact hn462_2) | exact hn462_2) (.int .i64 ((rd_T55 s0_1 x10_2).f2))).trans hx462_0
                                      (try have hy462_0 := fun (n_ : Nat) => (show (((((w22.drewN n_).setCell ⟨gb457, 0, none⟩ (.int .i64 ((rd_T55 s0_1 x10_2).f0))).setCell ⟨gb457, 1, none⟩ (.int .i64 ((rd_T55 s0_1 x10_2).f1))).setCell ⟨gb457, 2, none⟩ (.int .i64 ((rd_T55 s0_1 x10_2).f2)))).cell? _ = some _ from hx462_0))
                                      clear hn462_0
                                      clear hn462_1
                                      clear hn462_2
                                      replace p462 := eq_true p462
                                      replace q462 := eq_true q462
                                      obtain ⟨Ao40, co40, eo40⟩ := Kd.R_slice HO_8.out
                                      subst eo40
                                      have p463 : 0 ≤ (((rd_T55 s0_1 x10_2).f1) : Int) := of_decide_eq_true (by first | (with_reducible assumption) | assumption)
                                      have q463 : ((rd_T55 s0_1 x10_2).f1) < (x8_2.length : Int) := of_decide_eq_true (by first | (with_reducible assumption) | assumption)
                                      obtain ⟨ad463, e463, hx463_0⟩ := Kd.at_int (Kd.R_reads' HO_8.out).2.2 ((rd_T55 s0_1 x10_2).f1) p463 q463
                                      cases e463
                                      have hn463_0 : ad463.block ≠ gb457 := Kd.own_blk (Kd.R_ne HO_8.out BK457.out (by decide))
                                      have hn463_1 : ad463.block ≠ gb457 := Kd.own_blk (Kd.R_ne HO_8.out BK457.out (by decide))
                                      have hn463_2 : ad463.block ≠ gb457 := Kd.own_blk (Kd.R_ne HO_8.out BK457.out (by decide))
                                      replace hx463_0 := (cell_far (p := ⟨gb457, 0, none⟩) (by first | (rw [add_block]; exact hn463_0) | (show (Addr.add _ _).block ≠ _; rw [add_block]; exact hn463_0) | exact hn463_0) (.int .i64 ((rd_T55 s0_1 x10_2).f0))).trans hx463_0
                                      replace hx463_0 := (cell_far (p := ⟨gb457, 1, none⟩) (by first | (rw [add_block]; exact hn463_1) | (show (Addr.add _ _).block ≠ _; rw [add_block]; exact hn463_1) | exact hn463_1) (.int .i64 ((rd_T55 s0_1 x10_2).f1))).trans hx463_0
                                      replace hx463_0 := (cell_far (p := ⟨gb457, 2, none⟩) (by first | (rw [add_block]; exact hn463_2) | (show (Addr.add _ _).block ≠ _; rw [add_block]; exact hn463_2) | exact hn463_2) (.int .i64 ((rd_T55 s0_1 x10_2).f2))).trans hx463_0
                                      (try have hy463_0 := fun (n_ : Nat) => (show (((((w22.drewN n_).setCell ⟨gb457, 0, none⟩ (.int .i64 ((rd_T55 s0_1 x10_2).f0))).setCell ⟨gb457, 1, none⟩ (.int .i64 ((rd_T55 s0_1 x10_2).f1))).setCell ⟨gb457, 2, none⟩ (.int .i64 ((rd_T55 s0_1 x10_2).f2)))).cell? _ = some _ from hx463_0))
                                      clear hn463_0
                                      clear hn463_1
                                      clear hn463_2
                                      replace p463 := eq_true p463
                                      replace q463 := eq_true q463
                                      go_wp2
                                      repeat (go_quiet (fail); try go_wp2)
                                      go_meet
                                      case rel => exact ⟨_, (decide ((wrap64 ((rd s0_0 a1) + (rd s0_0 ((rd_T55 s0_1 x10_2).f1)))) > (rd x8_2 ((rd_T55 s0_1 x10_2).f1)))), (by first | rfl | (simp; done) | (simp [*]; done)), H', ⟨by have := HK1.out; have := HK2.out; first | omega | exact Nat.le_refl _⟩, ⟨by (with_reducible repeat (first | apply Kd.R_alloc | apply Kd.R_drewN | apply Kd.R_drew)); exact Kd.R_mono (Kd.R_far (p := ⟨gb457, 2, none⟩) (Kd.R_far (p := ⟨gb457, 1, none⟩) (Kd.R_far (p := ⟨gb457, 0, none⟩) (Kd.R_types HO_7.out BK457.out (by decide)) (fun _ hk => hk.2) (.int .i64 ((rd_T55 s0_1 x10_2).f0))) (fun _ hk => hk.2) (.int .i64 ((rd_T55 s0_1 x10_2).f1))) (fun _ hk => hk.2) (.int .i64 ((rd_T55 s0_1 x10_2).f2))) (fun _ hk => hk.1)⟩, ⟨by (with_reducible repeat (first | apply Kd.R_alloc | apply Kd.R_drewN | apply Kd.R_drew)); exact Kd.R_mono (Kd.R_far (p := ⟨gb457, 2, none⟩) (Kd.R_far (p := ⟨gb457, 1, none⟩) (Kd.R_far (p := ⟨gb457, 0, none⟩) (Kd.R_types HO_8.out BK457.out (by decide)) (fun _ hk => hk.2) (.int .i64 ((rd_T55 s0_1 x10_2).f0))) (fun _ hk => hk.2) (.int .i64 ((rd_T55 s0_1 x10_2).f1))) (fun _ hk => hk.2) (.int .i64 ((rd_T55 s0_1 x10_2).f2))) (fun _ hk => hk.1)⟩, ⟨by (with_reducible repeat (first | refine blk_drewN ?_ _ | refine blk_drew ?_ | refine blk_alloc ?_ _)); refine blk_put (cs := #[.int .i64 ((rd_T55 s0_1 x10_2).f0), .int .i64 ((rd_T55 s0_1 x10_2).f1), .int .i64 0]) ?_ 2 _ rfl; (with_reducible repeat (first | refine blk_drewN ?_ _ | refine blk_drew ?_ | refine blk_alloc ?_ _)); refine blk_put (cs := #[.int .i64 ((rd_T55 s0_1 x10_2).f0), .int .i64 0, .int .i64 0]) ?_ 1 _ rfl; (with_reducible repeat (first | refine blk_drewN ?_ _ | refine blk_drew ?_ | refine blk_alloc ?_ _)); refine blk_put (cs := #[.int .i64 0, .int .i64 0, .int .i64 0]) ?_ 0 _ rfl; (with_reducible repeat (first | refine blk_drewN ?_ _ | refine blk_drew ?_ | refine blk_alloc ?_ _)); exact BK457.out⟩, ⟨by repeat (first | (with_reducible first | exact HI0.out | apply IsS36.alloc | apply IsS36.drewN | apply IsS36.drew | refine IsS36.far ?_ NB0_457.out _) | exact HI0.out)⟩, ⟨by repeat (first | (with_reducible first | exact HK.out | apply KeepBut.set_ | apply keep_drewN | apply keep_drew | apply keep_alloc | refine keep_far ?_ GW457.out _) | exact HK.out)⟩, ⟨by repeat (first | (with_reducible first | exact HB.out | apply below_alloc | apply pw_below_drewN | apply below_drew1 | refine below_set ?_ (IsS36.ge HI0.out) | refine below_set ?_ GE457.out) | exact HB.out)⟩⟩
                                    · rw [if_neg c36] at H
                                      exact absurd H (by simp)
                                  · rw [if_neg c35] at H
                                    have c35b0 : (((rd_T55 s0_1 x10_2).f2) == (rd x7_2 ((rd_T55 s0_1 x10_2).f1))) = false := beq_eq_false_iff_ne.mpr c35
                                    have c35b1 : (((rd_T55 s0_1 x10_2).f2) != (rd x7_2 ((rd_T55 s0_1 x10_2).f1))) = true := bne_iff_ne.mpr c35
                                    have H' := Aside0.mk H
                                    clear H
                                    have hnb41 := NB457_0.out
                                    have hnc41 := NB0_457.out
                                    have hcz42_0 : w22.cell? ⟨gb457, 0, none⟩ = some (.int .i64 0) := (blk_cell BK457.out 0).trans rfl
                                    have hcz42_1 : w22.cell? ⟨gb457, 1, none⟩ = some (.int .i64 0) := (blk_cell BK457.out 1).trans rfl
                                    have hcz42_2 : w22.cell? ⟨gb457, 2, none⟩ = some (.int .i64 0) := (blk_cell BK457.out 2).trans rfl
                                    have hfz42_0 := blk_frozen BK457.out 0
                                    have hfz42_1 := blk_frozen BK457.out 1
                                    have hfz42_2 := blk_frozen BK457.out 2
                                    obtain ⟨Ao43, co43, eo43⟩ := Kd.R_slice HO_7.out
                                    subst eo43
                                    have p460 : 0 ≤ (((rd_T55 s0_1 x10_2).f1) : Int) := of_decide_eq_true (by first | (with_reducible assumption) | assumption)
                                    have q460 : ((rd_T55 s0_1 x10_2).f1) < (x7_2.length : Int) := of_decide_eq_true (by first | (with_reducible assumption) | assumption)
                                    obtain ⟨ad460, e460, hx460_0⟩ := Kd.at_int (Kd.R_reads' HO_7.out).2.2 ((rd_T55 s0_1 x10_2).f1) p460 q460
                                    cases e460
                                    have hn460_0 : ad460.block ≠ gb457 := Kd.own_blk (Kd.R_ne HO_7.out BK457.out (by decide))
                                    have hn460_1 : ad460.block ≠ gb457 := Kd.own_blk (Kd.R_ne HO_7.out BK457.out (by decide))
                                    have hn460_2 : ad460.block ≠ gb457 := Kd.own_blk (Kd.R_ne HO_7.out BK457.out (by decide))
                                    replace hx460_0 := (cell_far (p := ⟨gb457, 0, none⟩) (by first | (rw [add_block]; exact hn460_0) | (show (Addr.add _ _).block ≠ _; rw [add_block]; exact hn460_0) | exact hn460_0) (.int .i64 ((rd_T55 s0_1 x10_2).f0))).trans hx460_0
                                    replace hx460_0 := (cell_far (p := ⟨gb457, 1, none⟩) (by first | (rw [add_block]; exact hn460_1) | (show (Addr.add _ _).block ≠ _; rw [add_block]; exact hn460_1) | exact hn460_1) (.int .i64 ((rd_T55 s0_1 x10_2).f1))).trans hx460_0
                                    replace hx460_0 := (cell_far (p := ⟨gb457, 2, none⟩) (by first | (rw [add_block]; exact hn460_2) | (show (Addr.add _ _).block ≠ _; rw [add_block]; exact hn460_2) | exact hn460_2) (.int .i64 ((rd_T55 s0_1 x10_2).f2))).trans hx460_0
                                    (try have hy460_0 := fun (n_ : Nat) => (show (((((w22.drewN n_).setCell ⟨gb457, 0, none⟩ (.int .i64 ((rd_T55 s0_1 x10_2).f0))).setCell ⟨gb457, 1, none⟩ (.int .i64 ((rd_T55 s0_1 x10_2).f1))).setCell ⟨gb457, 2, none⟩ (.int .i64 ((rd_T55 s0_1 x10_2).f2)))).cell? _ = some _ from hx460_0))
                                    clear hn460_0
                                    clear hn460_1
                                    clear hn460_2
                                    replace p460 := eq_true p460
                                    replace q460 := eq_true q460
                                    have p461 : 0 ≤ (((rd_T55 s0_1 x10_2).f1) : Int) := of_decide_eq_true (by first | (with_reducible assumption) | assumption)
                                    have q461 : ((rd_T55 s0_1 x10_2).f1) < (x7_2.length : Int) := of_decide_eq_true (by first | (with_reducible assumption) | assumption)
                                    obtain ⟨ad461, e461, hx461_0⟩ := Kd.at_int (Kd.R_reads' HO_7.out).2.2 ((rd_T55 s0_1 x10_2).f1) p461 q461
                                    obtain rfl : ad460 = ad461 := (by injection e461)
                                    have hn461_0 : ad460.block ≠ gb457 := Kd.own_blk (Kd.R_ne HO_7.out BK457.out (by decide))
                                    have hn461_1 : ad460.block ≠ gb457 := Kd.own_blk (Kd.R_ne HO_7.out BK457.out (by decide))
                                    have hn461_2 : ad460.block ≠ gb457 := Kd.own_blk (Kd.R_ne HO_7.out BK457.out (by decide))
                                    replace hx461_0 := (cell_far (p := ⟨gb457, 0, none⟩) (by first | (rw [add_block]; exact hn461_0) | (show (Addr.add _ _).block ≠ _; rw [add_block]; exact hn461_0) | exact hn461_0) (.int .i64 ((rd_T55 s0_1 x10_2).f0))).trans hx461_0
                                    replace hx461_0 := (cell_far (p := ⟨gb457, 1, none⟩) (by first | (rw [add_block]; exact hn461_1) | (show (Addr.add _ _).block ≠ _; rw [add_block]; exact hn461_1) | exact hn461_1) (.int .i64 ((rd_T55 s0_1 x10_2).f1))).trans hx461_0
                                    replace hx461_0 := (cell_far (p := ⟨gb457, 2, none⟩) (by first | (rw [add_block]; exact hn461_2) | (show (Addr.add _ _).block ≠ _; rw [add_block]; exact hn461_2) | exact hn461_2) (.int .i64 ((rd_T55 s0_1 x10_2).f2))).trans hx461_0
                                    (try have hy461_0 := fun (n_ : Nat) => (show (((((w22.drewN n_).setCell ⟨gb457, 0, none⟩ (.int .i64 ((rd_T55 s0_1 x10_2).f0))).setCell ⟨gb457, 1, none⟩ (.int .i64 ((rd_T55 s0_1 x10_2).f1))).setCell ⟨gb457, 2, none⟩ (.int .i64 ((rd_T55 s0_1 x10_2).f2)))).cell? _ = some _ from hx461_0))
                                    clear hn461_0
                                    clear hn461_1
                                    clear hn461_2
                                    replace p461 := eq_true p461
                                    replace q461 := eq_true q461
                                    have p462 : 0 ≤ (((rd_T55 s0_1 x10_2).f1) : Int) := of_decide_eq_true (by first | (with_reducible assumption) | assumption)
                                    have q462 : ((rd_T55 s0_1 x10_2).f1) < (x7_2.length : Int) := of_decide_eq_true (by first | (with_reducible assumption) | assumption)
                                    obtain ⟨ad462, e462, hx462_0⟩ := Kd.at_int (Kd.R_reads' HO_7.out).2.2 ((rd_T55 s0_1 x10_2).f1) p462 q462
                                    obtain rfl : ad460 = ad462 := (by injection e462)
                                    have hn462_0 : ad460.block ≠ gb457 := Kd.own_blk (Kd.R_ne HO_7.out BK457.out (by decide))
                                    have hn462_1 : ad460.block ≠ gb457 := Kd.own_blk (Kd.R_ne HO_7.out BK457.out (by decide))
                                    have hn462_2 : ad460.block ≠ gb457 := Kd.own_blk (Kd.R_ne HO_7.out BK457.out (by decide))
                                    replace hx462_0 := (cell_far (p := ⟨gb457, 0, none⟩) (by first | (rw [add_block]; exact hn462_0) | (show (Addr.add _ _).block ≠ _; rw [add_block]; exact hn462_0) | exact hn462_0) (.int .i64 ((rd_T55 s0_1 x10_2).f0))).trans hx462_0
                                    replace hx462_0 := (cell_far (p := ⟨gb457, 1, none⟩) (by first | (rw [add_block]; exact hn462_1) | (show (Addr.add _ _).block ≠ _; rw [add_block]; exact hn462_1) | exact hn462_1) (.int .i64 ((rd_T55 s0_1 x10_2).f1))).trans hx462_0
                                    replace hx462_0 := (cell_far (p := ⟨gb457, 2, none⟩) (by first | (rw [add_block]; exact hn462_2) | (show (Addr.add _ _).block ≠ _; rw [add_block]; exact hn462_2) | exact hn462_2) (.int .i64 ((rd_T55 s0_1 x10_2).f2))).trans hx462_0
                                    (try have hy462_0 := fun (n_ : Nat) => (show (((((w22.drewN n_).setCell ⟨gb457, 0, none⟩ (.int .i64 ((rd_T55 s0_1 x10_2).f0))).setCell ⟨gb457, 1, none⟩ (.int .i64 ((rd_T55 s0_1 x10_2).f1))).setCell ⟨gb457, 2, none⟩ (.int .i64 ((rd_T55 s0_1 x10_2).f2)))).cell? _ = some _ from hx462_0))
                                    clear hn462_0
                                    clear hn462_1
                                    clear hn462_2
                                    replace p462 := eq_true p462
                                    replace q462 := eq_true q462
                                    go_wp2
                                    repeat (go_quiet (fail); try go_wp2)
                                    go_meet
                                    case rel => exact ⟨_, (false), (by first | rfl | (simp; done) | (simp [*]; done)), H', ⟨by have := HK1.out; have := HK2.out; first | omega | exact Nat.le_refl _⟩, ⟨by (with_reducible repeat (first | apply Kd.R_alloc | apply Kd.R_drewN | apply Kd.R_drew)); exact Kd.R_mono (Kd.R_far (p := ⟨gb457, 2, none⟩) (Kd.R_far (p := ⟨gb457, 1, none⟩) (Kd.R_far (p := ⟨gb457, 0, none⟩) (Kd.R_types HO_7.out BK457.out (by decide)) (fun _ hk => hk.2) (.int .i64 ((rd_T55 s0_1 x10_2).f0))) (fun _ hk => hk.2) (.int .i64 ((rd_T55 s0_1 x10_2).f1))) (fun _ hk => hk.2) (.int .i64 ((rd_T55 s0_1 x10_2).f2))) (fun _ hk => hk.1)⟩, ⟨by (with_reducible repeat (first | apply Kd.R_alloc | apply Kd.R_drewN | apply Kd.R_drew)); exact Kd.R_mono (Kd.R_far (p := ⟨gb457, 2, none⟩) (Kd.R_far (p := ⟨gb457, 1, none⟩) (Kd.R_far (p := ⟨gb457, 0, none⟩) (Kd.R_types HO_8.out BK457.out (by decide)) (fun _ hk => hk.2) (.int .i64 ((rd_T55 s0_1 x10_2).f0))) (fun _ hk => hk.2) (.int .i64 ((rd_T55 s0_1 x10_2).f1))) (fun _ hk => hk.2) (.int .i64 ((rd_T55 s0_1 x10_2).f2))) (fun _ hk => hk.1)⟩, ⟨by (with_reducible repeat (first | refine blk_drewN ?_ _ | refine blk_drew ?_ | refine blk_alloc ?_ _)); refine blk_put (cs := #[.int .i64 ((rd_T55 s0_1 x10_2).f0), .int .i64 ((rd_T55 s0_1 x10_2).f1), .int .i64 0]) ?_ 2 _ rfl; (with_reducible repeat (first | refine blk_drewN ?_ _ | refine blk_drew ?_ | refine blk_alloc ?_ _)); refine blk_put (cs := #[.int .i64 ((rd_T55 s0_1 x10_2).f0), .int .i64 0, .int .i64 0]) ?_ 1 _ rfl; (with_reducible repeat (first | refine blk_drewN ?_ _ | refine blk_drew ?_ | refine blk_alloc ?_ _)); refine blk_put (cs := #[.int .i64 0, .int .i64 0, .int .i64 0]) ?_ 0 _ rfl; (with_reducible repeat (first | refine blk_drewN ?_ _ | refine blk_drew ?_ | refine blk_alloc ?_ _)); exact BK457.out⟩, ⟨by repeat (first | (with_reducible first | exact HI0.out | apply IsS36.alloc | apply IsS36.drewN | apply IsS36.drew | refine IsS36.far ?_ NB0_457.out _) | exact HI0.out)⟩, ⟨by repeat (first | (with_reducible first | exact HK.out | apply KeepBut.set_ | apply keep_drewN | apply keep_drew | apply keep_alloc | refine keep_far ?_ GW457.out _) | exact HK.out)⟩, ⟨by repeat (first | (with_reducible first | exact HB.out | apply below_alloc | apply pw_below_drewN | apply below_drew1 | refine below_set ?_ (IsS36.ge HI0.out) | refine below_set ?_ GE457.out) | exact HB.out)⟩⟩
                            · rw [if_neg c26] at H
                              exact absurd H (by simp)
                          case rest =>
                            clear HC20
                            try clear c1
                            try clear c2
                            try clear p2
                            try clear c3
                            try clear c4
                            try clear p4
                            try clear q4
                            try clear hx4
                            try clear c6
                            try clear p6
                            try clear c8
                            try clear c8b0
                            try clear c9
                            try clear c10
                            try clear c13
                            try clear c13b0
                            try clear c14
                            try clear c14b0
                            try clear c15
                            try clear c15b0
                            try clear c15b1
                            try clear c16
                            try clear c16b0
                            try clear c17
                            try clear c17b0
                            try clear c18
                            try clear c18b0
                            try clear c19
                            try clear c19b0
                            try clear c23
                            try clear c26
                            try clear c26b0
                            try clear c27
                            try clear c27b0
                            try clear c28
                            try clear c31
                            try clear c31b0
                            try clear c32
                            try clear c35
                            try clear c35b0
                            try clear c35b1
                            try clear c36
                            try clear c36b0
                            try clear c37
                            try clear c41
                            try clear hcz21_0
                            try clear hcz21_1
                            try clear hcz24_0
                            try clear hcz24_1
                            try clear hcz24_2
                            try clear hcz25_0
                            try clear hcz25_1
                            try clear hcz29_0
                            try clear hcz29_1
                            try clear hcz29_2
                            try clear hcz33_0
                            try clear hcz33_1
                            try clear hcz33_2
                            try clear hcz38_0
                            try clear hcz38_1
                            try clear hcz38_2
                            try clear hcz3_0
                            try clear hcz3_1
                            try clear hcz42_0
                            try clear hcz42_1
                            try clear hcz42_2
                            try clear hfz24_0
                            try clear hfz24_1
                            try clear hfz24_2
                            try clear hfz29_0
                            try clear hfz29_1
                            try clear hfz29_2
                            try clear hfz33_0
                            try clear hfz33_1
                            try clear hfz33_2
                            try clear hfz38_0
                            try clear hfz38_1
                            try clear hfz38_2
                            try clear hfz42_0
                            try clear hfz42_1
                            try clear hfz42_2
                            try clear hx456_0
                            try clear hx456_1
                            try clear hx456_2
                            try clear hx458_0
                            try clear hx459_0
                            try clear hx460_0
                            try clear hx461_0
                            try clear hx462_0
                            try clear hx463_0
                            try clear p2
                            try clear p456
                            try clear p458
                            try clear p459
                            try clear p460
                            try clear p461
                            try clear p462
                            try clear p463
                            try clear p6
                            try clear q456
                            try clear q458
                            try clear q459
                            try clear q460
                            try clear q461
                            try clear q462
                            try clear q463
                            obtain ⟨kq, x106_19, rfl, HA, HJ19, HO_7, HO_8, BK457, HI0, HK, HB⟩ := hcut
                            cases kq with
                            | zero => exact absurd HA.out (by simp [spec_l08Far.j2])
                            | succ kj19 =>
                              have H := HA.out
                              clear HA
                              simp only [spec_l08Far.j2] at H
                              by_cases c44 : x106_19 = true
                              · subst c44
                                have H1 : (if 0 ≤ ((rd_T55 s0_1 x10_2).f1) then (if ((rd_T55 s0_1 x10_2).f1) < (x7_2.length : Int) then (if ((rd_T55 s0_1 x10_2).f1) < (x8_2.length : Int) then (spec_l08Far.l1 kj19 a1 (x7_2.set (((rd_T55 s0_1 x10_2).f1) : Int).toNat ((rd_T55 s0_1 x10_2).f2)) (x8_2.set (((rd_T55 s0_1 x10_2).f1) : Int).toNat (wrap64 ((rd s0_0 a1) + (rd s0_0 ((rd_T55 s0_1 x10_2).f1))))) (wrap64 (x10_2 + 1)) s0_0 s0_1) else (none)) else (none)) else (none)) = some (r1, r2) := by rw [if_pos rfl] at H; exact H
                                clear H
                                have H := H1
                                clear H1
                                by_cases c45 : 0 ≤ ((rd_T55 s0_1 x10_2).f1)
                                · rw [if_pos c45] at H
                                  have c45b0 : decide (0 ≤ ((rd_T55 s0_1 x10_2).f1)) = true := decide_eq_true c45
                                  clear c45
                                  by_cases c46 : ((rd_T55 s0_1 x10_2).f1) < (x7_2.length : Int)
                                  · rw [if_pos c46] at H
                                    have c46b0 : decide (((rd_T55 s0_1 x10_2).f1) < (x7_2.length : Int)) = true := decide_eq_true c46
                                    clear c46
                                    obtain ⟨y464, hy464⟩ : ∃ y_ : List Int, y_ = (x7_2.set (((rd_T55 s0_1 x10_2).f1) : Int).toNat ((rd_T55 s0_1 x10_2).f2)) := ⟨_, rfl⟩
                                    replace H : (if ((rd_T55 s0_1 x10_2).f1) < (x8_2.length : Int) then (spec_l08Far.l1 kj19 a1 y464 (x8_2.set (((rd_T55 s0_1 x10_2).f1) : Int).toNat (wrap64 ((rd s0_0 a1) + (rd s0_0 ((rd_T55 s0_1 x10_2).f1))))) (wrap64 (x10_2 + 1)) s0_0 s0_1) else (none)) = some (r1, r2) := by first | (rw [hy464]; with_reducible exact H) | (have H2_ := (Option.bind_some _ _).symm.trans H; rw [hy464]; with_reducible exact H2_) | (have H2_ := (Option.bind_some _ _).symm.trans H; with_reducible exact H2_) | with_reducible exact H | (rw [hy464]; exact H) | exact H
                                    have Ny464 := Aside0.mk hy464
                                    clear hy464
                                    by_cases c48 : ((rd_T55 s0_1 x10_2).f1) < (x8_2.length : Int)
                                    · rw [if_pos c48] at H
                                      have c48b0 : decide (((rd_T55 s0_1 x10_2).f1) < (x8_2.length : Int)) = true := decide_eq_true c48
                                      clear c48
                                      obtain ⟨y465, hy465⟩ : ∃ y_ : List Int, y_ = (x8_2.set (((rd_T55 s0_1 x10_2).f1) : Int).toNat (wrap64 ((rd s0_0 a1) + (rd s0_0 ((rd_T55 s0_1 x10_2).f1))))) := ⟨_, rfl⟩
                                      replace H : (spec_l08Far.l1 kj19 a1 y464 y465 (wrap64 (x10_2 + 1)) s0_0 s0_1) = some (r1, r2) := by first | (rw [hy465]; with_reducible exact H) | (have H2_ := (Option.bind_some _ _).symm.trans H; rw [hy465]; with_reducible exact H2_) | (have H2_ := (Option.bind_some _ _).symm.trans H; with_reducible exact H2_) | with_reducible exact H | (rw [hy465]; exact H) | exact H
                                      have Ny465 := Aside0.mk hy465
                                      clear hy465
                                      have H' := Aside0.mk H
                                      clear H
                                      have hnb50 := NB457_0.out
                                      have hnc50 := NB0_457.out
                                      have hcz51_0 : wc.cell? ⟨gb457, 0, none⟩ = some (.int .i64 ((rd_T55 s0_1 x10_2).f0)) := (blk_cell BK457.out 0).trans rfl
                                      have hcz51_1 : wc.cell? ⟨gb457, 1, none⟩ = some (.int .i64 ((rd_T55 s0_1 x10_2).f1)) := (blk_cell BK457.out 1).trans rfl
                                      have hcz51_2 : wc.cell? ⟨gb457, 2, none⟩ = some (.int .i64 ((rd_T55 s0_1 x10_2).f2)) := (blk_cell BK457.out 2).trans rfl
                                      have hfz51_0 := blk_frozen BK457.out 0
                                      have hfz51_1 := blk_frozen BK457.out 1
                                      have hfz51_2 := blk_frozen BK457.out 2
                                      have p47 : 0 ≤ (((rd_T55 s0_1 x10_2).f1) : Int) := of_decide_eq_true (by first | (with_reducible assumption) | assumption)
                                      have q47 : (((rd_T55 s0_1 x10_2).f1) : Int) < ((x7_2.length : Int) : Int) := of_decide_eq_true (by first | (with_reducible assumption) | assumption)
                                      obtain ⟨go47, co47, eo47, gb47, gl47, cl47, HG47⟩ := Kd.R_form HO_7.out (by omega)
                                      (first | cases eo47 | (injection eo47 with ea_ en_ ec_; (first | subst ea_ | (injection ea_ with ea_; subst ea_)); subst ec_; clear en_))
                                      have GB47 := Aside0.mk gb47
                                      have GG47 := Aside0.mk HG47
                                      clear gb47 gl47 HG47
                                      obtain ⟨hx47_0, hf47_0⟩ := Kd.R_celln 0 HO_7.out (((rd_T55 s0_1 x10_2).f1) : Int) p47 q47
                                      replace p47 := eq_true p47
                                      replace q47 := eq_true q47
                                      have HP52 := Kd.R_putg HO_7.out (((rd_T55 s0_1 x10_2).f1) : Int) ((rd_T55 s0_1 x10_2).f2)
                                      go_wp2_with (first | ((with_reducible refine gate_store (t := 2) (p := 112) rfl ?_); (try (rw [drewN_self wc]; generalize hq_ : World.drewN wc _ = wc; have n0_ := Aside0.mk (Kd.R_at hq_ HO_7.out); have n1_ := Aside0.mk (Kd.R_at hq_ HO_8.out); have n2_ := Aside0.mk (blk_at hq_ BK457.out); have n3_ := Aside0.mk (IsS36.at_ hq_ HI0.out); have n4_ := Aside0.mk (keep_at hq_ HK.out); have n5_ := Aside0.mk (below_at hq_ HB.out); clear hq_ HO_7 HO_8 BK457 HI0 HK HB; have HO_7 := n0_; have HO_8 := n1_; have BK457 := n2_; have HI0 := n3_; have HK := n4_; have HB := n5_; clear n0_ n1_ n2_ n3_ n4_ n5_; (try (have HP52 := Kd.R_putg HO_7.out (((rd_T55 s0_1 x10_2).f1) : Int) ((rd_T55 s0_1 x10_2).f2))))); refine store_event (t := 2) (p := 112) (v := ?vo_w53) (w1 := (wc.setCell ⟨go47, (((rd_T55 s0_1 x10_2).f1) : Int).toNat, none⟩ (.int .i64 ((rd_T55 s0_1 x10_2).f2)))) ?hg ?ho ?hn ?hr ?_; (case ho => rfl); (case hg => rfl); (case hn => rfl); (case hr => first | (go_simp; done) | (go_simp; rfl)); intro w53 hw; have hg : wc.grownBy w53 (some go47) := (by rw [hw]; exact HP52.2); have hp_ : Kd.R (Kd.int .i64) 2 w53 w.heap.size (fun k_ => some k_ ≠ (u8 : Value).ownBlock) (.slice (some ⟨go47, 0, none⟩) x7_2.length co47) y464 := (by rw [hw, Ny464.out]; exact HP52.1); clear HP52; have n0_ := Aside0.mk (hp_); have n1_ := Aside0.mk (Kd.R_after (v := (.slice (some ⟨go47, 0, none⟩) x7_2.length co47)) (v1 := (.slice (some ⟨go47, 0, none⟩) x7_2.length co47)) (ok := (fun _ => True)) (by (with_reducible repeat (first | apply Kd.R_alloc | apply Kd.R_drewN | apply Kd.R_drew)); exact Kd.R_mono HO_8.out (fun _ hk => ⟨trivial, hk⟩)) hg (.inl rfl)); have n2_ := Aside0.mk (blk_grown (g := gb457) (o := .cells #[.int .i64 ((rd_T55 s0_1 x10_2).f0), .int .i64 ((rd_T55 s0_1 x10_2).f1), .int .i64 ((rd_T55 s0_1 x10_2).f2)] 55 (0, 0)) (by (with_reducible repeat (first | refine blk_drewN ?_ _ | refine blk_drew ?_ | refine blk_alloc ?_ _)); exact BK457.out) hg (Kd.R_ne HO_7.out BK457.out (by decide))); have n3_ := Aside0.mk (IsS36.grown (by repeat (first | (with_reducible first | exact HI0.out | apply IsS36.alloc | apply IsS36.drewN | apply IsS36.drew | refine IsS36.far ?_ NB0_457.out _) | exact HI0.out)) hg (IsS36.own_ne HI0.out HO_7.out (by decide))); have n4_ := Aside0.mk ((by rw [hw]; exact below_set (HB.out) (Nat.le_trans HL.out GB47.out) : Below w0.heap.size w0 w53)); have n5_ := Aside0.mk (KeepBut.trans (by repeat (first | (with_reducible first | exact HK.out | apply KeepBut.set_ | apply keep_drewN | apply keep_drew | apply keep_alloc | refine keep_far ?_ GW457.out _) | exact HK.out)) (KeepBut.of_grown hg g) (Kd.R_base2 HO_7.out)); clear HO_7; clear HO_8; clear BK457; clear HI0; clear HB; clear HK; have HO_7 := n0_; have HO_8 := n1_; have BK457 := n2_; have HI0 := n3_; have HB := n4_; have HK := n5_; clear n0_ n1_ n2_ n3_ n4_ n5_; clear hg hw hp_; have hcz54_0 : w53.cell? ⟨gb457, 0, none⟩ = some (.int .i64 ((rd_T55 s0_1 x10_2).f0)) := (blk_cell BK457.out 0).trans rfl; have hcz54_1 : w53.cell? ⟨gb457, 1, none⟩ = some (.int .i64 ((rd_T55 s0_1 x10_2).f1)) := (blk_cell BK457.out 1).trans rfl; have hcz54_2 : w53.cell? ⟨gb457, 2, none⟩ = some (.int .i64 ((rd_T55 s0_1 x10_2).f2)) := (blk_cell BK457.out 2).trans rfl; have hfz54_0 := blk_frozen BK457.out 0; have hfz54_1 := blk_frozen BK457.out 1; have hfz54_2 := blk_frozen BK457.out 2; have p49 : 0 ≤ (((rd_T55 s0_1 x10_2).f1) : Int) := of_decide_eq_true (by first | (with_reducible assumption) | assumption); have q49 : (((rd_T55 s0_1 x10_2).f1) : Int) < ((x8_2.length : Int) : Int) := of_decide_eq_true (by first | (with_reducible assumption) | assumption); obtain ⟨go49, co49, eo49, gb49, gl49, cl49, HG49⟩ := Kd.R_form HO_8.out (by omega); (first | cases eo49 | (injection eo49 with ea_ en_ ec_; (first | subst ea_ | (injection ea_ with ea_; subst ea_)); subst ec_; clear en_)); have GB49 := Aside0.mk gb49; have GG49 := Aside0.mk HG49; clear gb49 gl49 HG49; obtain ⟨hx49_0, hf49_0⟩ := Kd.R_celln 0 HO_8.out (((rd_T55 s0_1 x10_2).f1) : Int) p49 q49; replace p49 := eq_true p49; replace q49 := eq_true q49; have n_ := Aside0.mk (Kd.R_mono (ok' := (fun k_ => some k_ ≠ (.slice (some ⟨go47, 0, none⟩) x7_2.length co47 : Value).ownBlock)) HO_8.out (fun k_ hk => hk.2)); clear HO_8; have HO_8 := n_; clear n_; obtain ⟨hy55_, hz55_⟩ := Kd.R_celln 0 HO_8.out (((rd_T55 s0_1 x10_2).f1) : Int) (of_decide_eq_true (by first | (with_reducible assumption) | assumption)) (of_decide_eq_true (by first | (with_reducible assumption) | assumption)); have HP55 := Kd.R_putg HO_8.out (((rd_T55 s0_1 x10_2).f1) : Int) (wrap64 ((rd s0_0 a1) + (rd s0_0 ((rd_T55 s0_1 x10_2).f1))))) | ((with_reducible refine gate_store (t := 2) (p := 117) rfl ?_); (try (rw [drewN_self w53]; generalize hq_ : World.drewN w53 _ = w53; have n0_ := Aside0.mk (Kd.R_at hq_ HO_7.out); have n1_ := Aside0.mk (Kd.R_at hq_ HO_8.out); have n2_ := Aside0.mk (blk_at hq_ BK457.out); have n3_ := Aside0.mk (IsS36.at_ hq_ HI0.out); have n4_ := Aside0.mk (keep_at hq_ HK.out); have n5_ := Aside0.mk (below_at hq_ HB.out); clear hq_ HO_7 HO_8 BK457 HI0 HK HB; have HO_7 := n0_; have HO_8 := n1_; have BK457 := n2_; have HI0 := n3_; have HK := n4_; have HB := n5_; clear n0_ n1_ n2_ n3_ n4_ n5_; (try (have n_ := Aside0.mk (Kd.R_mono (ok' := (fun k_ => some k_ ≠ (.slice (some ⟨go47, 0, none⟩) x7_2.length co47 : Value).ownBlock)) HO_8.out (fun k_ hk => hk.2)); clear HO_8; have HO_8 := n_; clear n_)); (try (obtain ⟨hy55_, hz55_⟩ := Kd.R_celln 0 HO_8.out (((rd_T55 s0_1 x10_2).f1) : Int) (of_decide_eq_true (by first | (with_reducible assumption) | assumption)) (of_decide_eq_true (by first | (with_reducible assumption) | assumption)))); (try (have HP55 := Kd.R_putg HO_8.out (((rd_T55 s0_1 x10_2).f1) : Int) (wrap64 ((rd s0_0 a1) + (rd s0_0 ((rd_T55 s0_1 x10_2).f1)))))))); refine store_event (t := 2) (p := 117) (v := ?vo_w56) (w1 := (w53.setCell ⟨go49, (((rd_T55 s0_1 x10_2).f1) : Int).toNat, none⟩ (.int .i64 (wrap64 ((rd s0_0 a1) + (rd s0_0 ((rd_T55 s0_1 x10_2).f1))))))) ?hg ?ho ?hn ?hr ?_; (case ho => rfl); (case hg => rfl); (case hn => rfl); (case hr => first | (go_simp; done) | (go_simp; rfl)); intro w56 hw; have hg : w53.grownBy w56 (some go49) := (by rw [hw]; exact HP55.2); have hp_ : Kd.R (Kd.int .i64) 2 w56 w.heap.size (fun k_ => some k_ ≠ (.slice (some ⟨go47, 0, none⟩) x7_2.length co47 : Value).ownBlock) (.slice (some ⟨go49, 0, none⟩) x8_2.length co49) y465 := (by rw [hw, Ny465.out]; exact HP55.1); clear HP55; have n0_ := Aside0.mk (Kd.R_after (v := (.slice (some ⟨go49, 0, none⟩) x8_2.length co49)) (v1 := (.slice (some ⟨go49, 0, none⟩) x8_2.length co49)) (ok := (fun _ => True)) (by (with_reducible repeat (first | apply Kd.R_alloc | apply Kd.R_drewN | apply Kd.R_drew)); exact Kd.R_mono HO_7.out (fun _ hk => ⟨trivial, hk⟩)) hg (.inl rfl)); have n1_ := Aside0.mk (hp_); have n2_ := Aside0.mk (blk_grown (g := gb457) (o := .cells #[.int .i64 ((rd_T55 s0_1 x10_2).f0), .int .i64 ((rd_T55 s0_1 x10_2).f1), .int .i64 ((rd_T55 s0_1 x10_2).f2)] 55 (0, 0)) (by (with_reducible repeat (first | refine blk_drewN ?_ _ | refine blk_drew ?_ | refine blk_alloc ?_ _)); exact BK457.out) hg (Kd.R_ne HO_8.out BK457.out (by decide))); have n3_ := Aside0.mk (IsS36.grown (by repeat (first | (with_reducible first | exact HI0.out | apply IsS36.alloc | apply IsS36.drewN | apply IsS36.drew | refine IsS36.far ?_ NB0_457.out _) | exact HI0.out)) hg (IsS36.own_ne HI0.out HO_8.out (by decide))); have n4_ := Aside0.mk ((by rw [hw]; exact below_set (HB.out) (Nat.le_trans HL.out GB49.out) : Below w0.heap.size w0 w56)); have n5_ := Aside0.mk (KeepBut.trans (by repeat (first | (with_reducible first | exact HK.out | apply KeepBut.set_ | apply keep_drewN | apply keep_drew | apply keep_alloc | refine keep_far ?_ GW457.out _) | exact HK.out)) (KeepBut.of_grown hg g) (Kd.R_base2 HO_8.out)); clear HO_7; clear HO_8; clear BK457; clear HI0; clear HB; clear HK; have HO_7 := n0_; have HO_8 := n1_; have BK457 := n2_; have HI0 := n3_; have HB := n4_; have HK := n5_; clear n0_ n1_ n2_ n3_ n4_ n5_; clear hg hw hp_))
                                      repeat (go_quiet (fail); try go_wp2)
                                      go_roundg kj19
                                      case measure => have := HK1.out; have := HK2.out; have := HJ19.out; omega
                                      case rel => exact ⟨(y464), (y465), (wrap64 (x10_2 + 1)), (by first | rfl | (simp; done) | (simp [*]; done)), H', ⟨by have := HK1.out; have := HK2.out; have := HJ19.out; omega⟩, ⟨by (with_reducible repeat (first | apply Kd.R_alloc | apply Kd.R_drewN | apply Kd.R_drew)); exact Kd.R_mono HO_7.out (fun _ hk => hk.2)⟩, ⟨by (with_reducible repeat (first | apply Kd.R_alloc | apply Kd.R_drewN | apply Kd.R_drew)); exact HO_8.out⟩, ⟨by repeat (first | (with_reducible first | exact HI0.out | apply IsS36.alloc | apply IsS36.drewN | apply IsS36.drew | refine IsS36.far ?_ NB0_457.out _) | exact HI0.out)⟩, ⟨by repeat (first | (with_reducible first | exact HK.out | apply KeepBut.set_ | apply keep_drewN | apply keep_drew | apply keep_alloc | refine keep_far ?_ GW457.out _) | exact HK.out)⟩, ⟨by repeat (first | (with_reducible first | exact HB.out | apply below_alloc | apply pw_below_drewN | apply below_drew1 | refine below_set ?_ (IsS36.ge HI0.out) | refine below_set ?_ GE457.out) | exact HB.out)⟩⟩
                                    · rw [if_neg c48] at H
                                      exact absurd H (by simp)
                                  · rw [if_neg c46] at H
                                    exact absurd H (by simp)
                                · rw [if_neg c45] at H
                                  exact absurd H (by simp)
                              · replace c44 := Bool.eq_false_iff.mpr c44
                                subst c44
                                have H1 : (spec_l08Far.l1 kj19 a1 x7_2 x8_2 (wrap64 (x10_2 + 1)) s0_0 s0_1) = some (r1, r2) := by rw [if_neg (show ¬ (false = true) by decide)] at H; exact H
                                clear H
                                have H := H1
                                clear H1
                                have H' := Aside0.mk H
                                clear H
                                go_wp2
                                repeat (go_quiet (fail); try go_wp2)
                                go_roundg kj19
                                case measure => have := HK1.out; have := HK2.out; have := HJ19.out; omega
                                case rel => exact ⟨(x7_2), (x8_2), (wrap64 (x10_2 + 1)), (by first | rfl | (simp; done) | (simp [*]; done)), H', ⟨by have := HK1.out; have := HK2.out; have := HJ19.out; omega⟩, ⟨by (with_reducible repeat (first | apply Kd.R_alloc | apply Kd.R_drewN | apply Kd.R_drew)); exact HO_7.out⟩, ⟨by (with_reducible repeat (first | apply Kd.R_alloc | apply Kd.R_drewN | apply Kd.R_drew)); exact HO_8.out⟩, ⟨by repeat (first | (with_reducible first | exact HI0.out | apply IsS36.alloc | apply IsS36.drewN | apply IsS36.drew | refine IsS36.far ?_ NB0_457.out _) | exact HI0.out)⟩, ⟨by repeat (first | (with_reducible first | exact HK.out | apply KeepBut.set_ | apply keep_drewN | apply keep_drew | apply keep_alloc | refine keep_far ?_ GW457.out _) | exact HK.out)⟩, ⟨by repeat (first | (with_reducible first | exact HB.out | apply below_alloc | apply pw_below_drewN | apply below_drew1 | refine below_set ?_ (IsS36.ge HI0.out) | refine below_set ?_ GE457.out) | exact HB.out)⟩⟩
                        · rw [if_neg c19] at H
                          exact absurd H (by simp)
                      · rw [if_neg c18] at H
                        exact absurd H (by simp)
                    · rw [if_neg c17] at H
                      exact absurd H (by simp)
                  · rw [if_neg c16] at H
                    exact absurd H (by simp)
                · rw [if_neg c15] at H
                  have c15b0 : (((rd_T55 s0_1 x10_2).f0) == a1) = false := beq_eq_false_iff_ne.mpr c15
                  have c15b1 : (((rd_T55 s0_1 x10_2).f0) != a1) = true := bne_iff_ne.mpr c15
                  have H' := Aside0.mk H
                  clear H
                  obtain ⟨ASz57_0, cSz57_0, ASz57_1, cSz57_1, HGz57, hgz57, HSz57_0, HSz57_1⟩ := HI0.out
                  have hcz57_0 := cellS36_0 HGz57
                  have hcz57_1 := cellS36_1 HGz57
                  clear HGz57 hgz57
                  have p456 : 0 ≤ (x10_2 : Int) := of_decide_eq_true (by first | (with_reducible assumption) | assumption)
                  have q456 : x10_2 < (s0_1.length : Int) := of_decide_eq_true (by first | (with_reducible assumption) | assumption)
                  obtain ⟨ad456, e456, hx456_0, hx456_1, hx456_2⟩ := at_T55 HSz57_1 x10_2 p456 q456
                  cases e456
                  replace hx456_0 := pw_cell_below HB.out hx456_0
                  replace hx456_1 := pw_cell_below HB.out hx456_1
                  replace hx456_2 := pw_cell_below HB.out hx456_2
                  replace p456 := eq_true p456
                  replace q456 := eq_true q456
                  go_wp2_with (first | ((with_reducible refine gate_dst (N := 11) rfl ?_); refine box_event ?hg (N := 11) ?hd (cs := #[.int .i64 0, .int .i64 0, .int .i64 0]) (t := 55) ?hr ?_; (case hd => rfl); (case hg => rfl); (case hr => first | (go_simp; done) | (go_simp; rfl)); intro gb457 hg w58 hbox hb; have n0_ := Aside0.mk (Kd.R_below (by (with_reducible repeat (first | apply Kd.R_alloc | apply Kd.R_drewN | apply Kd.R_drew)); exact HO_7.out) hb); have n1_ := Aside0.mk (Kd.R_below (by (with_reducible repeat (first | apply Kd.R_alloc | apply Kd.R_drewN | apply Kd.R_drew)); exact HO_8.out) hb); have n2_ := Aside0.mk (IsS36.below (by repeat (first | (with_reducible first | exact HI0.out | apply IsS36.alloc | apply IsS36.drewN | apply IsS36.drew) | exact HI0.out)) hb); have n3_ := Aside0.mk (KeepBut.trans (by repeat (first | (with_reducible first | exact HK.out | apply KeepBut.set_ | apply keep_drewN | apply keep_drew | apply keep_alloc) | exact HK.out)) (KeepBut.of_below hb g none) (.inl rfl)); have n4_ := Aside0.mk (below_step (by repeat (first | (with_reducible first | exact HB.out | apply below_alloc | apply pw_below_drewN | apply below_drew1 | refine below_set ?_ (IsS36.ge HI0.out)) | exact HB.out)) hb); have n5_ := Aside0.mk (hbox); have n6_ := Aside0.mk ((by rw [hg]; exact (keep_size (w := w) (g := g) (row := none) (by repeat (first | (with_reducible first | exact HK.out | apply KeepBut.set_ | apply keep_drewN | apply keep_drew | apply keep_alloc) | exact HK.out))) : w.heap.size ≤ gb457)); have n7_ := Aside0.mk ((Nat.le_trans HW0.out (by rw [hg]; exact (keep_size (w := w) (g := g) (row := none) (by repeat (first | (with_reducible first | exact HK.out | apply KeepBut.set_ | apply keep_drewN | apply keep_drew | apply keep_alloc) | exact HK.out))) : w.heap.size ≤ gb457) : w0.heap.size ≤ gb457)); have n8_ := Aside0.mk ((by rw [hg]; exact Nat.ne_of_lt (IsS36.lt (show IsS36 w0 _ g s0_0 s0_1 from by repeat (first | (with_reducible first | exact HI0.out | apply IsS36.alloc | apply IsS36.drewN | apply IsS36.drew) | exact HI0.out))) : g ≠ gb457)); have n9_ := Aside0.mk ((by rw [hg]; exact Nat.ne_of_gt (IsS36.lt (show IsS36 w0 _ g s0_0 s0_1 from by repeat (first | (with_reducible first | exact HI0.out | apply IsS36.alloc | apply IsS36.drewN | apply IsS36.drew) | exact HI0.out))) : gb457 ≠ g)); clear HO_7; clear HO_8; clear HI0; clear HK; clear HB; have HO_7 := n0_; have HO_8 := n1_; have HI0 := n2_; have HK := n3_; have HB := n4_; have BK457 := n5_; have GW457 := n6_; have GE457 := n7_; have NB0_457 := n8_; have NB457_0 := n9_; clear n0_ n1_ n2_ n3_ n4_ n5_ n6_ n7_ n8_ n9_; clear hb hbox hg; have hnb59 := NB457_0.out; have hnc59 := NB0_457.out; have hcz60_0 : w58.cell? ⟨gb457, 0, none⟩ = some (.int .i64 0) := (blk_cell BK457.out 0).trans rfl; have hcz60_1 : w58.cell? ⟨gb457, 1, none⟩ = some (.int .i64 0) := (blk_cell BK457.out 1).trans rfl; have hcz60_2 : w58.cell? ⟨gb457, 2, none⟩ = some (.int .i64 0) := (blk_cell BK457.out 2).trans rfl; have hfz60_0 := blk_frozen BK457.out 0; have hfz60_1 := blk_frozen BK457.out 1; have hfz60_2 := blk_frozen BK457.out 2))
                  repeat (go_quiet (fail); try go_wp2)
                  go_roundg k2
                  case measure => have := HK1.out; have := HK2.out; omega
                  case rel => exact ⟨(x7_2), (x8_2), (wrap64 (x10_2 + 1)), (by first | rfl | (simp; done) | (simp [*]; done)), H', ⟨by have := HK1.out; have := HK2.out; omega⟩, ⟨by (with_reducible repeat (first | apply Kd.R_alloc | apply Kd.R_drewN | apply Kd.R_drew)); exact Kd.R_mono (Kd.R_far (p := ⟨gb457, 2, none⟩) (Kd.R_far (p := ⟨gb457, 1, none⟩) (Kd.R_far (p := ⟨gb457, 0, none⟩) (Kd.R_types HO_7.out BK457.out (by decide)) (fun _ hk => hk.2) (.int .i64 ((rd_T55 s0_1 x10_2).f0))) (fun _ hk => hk.2) (.int .i64 ((rd_T55 s0_1 x10_2).f1))) (fun _ hk => hk.2) (.int .i64 ((rd_T55 s0_1 x10_2).f2))) (fun _ hk => hk.1)⟩, ⟨by (with_reducible repeat (first | apply Kd.R_alloc | apply Kd.R_drewN | apply Kd.R_drew)); exact Kd.R_mono (Kd.R_far (p := ⟨gb457, 2, none⟩) (Kd.R_far (p := ⟨gb457, 1, none⟩) (Kd.R_far (p := ⟨gb457, 0, none⟩) (Kd.R_types HO_8.out BK457.out (by decide)) (fun _ hk => hk.2) (.int .i64 ((rd_T55 s0_1 x10_2).f0))) (fun _ hk => hk.2) (.int .i64 ((rd_T55 s0_1 x10_2).f1))) (fun _ hk => hk.2) (.int .i64 ((rd_T55 s0_1 x10_2).f2))) (fun _ hk => hk.1)⟩, ⟨by repeat (first | (with_reducible first | exact HI0.out | apply IsS36.alloc | apply IsS36.drewN | apply IsS36.drew | refine IsS36.far ?_ NB0_457.out _) | exact HI0.out)⟩, ⟨by repeat (first | (with_reducible first | exact HK.out | apply KeepBut.set_ | apply keep_drewN | apply keep_drew | apply keep_alloc | refine keep_far ?_ GW457.out _) | exact HK.out)⟩, ⟨by repeat (first | (with_reducible first | exact HB.out | apply below_alloc | apply pw_below_drewN | apply below_drew1 | refine below_set ?_ (IsS36.ge HI0.out) | refine below_set ?_ GE457.out) | exact HB.out)⟩⟩
              · rw [if_neg c14] at H
                exact absurd H (by simp)
            · rw [if_neg c13] at H
              have c13b0 : decide (x10_2 < (s0_1.length : Int)) = false := decide_eq_false c13
              clear c13
              have H' := Aside0.mk H
              clear H
              obtain ⟨ASz61_0, cSz61_0, ASz61_1, cSz61_1, HGz61, hgz61, HSz61_0, HSz61_1⟩ := HI0.out
              have hcz61_0 := cellS36_0 HGz61
              have hcz61_1 := cellS36_1 HGz61
              clear HGz61 hgz61
              go_wp2
              repeat (go_quiet (fail); try go_wp2)
              go_loopg [13] k2 (fun kq v13 w' => ∃ (x7_3 : List Int) (x8_3 : List Int) (x13_3 : Bool), v13 = .bool x13_3 ∧ Aside0 (spec_l08Far.l2 kq x7_3 x8_3 x13_3 s0_0 s0_1 = some (r1, r2)) ∧ Aside0 (kq ≤ k2) ∧ Aside0 (Kd.R (Kd.int .i64) 2 w' w.heap.size (fun k_ => some k_ ≠ (u8 : Value).ownBlock) u7 x7_3) ∧ Aside0 (Kd.R (Kd.int .i64) 2 w' w.heap.size (fun k_ => some k_ ≠ (u7 : Value).ownBlock) u8 x8_3) ∧ Aside0 (IsS36 w0 w' g s0_0 s0_1) ∧ Aside0 (KeepBut w w' g none) ∧ Aside0 (Below w0.heap.size w0 w'))
              case atStart => exact ⟨(x7_2), (x8_2), (true), (by first | rfl | (simp; done) | (simp [*]; done)), H', ⟨Nat.le_refl _⟩, ⟨by (with_reducible repeat (first | apply Kd.R_alloc | apply Kd.R_drewN | apply Kd.R_drew)); exact HO_7.out⟩, ⟨by (with_reducible repeat (first | apply Kd.R_alloc | apply Kd.R_drewN | apply Kd.R_drew)); exact HO_8.out⟩, ⟨by repeat (first | (with_reducible first | exact HI0.out | apply IsS36.alloc | apply IsS36.drewN | apply IsS36.drew) | exact HI0.out)⟩, ⟨by repeat (first | (with_reducible first | exact HK.out | apply KeepBut.set_ | apply keep_drewN | apply keep_drew | apply keep_alloc) | exact HK.out)⟩, ⟨by repeat (first | (with_reducible first | exact HB.out | apply below_alloc | apply pw_below_drewN | apply below_drew1 | refine below_set ?_ (IsS36.ge HI0.out)) | exact HB.out)⟩⟩
              case round =>
                clear H'
                try clear c1
                try clear c2
                try clear p2
                try clear c3
                try clear c4
                try clear p4
                try clear q4
                try clear hx4
                try clear hf4
                try clear c5
                try clear c6
                try clear p6
                try clear c8
                try clear c8b0
                try clear c9
                try clear c10
                try clear c13
                try clear c13b0
                try clear c14
                try clear c14b0
                try clear c15
                try clear c15b0
                try clear c15b1
                try clear c16
                try clear c16b0
                try clear c17
                try clear c17b0
                try clear c18
                try clear c18b0
                try clear c19
                try clear c19b0
                try clear c23
                try clear c26
                try clear c26b0
                try clear c27
                try clear c27b0
                try clear c28
                try clear c31
                try clear c31b0
                try clear c32
                try clear c35
                try clear c35b0
                try clear c35b1
                try clear c36
                try clear c36b0
                try clear c37
                try clear c41
                try clear c44
                try clear c45
                try clear c45b0
                try clear p45
                try clear q45
                try clear hx45
                try clear c46
                try clear c46b0
                try clear p46
                try clear q46
                try clear hx46
                try clear p47
                try clear q47
                try clear hx47
                try clear hf47
                try clear c48
                try clear c48b0
                try clear p49
                try clear q49
                try clear hx49
                try clear hf49
                try clear c50
                try clear c59
                try clear hcz21_0
                try clear hcz21_1
                try clear hcz24_0
                try clear hcz24_1
                try clear hcz24_2
                try clear hcz25_0
                try clear hcz25_1
                try clear hcz29_0
                try clear hcz29_1
                try clear hcz29_2
                try clear hcz33_0
                try clear hcz33_1
                try clear hcz33_2
                try clear hcz38_0
                try clear hcz38_1
                try clear hcz38_2
                try clear hcz3_0
                try clear hcz3_1
                try clear hcz42_0
                try clear hcz42_1
                try clear hcz42_2
                try clear hcz51_0
                try clear hcz51_1
                try clear hcz51_2
                try clear hcz54_0
                try clear hcz54_1
                try clear hcz54_2
                try clear hcz57_0
                try clear hcz57_1
                try clear hcz60_0
                try clear hcz60_1
                try clear hcz60_2
                try clear hcz61_0
                try clear hcz61_1
                try clear hfz24_0
                try clear hfz24_1
                try clear hfz24_2
                try clear hfz29_0
                try clear hfz29_1
                try clear hfz29_2
                try clear hfz33_0
                try clear hfz33_1
                try clear hfz33_2
                try clear hfz38_0
                try clear hfz38_1
                try clear hfz38_2
                try clear hfz42_0
                try clear hfz42_1
                try clear hfz42_2
                try clear hfz51_0
                try clear hfz51_1
                try clear hfz51_2
                try clear hfz54_0
                try clear hfz54_1
                try clear hfz54_2
                try clear hfz60_0
                try clear hfz60_1
                try clear hfz60_2
                try clear hx456_0
                try clear hx456_1
                try clear hx456_2
                try clear hx458_0
                try clear hx459_0
                try clear hx460_0
                try clear hx461_0
                try clear hx462_0
                try clear hx463_0
                try clear hx47_0
                try clear hx49_0
                try clear p2
                try clear p4
                try clear p456
                try clear p458
                try clear p459
                try clear p460
                try clear p461
                try clear p462
                try clear p463
                try clear p47
                try clear p49
                try clear p6
                try clear q4
                try clear q456
                try clear q458
                try clear q459
                try clear q460
                try clear q461
                try clear q462
                try clear q463
                try clear q47
                try clear q49
                obtain ⟨x7_3, x8_3, x13_3, rfl, HA, HK3, HO_7, HO_8, HI0, HK, HB⟩ := hrel
                cases gk with
                | zero => exact absurd HA.out (by simp [spec_l08Far.l2])
                | succ k3 =>
                  have H := HA.out
                  clear HA
                  simp only [spec_l08Far.l2] at H
                  by_cases c62 : x13_3 = true
                  · subst c62
                    have H1 : (spec_l08Far.l3 k3 x7_3 x8_3 false 0 s0_0 s0_1) = some (r1, r2) := by rw [if_pos rfl] at H; exact H
                    clear H
                    have H := H1
                    clear H1
                    have H' := Aside0.mk H
                    clear H
                    go_wp2
                    repeat (go_quiet (fail); try go_wp2)
                    go_loopg [13, 14] k3 (fun kq v13 v14 w' => ∃ (x7_4 : List Int) (x8_4 : List Int) (x13_4 : Bool) (x14_4 : Int), v13 = .bool x13_4 ∧ v14 = .int .i64 x14_4 ∧ Aside0 (spec_l08Far.l3 kq x7_4 x8_4 x13_4 x14_4 s0_0 s0_1 = some (r1, r2)) ∧ Aside0 (kq ≤ k3) ∧ Aside0 (Kd.R (Kd.int .i64) 2 w' w.heap.size (fun k_ => some k_ ≠ (u8 : Value).ownBlock) u7 x7_4) ∧ Aside0 (Kd.R (Kd.int .i64) 2 w' w.heap.size (fun k_ => some k_ ≠ (u7 : Value).ownBlock) u8 x8_4) ∧ Aside0 (IsS36 w0 w' g s0_0 s0_1) ∧ Aside0 (KeepBut w w' g none) ∧ Aside0 (Below w0.heap.size w0 w'))
                    case atStart => exact ⟨(x7_3), (x8_3), (false), (0), (by first | rfl | (simp; done) | (simp [*]; done)), (by first | rfl | (simp; done) | (simp [*]; done)), H', ⟨Nat.le_refl _⟩, ⟨by (with_reducible repeat (first | apply Kd.R_alloc | apply Kd.R_drewN | apply Kd.R_drew)); exact HO_7.out⟩, ⟨by (with_reducible repeat (first | apply Kd.R_alloc | apply Kd.R_drewN | apply Kd.R_drew)); exact HO_8.out⟩, ⟨by repeat (first | (with_reducible first | exact HI0.out | apply IsS36.alloc | apply IsS36.drewN | apply IsS36.drew) | exact HI0.out)⟩, ⟨by repeat (first | (with_reducible first | exact HK.out | apply KeepBut.set_ | apply keep_drewN | apply keep_drew | apply keep_alloc) | exact HK.out)⟩, ⟨by repeat (first | (with_reducible first | exact HB.out | apply below_alloc | apply pw_below_drewN | apply below_drew1 | refine below_set ?_ (IsS36.ge HI0.out)) | exact HB.out)⟩⟩
                    case round =>
                      clear H'
                      try clear c1
                      try clear c2
                      try clear p2
                      try clear c3
                      try clear c4
                      try clear p4
                      try clear q4
                      try clear hx4
                      try clear hf4
                      try clear c5
                      try clear c6
                      try clear p6
                      try clear c8
                      try clear c8b0
                      try clear c9
                      try clear c10
                      try clear c13
                      try clear c13b0
                      try clear c14
                      try clear c14b0
                      try clear c15
                      try clear c15b0
                      try clear c15b1
                      try clear c16
                      try clear c16b0
                      try clear c17
                      try clear c17b0
                      try clear c18
                      try clear c18b0
                      try clear c19
                      try clear c19b0
                      try clear c23
                      try clear c26
                      try clear c26b0
                      try clear c27
                      try clear c27b0
                      try clear c28
                      try clear c31
                      try clear c31b0
                      try clear c32
                      try clear c35
                      try clear c35b0
                      try clear c35b1
                      try clear c36
                      try clear c36b0
                      try clear c37
                      try clear c41
                      try clear c44
                      try clear c45
                      try clear c45b0
                      try clear p45
                      try clear q45
                      try clear hx45
                      try clear c46
                      try clear c46b0
                      try clear p46
                      try clear q46
                      try clear hx46
                      try clear p47
                      try clear q47
                      try clear hx47
                      try clear hf47
                      try clear c48
                      try clear c48b0
                      try clear p49
                      try clear q49
                      try clear hx49
                      try clear hf49
                      try clear c50
                      try clear c59
                      try clear c62
                      try clear hcz21_0
                      try clear hcz21_1
                      try clear hcz24_0
                      try clear hcz24_1
                      try clear hcz24_2
                      try clear hcz25_0
                      try clear hcz25_1
                      try clear hcz29_0
                      try clear hcz29_1
                      try clear hcz29_2
                      try clear hcz33_0
                      try clear hcz33_1
                      try clear hcz33_2
                      try clear hcz38_0
                      try clear hcz38_1
                      try clear hcz38_2
                      try clear hcz3_0
                      try clear hcz3_1
                      try clear hcz42_0
                      try clear hcz42_1
                      try clear hcz42_2
                      try clear hcz51_0
                      try clear hcz51_1
                      try clear hcz51_2
                      try clear hcz54_0
                      try clear hcz54_1
                      try clear hcz54_2
                      try clear hcz57_0
                      try clear hcz57_1
                      try clear hcz60_0
                      try clear hcz60_1
                      try clear hcz60_2
                      try clear hcz61_0
                      try clear hcz61_1
                      try clear hfz24_0
                      try clear hfz24_1
                      try clear hfz24_2
                      try clear hfz29_0
                      try clear hfz29_1
                      try clear hfz29_2
                      try clear hfz33_0
                      try clear hfz33_1
                      try clear hfz33_2
                      try clear hfz38_0
                      try clear hfz38_1
                      try clear hfz38_2
                      try clear hfz42_0
                      try clear hfz42_1
                      try clear hfz42_2
                      try clear hfz51_0
                      try clear hfz51_1
                      try clear hfz51_2
                      try clear hfz54_0
                      try clear hfz54_1
                      try clear hfz54_2
                      try clear hfz60_0
                      try clear hfz60_1
                      try clear hfz60_2
                      try clear hx456_0
                      try clear hx456_1
                      try clear hx456_2
                      try clear hx458_0
                      try clear hx459_0
                      try clear hx460_0
                      try clear hx461_0
                      try clear hx462_0
                      try clear hx463_0
                      try clear hx47_0
                      try clear hx49_0
                      try clear p2
                      try clear p4
                      try clear p45
                      try clear p456
                      try clear p458
                      try clear p459
                      try clear p46
                      try clear p460
                      try clear p461
                      try clear p462
                      try clear p463
                      try clear p47
                      try clear p49
                      try clear p6
                      try clear q4
                      try clear q45
                      try clear q456
                      try clear q458
                      try clear q459
                      try clear q46
                      try clear q460
                      try clear q461
                      try clear q462
                      try clear q463
                      try clear q47
                      try clear q49
                      obtain ⟨x7_4, x8_4, x13_4, x14_4, rfl, rfl, HA, HK4, HO_7, HO_8, HI0, HK, HB⟩ := hrel
                      cases gk with
                      | zero => exact absurd HA.out (by simp [spec_l08Far.l3])
                      | succ k4 =>
                        have H := HA.out
                        clear HA
                        simp only [spec_l08Far.l3] at H
                        by_cases c63 : x14_4 < (s0_1.length : Int)
                        · rw [if_pos c63] at H
                          have c63b0 : decide (x14_4 < (s0_1.length : Int)) = true := decide_eq_true c63
                          clear c63
                          by_cases c64 : 0 ≤ x14_4
                          · rw [if_pos c64] at H
                            have c64b0 : decide (0 ≤ x14_4) = true := decide_eq_true c64
                            clear c64
                            by_cases c65 : 0 ≤ ((rd_T55 s0_1 x14_4).f0)
                            · rw [if_pos c65] at H
                              have c65b0 : decide (0 ≤ ((rd_T55 s0_1 x14_4).f0)) = true := decide_eq_true c65
                              clear c65
                              by_cases c66 : ((rd_T55 s0_1 x14_4).f0) < (x7_4.length : Int)
                              · rw [if_pos c66] at H
                                have c66b0 : decide (((rd_T55 s0_1 x14_4).f0) < (x7_4.length : Int)) = true := decide_eq_true c66
                                clear c66
                                by_cases c67 : (rd x7_4 ((rd_T55 s0_1 x14_4).f0)) < 0
                                · rw [if_pos c67] at H
                                  have c67b0 : decide ((rd x7_4 ((rd_T55 s0_1 x14_4).f0)) < 0) = true := decide_eq_true c67
                                  clear c67
                                  have H' := Aside0.mk H
                                  clear H
                                  obtain ⟨ASz68_0, cSz68_0, ASz68_1, cSz68_1, HGz68, hgz68, HSz68_0, HSz68_1⟩ := HI0.out
                                  have hcz68_0 := cellS36_0 HGz68
                                  have hcz68_1 := cellS36_1 HGz68
                                  clear HGz68 hgz68
                                  have p466 : 0 ≤ (x14_4 : Int) := of_decide_eq_true (by first | (with_reducible assumption) | assumption)
                                  have q466 : x14_4 < (s0_1.length : Int) := of_decide_eq_true (by first | (with_reducible assumption) | assumption)
                                  obtain ⟨ad466, e466, hx466_0, hx466_1, hx466_2⟩ := at_T55 HSz68_1 x14_4 p466 q466
                                  cases e466
                                  replace hx466_0 := pw_cell_below HB.out hx466_0
                                  replace hx466_1 := pw_cell_below HB.out hx466_1
                                  replace hx466_2 := pw_cell_below HB.out hx466_2
                                  replace p466 := eq_true p466
                                  replace q466 := eq_true q466
                                  go_wp2_with (first | ((with_reducible refine gate_dst (N := 15) rfl ?_); refine box_event ?hg (N := 15) ?hd (cs := #[.int .i64 0, .int .i64 0, .int .i64 0]) (t := 55) ?hr ?_; (case hd => rfl); (case hg => rfl); (case hr => first | (go_simp; done) | (go_simp; rfl)); intro gb467 hg w69 hbox hb; have n0_ := Aside0.mk (Kd.R_below (by (with_reducible repeat (first | apply Kd.R_alloc | apply Kd.R_drewN | apply Kd.R_drew)); exact HO_7.out) hb); have n1_ := Aside0.mk (Kd.R_below (by (with_reducible repeat (first | apply Kd.R_alloc | apply Kd.R_drewN | apply Kd.R_drew)); exact HO_8.out) hb); have n2_ := Aside0.mk (IsS36.below (by repeat (first | (with_reducible first | exact HI0.out | apply IsS36.alloc | apply IsS36.drewN | apply IsS36.drew) | exact HI0.out)) hb); have n3_ := Aside0.mk (KeepBut.trans (by repeat (first | (with_reducible first | exact HK.out | apply KeepBut.set_ | apply keep_drewN | apply keep_drew | apply keep_alloc) | exact HK.out)) (KeepBut.of_below hb g none) (.inl rfl)); have n4_ := Aside0.mk (below_step (by repeat (first | (with_reducible first | exact HB.out | apply below_alloc | apply pw_below_drewN | apply below_drew1 | refine below_set ?_ (IsS36.ge HI0.out)) | exact HB.out)) hb); have n5_ := Aside0.mk (hbox); have n6_ := Aside0.mk ((by rw [hg]; exact (keep_size (w := w) (g := g) (row := none) (by repeat (first | (with_reducible first | exact HK.out | apply KeepBut.set_ | apply keep_drewN | apply keep_drew | apply keep_alloc) | exact HK.out))) : w.heap.size ≤ gb467)); have n7_ := Aside0.mk ((Nat.le_trans HW0.out (by rw [hg]; exact (keep_size (w := w) (g := g) (row := none) (by repeat (first | (with_reducible first | exact HK.out | apply KeepBut.set_ | apply keep_drewN | apply keep_drew | apply keep_alloc) | exact HK.out))) : w.heap.size ≤ gb467) : w0.heap.size ≤ gb467)); have n8_ := Aside0.mk ((by rw [hg]; exact Nat.ne_of_lt (IsS36.lt (show IsS36 w0 _ g s0_0 s0_1 from by repeat (first | (with_reducible first | exact HI0.out | apply IsS36.alloc | apply IsS36.drewN | apply IsS36.drew) | exact HI0.out))) : g ≠ gb467)); have n9_ := Aside0.mk ((by rw [hg]; exact Nat.ne_of_gt (IsS36.lt (show IsS36 w0 _ g s0_0 s0_1 from by repeat (first | (with_reducible first | exact HI0.out | apply IsS36.alloc | apply IsS36.drewN | apply IsS36.drew) | exact HI0.out))) : gb467 ≠ g)); clear HO_7; clear HO_8; clear HI0; clear HK; clear HB; have HO_7 := n0_; have HO_8 := n1_; have HI0 := n2_; have HK := n3_; have HB := n4_; have BK467 := n5_; have GW467 := n6_; have GE467 := n7_; have NB0_467 := n8_; have NB467_0 := n9_; clear n0_ n1_ n2_ n3_ n4_ n5_ n6_ n7_ n8_ n9_; clear hb hbox hg; have hnb70 := NB467_0.out; have hnc70 := NB0_467.out; have hcz71_0 : w69.cell? ⟨gb467, 0, none⟩ = some (.int .i64 0) := (blk_cell BK467.out 0).trans rfl; have hcz71_1 : w69.cell? ⟨gb467, 1, none⟩ = some (.int .i64 0) := (blk_cell BK467.out 1).trans rfl; have hcz71_2 : w69.cell? ⟨gb467, 2, none⟩ = some (.int .i64 0) := (blk_cell BK467.out 2).trans rfl; have hfz71_0 := blk_frozen BK467.out 0; have hfz71_1 := blk_frozen BK467.out 1; have hfz71_2 := blk_frozen BK467.out 2; obtain ⟨Ao72, co72, eo72⟩ := Kd.R_slice HO_7.out; subst eo72; have p468 : 0 ≤ (((rd_T55 s0_1 x14_4).f0) : Int) := of_decide_eq_true (by first | (with_reducible assumption) | assumption); have q468 : ((rd_T55 s0_1 x14_4).f0) < (x7_4.length : Int) := of_decide_eq_true (by first | (with_reducible assumption) | assumption); obtain ⟨ad468, e468, hx468_0⟩ := Kd.at_int (Kd.R_reads' HO_7.out).2.2 ((rd_T55 s0_1 x14_4).f0) p468 q468; cases e468; have hn468_0 : ad468.block ≠ gb467 := Kd.own_blk (Kd.R_ne HO_7.out BK467.out (by decide)); have hn468_1 : ad468.block ≠ gb467 := Kd.own_blk (Kd.R_ne HO_7.out BK467.out (by decide)); have hn468_2 : ad468.block ≠ gb467 := Kd.own_blk (Kd.R_ne HO_7.out BK467.out (by decide)); replace hx468_0 := (cell_far (p := ⟨gb467, 0, none⟩) (by first | (rw [add_block]; exact hn468_0) | (show (Addr.add _ _).block ≠ _; rw [add_block]; exact hn468_0) | exact hn468_0) (.int .i64 ((rd_T55 s0_1 x14_4).f0))).trans hx468_0; replace hx468_0 := (cell_far (p := ⟨gb467, 1, none⟩) (by first | (rw [add_block]; exact hn468_1) | (show (Addr.add _ _).block ≠ _; rw [add_block]; exact hn468_1) | exact hn468_1) (.int .i64 ((rd_T55 s0_1 x14_4).f1))).trans hx468_0; replace hx468_0 := (cell_far (p := ⟨gb467, 2, none⟩) (by first | (rw [add_block]; exact hn468_2) | (show (Addr.add _ _).block ≠ _; rw [add_block]; exact hn468_2) | exact hn468_2) (.int .i64 ((rd_T55 s0_1 x14_4).f2))).trans hx468_0; (try have hy468_0 := fun (n_ : Nat) => (show (((((w69.drewN n_).setCell ⟨gb467, 0, none⟩ (.int .i64 ((rd_T55 s0_1 x14_4).f0))).setCell ⟨gb467, 1, none⟩ (.int .i64 ((rd_T55 s0_1 x14_4).f1))).setCell ⟨gb467, 2, none⟩ (.int .i64 ((rd_T55 s0_1 x14_4).f2)))).cell? _ = some _ from hx468_0)); clear hn468_0; clear hn468_1; clear hn468_2; replace p468 := eq_true p468; replace q468 := eq_true q468))
                                  repeat (go_quiet (fail); try go_wp2)
                                  go_roundg k4
                                  case measure => have := HK1.out; have := HK2.out; have := HK3.out; have := HK4.out; omega
                                  case rel => exact ⟨(x7_4), (x8_4), (x13_4), (wrap64 (x14_4 + 1)), (by first | rfl | (simp; done) | (simp [*]; done)), (by first | rfl | (simp; done) | (simp [*]; done)), H', ⟨by have := HK1.out; have := HK2.out; have := HK3.out; have := HK4.out; omega⟩, ⟨by (with_reducible repeat (first | apply Kd.R_alloc | apply Kd.R_drewN | apply Kd.R_drew)); exact Kd.R_mono (Kd.R_far (p := ⟨gb467, 2, none⟩) (Kd.R_far (p := ⟨gb467, 1, none⟩) (Kd.R_far (p := ⟨gb467, 0, none⟩) (Kd.R_types HO_7.out BK467.out (by decide)) (fun _ hk => hk.2) (.int .i64 ((rd_T55 s0_1 x14_4).f0))) (fun _ hk => hk.2) (.int .i64 ((rd_T55 s0_1 x14_4).f1))) (fun _ hk => hk.2) (.int .i64 ((rd_T55 s0_1 x14_4).f2))) (fun _ hk => hk.1)⟩, ⟨by (with_reducible repeat (first | apply Kd.R_alloc | apply Kd.R_drewN | apply Kd.R_drew)); exact Kd.R_mono (Kd.R_far (p := ⟨gb467, 2, none⟩) (Kd.R_far (p := ⟨gb467, 1, none⟩) (Kd.R_far (p := ⟨gb467, 0, none⟩) (Kd.R_types HO_8.out BK467.out (by decide)) (fun _ hk => hk.2) (.int .i64 ((rd_T55 s0_1 x14_4).f0))) (fun _ hk => hk.2) (.int .i64 ((rd_T55 s0_1 x14_4).f1))) (fun _ hk => hk.2) (.int .i64 ((rd_T55 s0_1 x14_4).f2))) (fun _ hk => hk.1)⟩, ⟨by repeat (first | (with_reducible first | exact HI0.out | apply IsS36.alloc | apply IsS36.drewN | apply IsS36.drew | refine IsS36.far ?_ NB0_467.out _) | exact HI0.out)⟩, ⟨by repeat (first | (with_reducible first | exact HK.out | apply KeepBut.set_ | apply keep_drewN | apply keep_drew | apply keep_alloc | refine keep_far ?_ GW467.out _) | exact HK.out)⟩, ⟨by repeat (first | (with_reducible first | exact HB.out | apply below_alloc | apply pw_below_drewN | apply below_drew1 | refine below_set ?_ (IsS36.ge HI0.out) | refine below_set ?_ GE467.out) | exact HB.out)⟩⟩
                                · rw [if_neg c67] at H
                                  have c67b0 : decide ((rd x7_4 ((rd_T55 s0_1 x14_4).f0)) < 0) = false := decide_eq_false c67
                                  clear c67
                                  by_cases c73 : ((rd_T55 s0_1 x14_4).f0) < (x8_4.length : Int)
                                  · rw [if_pos c73] at H
                                    have c73b0 : decide (((rd_T55 s0_1 x14_4).f0) < (x8_4.length : Int)) = true := decide_eq_true c73
                                    clear c73
                                    by_cases c74 : 0 ≤ ((rd_T55 s0_1 x14_4).f1)
                                    · rw [if_pos c74] at H
                                      have c74b0 : decide (0 ≤ ((rd_T55 s0_1 x14_4).f1)) = true := decide_eq_true c74
                                      clear c74
                                      by_cases c75 : ((rd_T55 s0_1 x14_4).f1) < (s0_0.length : Int)
                                      · rw [if_pos c75] at H
                                        have c75b0 : decide (((rd_T55 s0_1 x14_4).f1) < (s0_0.length : Int)) = true := decide_eq_true c75
                                        clear c75
                                        have HC76 := Aside0.mk H
                                        clear H
                                        obtain ⟨ASz77_0, cSz77_0, ASz77_1, cSz77_1, HGz77, hgz77, HSz77_0, HSz77_1⟩ := HI0.out
                                        have hcz77_0 := cellS36_0 HGz77
                                        have hcz77_1 := cellS36_1 HGz77
                                        clear HGz77 hgz77
                                        have p466 : 0 ≤ (x14_4 : Int) := of_decide_eq_true (by first | (with_reducible assumption) | assumption)
                                        have q466 : x14_4 < (s0_1.length : Int) := of_decide_eq_true (by first | (with_reducible assumption) | assumption)
                                        obtain ⟨ad466, e466, hx466_0, hx466_1, hx466_2⟩ := at_T55 HSz77_1 x14_4 p466 q466
                                        cases e466
                                        replace hx466_0 := pw_cell_below HB.out hx466_0
                                        replace hx466_1 := pw_cell_below HB.out hx466_1
                                        replace hx466_2 := pw_cell_below HB.out hx466_2
                                        replace p466 := eq_true p466
                                        replace q466 := eq_true q466
                                        go_upto_region 28 with (first | ((with_reducible refine gate_dst (N := 15) rfl ?_); refine box_event ?hg (N := 15) ?hd (cs := #[.int .i64 0, .int .i64 0, .int .i64 0]) (t := 55) ?hr ?_; (case hd => rfl); (case hg => rfl); (case hr => first | (go_simp; done) | (go_simp; rfl)); intro gb467 hg w78 hbox hb; have n0_ := Aside0.mk (Kd.R_below (by (with_reducible repeat (first | apply Kd.R_alloc | apply Kd.R_drewN | apply Kd.R_drew)); exact HO_7.out) hb); have n1_ := Aside0.mk (Kd.R_below (by (with_reducible repeat (first | apply Kd.R_alloc | apply Kd.R_drewN | apply Kd.R_drew)); exact HO_8.out) hb); have n2_ := Aside0.mk (IsS36.below (by repeat (first | (with_reducible first | exact HI0.out | apply IsS36.alloc | apply IsS36.drewN | apply IsS36.drew) | exact HI0.out)) hb); have n3_ := Aside0.mk (KeepBut.trans (by repeat (first | (with_reducible first | exact HK.out | apply KeepBut.set_ | apply keep_drewN | apply keep_drew | apply keep_alloc) | exact HK.out)) (KeepBut.of_below hb g none) (.inl rfl)); have n4_ := Aside0.mk (below_step (by repeat (first | (with_reducible first | exact HB.out | apply below_alloc | apply pw_below_drewN | apply below_drew1 | refine below_set ?_ (IsS36.ge HI0.out)) | exact HB.out)) hb); have n5_ := Aside0.mk (hbox); have n6_ := Aside0.mk ((by rw [hg]; exact (keep_size (w := w) (g := g) (row := none) (by repeat (first | (with_reducible first | exact HK.out | apply KeepBut.set_ | apply keep_drewN | apply keep_drew | apply keep_alloc) | exact HK.out))) : w.heap.size ≤ gb467)); have n7_ := Aside0.mk ((Nat.le_trans HW0.out (by rw [hg]; exact (keep_size (w := w) (g := g) (row := none) (by repeat (first | (with_reducible first | exact HK.out | apply KeepBut.set_ | apply keep_drewN | apply keep_drew | apply keep_alloc) | exact HK.out))) : w.heap.size ≤ gb467) : w0.heap.size ≤ gb467)); have n8_ := Aside0.mk ((by rw [hg]; exact Nat.ne_of_lt (IsS36.lt (show IsS36 w0 _ g s0_0 s0_1 from by repeat (first | (with_reducible first | exact HI0.out | apply IsS36.alloc | apply IsS36.drewN | apply IsS36.drew) | exact HI0.out))) : g ≠ gb467)); have n9_ := Aside0.mk ((by rw [hg]; exact Nat.ne_of_gt (IsS36.lt (show IsS36 w0 _ g s0_0 s0_1 from by repeat (first | (with_reducible first | exact HI0.out | apply IsS36.alloc | apply IsS36.drewN | apply IsS36.drew) | exact HI0.out))) : gb467 ≠ g)); clear HO_7; clear HO_8; clear HI0; clear HK; clear HB; have HO_7 := n0_; have HO_8 := n1_; have HI0 := n2_; have HK := n3_; have HB := n4_; have BK467 := n5_; have GW467 := n6_; have GE467 := n7_; have NB0_467 := n8_; have NB467_0 := n9_; clear n0_ n1_ n2_ n3_ n4_ n5_ n6_ n7_ n8_ n9_; clear hb hbox hg; have hnb79 := NB467_0.out; have hnc79 := NB0_467.out; have hcz80_0 : w78.cell? ⟨gb467, 0, none⟩ = some (.int .i64 0) := (blk_cell BK467.out 0).trans rfl; have hcz80_1 : w78.cell? ⟨gb467, 1, none⟩ = some (.int .i64 0) := (blk_cell BK467.out 1).trans rfl; have hcz80_2 : w78.cell? ⟨gb467, 2, none⟩ = some (.int .i64 0) := (blk_cell BK467.out 2).trans rfl; have hfz80_0 := blk_frozen BK467.out 0; have hfz80_1 := blk_frozen BK467.out 1; have hfz80_2 := blk_frozen BK467.out 2; obtain ⟨Ao81, co81, eo81⟩ := Kd.R_slice HO_7.out; subst eo81; have p468 : 0 ≤ (((rd_T55 s0_1 x14_4).f0) : Int) := of_decide_eq_true (by first | (with_reducible assumption) | assumption); have q468 : ((rd_T55 s0_1 x14_4).f0) < (x7_4.length : Int) := of_decide_eq_true (by first | (with_reducible assumption) | assumption); obtain ⟨ad468, e468, hx468_0⟩ := Kd.at_int (Kd.R_reads' HO_7.out).2.2 ((rd_T55 s0_1 x14_4).f0) p468 q468; cases e468; have hn468_0 : ad468.block ≠ gb467 := Kd.own_blk (Kd.R_ne HO_7.out BK467.out (by decide)); have hn468_1 : ad468.block ≠ gb467 := Kd.own_blk (Kd.R_ne HO_7.out BK467.out (by decide)); have hn468_2 : ad468.block ≠ gb467 := Kd.own_blk (Kd.R_ne HO_7.out BK467.out (by decide)); replace hx468_0 := (cell_far (p := ⟨gb467, 0, none⟩) (by first | (rw [add_block]; exact hn468_0) | (show (Addr.add _ _).block ≠ _; rw [add_block]; exact hn468_0) | exact hn468_0) (.int .i64 ((rd_T55 s0_1 x14_4).f0))).trans hx468_0; replace hx468_0 := (cell_far (p := ⟨gb467, 1, none⟩) (by first | (rw [add_block]; exact hn468_1) | (show (Addr.add _ _).block ≠ _; rw [add_block]; exact hn468_1) | exact hn468_1) (.int .i64 ((rd_T55 s0_1 x14_4).f1))).trans hx468_0; replace hx468_0 := (cell_far (p := ⟨gb467, 2, none⟩) (by first | (rw [add_block]; exact hn468_2) | (show (Addr.add _ _).block ≠ _; rw [add_block]; exact hn468_2) | exact hn468_2) (.int .i64 ((rd_T55 s0_1 x14_4).f2))).trans hx468_0; (try have hy468_0 := fun (n_ : Nat) => (show (((((w78.drewN n_).setCell ⟨gb467, 0, none⟩ (.int .i64 ((rd_T55 s0_1 x14_4).f0))).setCell ⟨gb467, 1, none⟩ (.int .i64 ((rd_T55 s0_1 x14_4).f1))).setCell ⟨gb467, 2, none⟩ (.int .i64 ((rd_T55 s0_1 x14_4).f2)))).cell? _ = some _ from hx468_0)); clear hn468_0; clear hn468_1; clear hn468_2; replace p468 := eq_true p468; replace q468 := eq_true q468; have p469 : 0 ≤ (((rd_T55 s0_1 x14_4).f0) : Int) := of_decide_eq_true (by first | (with_reducible assumption) | assumption); have q469 : ((rd_T55 s0_1 x14_4).f0) < (x7_4.length : Int) := of_decide_eq_true (by first | (with_reducible assumption) | assumption); obtain ⟨ad469, e469, hx469_0⟩ := Kd.at_int (Kd.R_reads' HO_7.out).2.2 ((rd_T55 s0_1 x14_4).f0) p469 q469; obtain rfl : ad468 = ad469 := (by injection e469); have hn469_0 : ad468.block ≠ gb467 := Kd.own_blk (Kd.R_ne HO_7.out BK467.out (by decide)); have hn469_1 : ad468.block ≠ gb467 := Kd.own_blk (Kd.R_ne HO_7.out BK467.out (by decide)); have hn469_2 : ad468.block ≠ gb467 := Kd.own_blk (Kd.R_ne HO_7.out BK467.out (by decide)); replace hx469_0 := (cell_far (p := ⟨gb467, 0, none⟩) (by first | (rw [add_block]; exact hn469_0) | (show (Addr.add _ _).block ≠ _; rw [add_block]; exact hn469_0) | exact hn469_0) (.int .i64 ((rd_T55 s0_1 x14_4).f0))).trans hx469_0; replace hx469_0 := (cell_far (p := ⟨gb467, 1, none⟩) (by first | (rw [add_block]; exact hn469_1) | (show (Addr.add _ _).block ≠ _; rw [add_block]; exact hn469_1) | exact hn469_1) (.int .i64 ((rd_T55 s0_1 x14_4).f1))).trans hx469_0; replace hx469_0 := (cell_far (p := ⟨gb467, 2, none⟩) (by first | (rw [add_block]; exact hn469_2) | (show (Addr.add _ _).block ≠ _; rw [add_block]; exact hn469_2) | exact hn469_2) (.int .i64 ((rd_T55 s0_1 x14_4).f2))).trans hx469_0; (try have hy469_0 := fun (n_ : Nat) => (show (((((w78.drewN n_).setCell ⟨gb467, 0, none⟩ (.int .i64 ((rd_T55 s0_1 x14_4).f0))).setCell ⟨gb467, 1, none⟩ (.int .i64 ((rd_T55 s0_1 x14_4).f1))).setCell ⟨gb467, 2, none⟩ (.int .i64 ((rd_T55 s0_1 x14_4).f2)))).cell? _ = some _ from hx469_0)); clear hn469_0; clear hn469_1; clear hn469_2; replace p469 := eq_true p469; replace q469 := eq_true q469; obtain ⟨Ao82, co82, eo82⟩ := Kd.R_slice HO_8.out; subst eo82; have p470 : 0 ≤ (((rd_T55 s0_1 x14_4).f0) : Int) := of_decide_eq_true (by first | (with_reducible assumption) | assumption); have q470 : ((rd_T55 s0_1 x14_4).f0) < (x8_4.length : Int) := of_decide_eq_true (by first | (with_reducible assumption) | assumption); obtain ⟨ad470, e470, hx470_0⟩ := Kd.at_int (Kd.R_reads' HO_8.out).2.2 ((rd_T55 s0_1 x14_4).f0) p470 q470; cases e470; have hn470_0 : ad470.block ≠ gb467 := Kd.own_blk (Kd.R_ne HO_8.out BK467.out (by decide)); have hn470_1 : ad470.block ≠ gb467 := Kd.own_blk (Kd.R_ne HO_8.out BK467.out (by decide)); have hn470_2 : ad470.block ≠ gb467 := Kd.own_blk (Kd.R_ne HO_8.out BK467.out (by decide)); replace hx470_0 := (cell_far (p := ⟨gb467, 0, none⟩) (by first | (rw [add_block]; exact hn470_0) | (show (Addr.add _ _).block ≠ _; rw [add_block]; exact hn470_0) | exact hn470_0) (.int .i64 ((rd_T55 s0_1 x14_4).f0))).trans hx470_0; replace hx470_0 := (cell_far (p := ⟨gb467, 1, none⟩) (by first | (rw [add_block]; exact hn470_1) | (show (Addr.add _ _).block ≠ _; rw [add_block]; exact hn470_1) | exact hn470_1) (.int .i64 ((rd_T55 s0_1 x14_4).f1))).trans hx470_0; replace hx470_0 := (cell_far (p := ⟨gb467, 2, none⟩) (by first | (rw [add_block]; exact hn470_2) | (show (Addr.add _ _).block ≠ _; rw [add_block]; exact hn470_2) | exact hn470_2) (.int .i64 ((rd_T55 s0_1 x14_4).f2))).trans hx470_0; (try have hy470_0 := fun (n_ : Nat) => (show (((((w78.drewN n_).setCell ⟨gb467, 0, none⟩ (.int .i64 ((rd_T55 s0_1 x14_4).f0))).setCell ⟨gb467, 1, none⟩ (.int .i64 ((rd_T55 s0_1 x14_4).f1))).setCell ⟨gb467, 2, none⟩ (.int .i64 ((rd_T55 s0_1 x14_4).f2)))).cell? _ = some _ from hx470_0)); clear hn470_0; clear hn470_1; clear hn470_2; replace p470 := eq_true p470; replace q470 := eq_true q470; obtain ⟨ASz83_0, cSz83_0, ASz83_1, cSz83_1, HGz83, hgz83, HSz83_0, HSz83_1⟩ := HI0.out; have hcz83_0 := cellS36_0 HGz83; have hcz83_1 := cellS36_1 HGz83; clear HGz83 hgz83; have p471 : 0 ≤ (((rd_T55 s0_1 x14_4).f1) : Int) := of_decide_eq_true (by first | (with_reducible assumption) | assumption); have q471 : ((rd_T55 s0_1 x14_4).f1) < (s0_0.length : Int) := of_decide_eq_true (by first | (with_reducible assumption) | assumption); obtain ⟨ad471, e471, hx471_0⟩ := Kd.at_int HSz83_0 ((rd_T55 s0_1 x14_4).f1) p471 q471; cases e471; have hn471_0 : ad471.block ≠ gb467 := Nat.ne_of_lt (Nat.lt_of_lt_of_le (by have := World.block_lt_of_cell? _ _ hx471_0; first | rwa [add_block] at this | exact this) GE467.out); have hn471_1 : ad471.block ≠ gb467 := Nat.ne_of_lt (Nat.lt_of_lt_of_le (by have := World.block_lt_of_cell? _ _ hx471_0; first | rwa [add_block] at this | exact this) GE467.out); have hn471_2 : ad471.block ≠ gb467 := Nat.ne_of_lt (Nat.lt_of_lt_of_le (by have := World.block_lt_of_cell? _ _ hx471_0; first | rwa [add_block] at this | exact this) GE467.out); replace hx471_0 := pw_cell_below HB.out hx471_0; replace hx471_0 := (cell_far (p := ⟨gb467, 0, none⟩) (by first | (rw [add_block]; exact hn471_0) | (show (Addr.add _ _).block ≠ _; rw [add_block]; exact hn471_0) | exact hn471_0) (.int .i64 ((rd_T55 s0_1 x14_4).f0))).trans hx471_0; replace hx471_0 := (cell_far (p := ⟨gb467, 1, none⟩) (by first | (rw [add_block]; exact hn471_1) | (show (Addr.add _ _).block ≠ _; rw [add_block]; exact hn471_1) | exact hn471_1) (.int .i64 ((rd_T55 s0_1 x14_4).f1))).trans hx471_0; replace hx471_0 := (cell_far (p := ⟨gb467, 2, none⟩) (by first | (rw [add_block]; exact hn471_2) | (show (Addr.add _ _).block ≠ _; rw [add_block]; exact hn471_2) | exact hn471_2) (.int .i64 ((rd_T55 s0_1 x14_4).f2))).trans hx471_0; (try have hy471_0 := fun (n_ : Nat) => (show (((((w78.drewN n_).setCell ⟨gb467, 0, none⟩ (.int .i64 ((rd_T55 s0_1 x14_4).f0))).setCell ⟨gb467, 1, none⟩ (.int .i64 ((rd_T55 s0_1 x14_4).f1))).setCell ⟨gb467, 2, none⟩ (.int .i64 ((rd_T55 s0_1 x14_4).f2)))).cell? _ = some _ from hx471_0)); clear hn471_0; clear hn471_1; clear hn471_2; replace p471 := eq_true p471; replace q471 := eq_true q471))
                                        repeat (go_quiet (first | ((with_reducible refine gate_dst (N := 15) rfl ?_); refine box_event ?hg (N := 15) ?hd (cs := #[.int .i64 0, .int .i64 0, .int .i64 0]) (t := 55) ?hr ?_; (case hd => rfl); (case hg => rfl); (case hr => first | (go_simp; done) | (go_simp; rfl)); intro gb467 hg w78 hbox hb; have n0_ := Aside0.mk (Kd.R_below (by (with_reducible repeat (first | apply Kd.R_alloc | apply Kd.R_drewN | apply Kd.R_drew)); exact HO_7.out) hb); have n1_ := Aside0.mk (Kd.R_below (by (with_reducible repeat (first | apply Kd.R_alloc | apply Kd.R_drewN | apply Kd.R_drew)); exact HO_8.out) hb); have n2_ := Aside0.mk (IsS36.below (by repeat (first | (with_reducible first | exact HI0.out | apply IsS36.alloc | apply IsS36.drewN | apply IsS36.drew) | exact HI0.out)) hb); have n3_ := Aside0.mk (KeepBut.trans (by repeat (first | (with_reducible first | exact HK.out | apply KeepBut.set_ | apply keep_drewN | apply keep_drew | apply keep_alloc) | exact HK.out)) (KeepBut.of_below hb g none) (.inl rfl)); have n4_ := Aside0.mk (below_step (by repeat (first | (with_reducible first | exact HB.out | apply below_alloc | apply pw_below_drewN | apply below_drew1 | refine below_set ?_ (IsS36.ge HI0.out)) | exact HB.out)) hb); have n5_ := Aside0.mk (hbox); have n6_ := Aside0.mk ((by rw [hg]; exact (keep_size (w := w) (g := g) (row := none) (by repeat (first | (with_reducible first | exact HK.out | apply KeepBut.set_ | apply keep_drewN | apply keep_drew | apply keep_alloc) | exact HK.out))) : w.heap.size ≤ gb467)); have n7_ := Aside0.mk ((Nat.le_trans HW0.out (by rw [hg]; exact (keep_size (w := w) (g := g) (row := none) (by repeat (first | (with_reducible first | exact HK.out | apply KeepBut.set_ | apply keep_drewN | apply keep_drew | apply keep_alloc) | exact HK.out))) : w.heap.size ≤ gb467) : w0.heap.size ≤ gb467)); have n8_ := Aside0.mk ((by rw [hg]; exact Nat.ne_of_lt (IsS36.lt (show IsS36 w0 _ g s0_0 s0_1 from by repeat (first | (with_reducible first | exact HI0.out | apply IsS36.alloc | apply IsS36.drewN | apply IsS36.drew) | exact HI0.out))) : g ≠ gb467)); have n9_ := Aside0.mk ((by rw [hg]; exact Nat.ne_of_gt (IsS36.lt (show IsS36 w0 _ g s0_0 s0_1 from by repeat (first | (with_reducible first | exact HI0.out | apply IsS36.alloc | apply IsS36.drewN | apply IsS36.drew) | exact HI0.out))) : gb467 ≠ g)); clear HO_7; clear HO_8; clear HI0; clear HK; clear HB; have HO_7 := n0_; have HO_8 := n1_; have HI0 := n2_; have HK := n3_; have HB := n4_; have BK467 := n5_; have GW467 := n6_; have GE467 := n7_; have NB0_467 := n8_; have NB467_0 := n9_; clear n0_ n1_ n2_ n3_ n4_ n5_ n6_ n7_ n8_ n9_; clear hb hbox hg; have hnb79 := NB467_0.out; have hnc79 := NB0_467.out; have hcz80_0 : w78.cell? ⟨gb467, 0, none⟩ = some (.int .i64 0) := (blk_cell BK467.out 0).trans rfl; have hcz80_1 : w78.cell? ⟨gb467, 1, none⟩ = some (.int .i64 0) := (blk_cell BK467.out 1).trans rfl; have hcz80_2 : w78.cell? ⟨gb467, 2, none⟩ = some (.int .i64 0) := (blk_cell BK467.out 2).trans rfl; have hfz80_0 := blk_frozen BK467.out 0; have hfz80_1 := blk_frozen BK467.out 1; have hfz80_2 := blk_frozen BK467.out 2; obtain ⟨Ao81, co81, eo81⟩ := Kd.R_slice HO_7.out; subst eo81; have p468 : 0 ≤ (((rd_T55 s0_1 x14_4).f0) : Int) := of_decide_eq_true (by first | (with_reducible assumption) | assumption); have q468 : ((rd_T55 s0_1 x14_4).f0) < (x7_4.length : Int) := of_decide_eq_true (by first | (with_reducible assumption) | assumption); obtain ⟨ad468, e468, hx468_0⟩ := Kd.at_int (Kd.R_reads' HO_7.out).2.2 ((rd_T55 s0_1 x14_4).f0) p468 q468; cases e468; have hn468_0 : ad468.block ≠ gb467 := Kd.own_blk (Kd.R_ne HO_7.out BK467.out (by decide)); have hn468_1 : ad468.block ≠ gb467 := Kd.own_blk (Kd.R_ne HO_7.out BK467.out (by decide)); have hn468_2 : ad468.block ≠ gb467 := Kd.own_blk (Kd.R_ne HO_7.out BK467.out (by decide)); replace hx468_0 := (cell_far (p := ⟨gb467, 0, none⟩) (by first | (rw [add_block]; exact hn468_0) | (show (Addr.add _ _).block ≠ _; rw [add_block]; exact hn468_0) | exact hn468_0) (.int .i64 ((rd_T55 s0_1 x14_4).f0))).trans hx468_0; replace hx468_0 := (cell_far (p := ⟨gb467, 1, none⟩) (by first | (rw [add_block]; exact hn468_1) | (show (Addr.add _ _).block ≠ _; rw [add_block]; exact hn468_1) | exact hn468_1) (.int .i64 ((rd_T55 s0_1 x14_4).f1))).trans hx468_0; replace hx468_0 := (cell_far (p := ⟨gb467, 2, none⟩) (by first | (rw [add_block]; exact hn468_2) | (show (Addr.add _ _).block ≠ _; rw [add_block]; exact hn468_2) | exact hn468_2) (.int .i64 ((rd_T55 s0_1 x14_4).f2))).trans hx468_0; (try have hy468_0 := fun (n_ : Nat) => (show (((((w78.drewN n_).setCell ⟨gb467, 0, none⟩ (.int .i64 ((rd_T55 s0_1 x14_4).f0))).setCell ⟨gb467, 1, none⟩ (.int .i64 ((rd_T55 s0_1 x14_4).f1))).setCell ⟨gb467, 2, none⟩ (.int .i64 ((rd_T55 s0_1 x14_4).f2)))).cell? _ = some _ from hx468_0)); clear hn468_0; clear hn468_1; clear hn468_2; replace p468 := eq_true p468; replace q468 := eq_true q468; have p469 : 0 ≤ (((rd_T55 s0_1 x14_4).f0) : Int) := of_decide_eq_true (by first | (with_reducible assumption) | assumption); have q469 : ((rd_T55 s0_1 x14_4).f0) < (x7_4.length : Int) := of_decide_eq_true (by first | (with_reducible assumption) | assumption); obtain ⟨ad469, e469, hx469_0⟩ := Kd.at_int (Kd.R_reads' HO_7.out).2.2 ((rd_T55 s0_1 x14_4).f0) p469 q469; obtain rfl : ad468 = ad469 := (by injection e469); have hn469_0 : ad468.block ≠ gb467 := Kd.own_blk (Kd.R_ne HO_7.out BK467.out (by decide)); have hn469_1 : ad468.block ≠ gb467 := Kd.own_blk (Kd.R_ne HO_7.out BK467.out (by decide)); have hn469_2 : ad468.block ≠ gb467 := Kd.own_blk (Kd.R_ne HO_7.out BK467.out (by decide)); replace hx469_0 := (cell_far (p := ⟨gb467, 0, none⟩) (by first | (rw [add_block]; exact hn469_0) | (show (Addr.add _ _).block ≠ _; rw [add_block]; exact hn469_0) | exact hn469_0) (.int .i64 ((rd_T55 s0_1 x14_4).f0))).trans hx469_0; replace hx469_0 := (cell_far (p := ⟨gb467, 1, none⟩) (by first | (rw [add_block]; exact hn469_1) | (show (Addr.add _ _).block ≠ _; rw [add_block]; exact hn469_1) | exact hn469_1) (.int .i64 ((rd_T55 s0_1 x14_4).f1))).trans hx469_0; replace hx469_0 := (cell_far (p := ⟨gb467, 2, none⟩) (by first | (rw [add_block]; exact hn469_2) | (show (Addr.add _ _).block ≠ _; rw [add_block]; exact hn469_2) | exact hn469_2) (.int .i64 ((rd_T55 s0_1 x14_4).f2))).trans hx469_0; (try have hy469_0 := fun (n_ : Nat) => (show (((((w78.drewN n_).setCell ⟨gb467, 0, none⟩ (.int .i64 ((rd_T55 s0_1 x14_4).f0))).setCell ⟨gb467, 1, none⟩ (.int .i64 ((rd_T55 s0_1 x14_4).f1))).setCell ⟨gb467, 2, none⟩ (.int .i64 ((rd_T55 s0_1 x14_4).f2)))).cell? _ = some _ from hx469_0)); clear hn469_0; clear hn469_1; clear hn469_2; replace p469 := eq_true p469; replace q469 := eq_true q469; obtain ⟨Ao82, co82, eo82⟩ := Kd.R_slice HO_8.out; subst eo82; have p470 : 0 ≤ (((rd_T55 s0_1 x14_4).f0) : Int) := of_decide_eq_true (by first | (with_reducible assumption) | assumption); have q470 : ((rd_T55 s0_1 x14_4).f0) < (x8_4.length : Int) := of_decide_eq_true (by first | (with_reducible assumption) | assumption); obtain ⟨ad470, e470, hx470_0⟩ := Kd.at_int (Kd.R_reads' HO_8.out).2.2 ((rd_T55 s0_1 x14_4).f0) p470 q470; cases e470; have hn470_0 : ad470.block ≠ gb467 := Kd.own_blk (Kd.R_ne HO_8.out BK467.out (by decide)); have hn470_1 : ad470.block ≠ gb467 := Kd.own_blk (Kd.R_ne HO_8.out BK467.out (by decide)); have hn470_2 : ad470.block ≠ gb467 := Kd.own_blk (Kd.R_ne HO_8.out BK467.out (by decide)); replace hx470_0 := (cell_far (p := ⟨gb467, 0, none⟩) (by first | (rw [add_block]; exact hn470_0) | (show (Addr.add _ _).block ≠ _; rw [add_block]; exact hn470_0) | exact hn470_0) (.int .i64 ((rd_T55 s0_1 x14_4).f0))).trans hx470_0; replace hx470_0 := (cell_far (p := ⟨gb467, 1, none⟩) (by first | (rw [add_block]; exact hn470_1) | (show (Addr.add _ _).block ≠ _; rw [add_block]; exact hn470_1) | exact hn470_1) (.int .i64 ((rd_T55 s0_1 x14_4).f1))).trans hx470_0; replace hx470_0 := (cell_far (p := ⟨gb467, 2, none⟩) (by first | (rw [add_block]; exact hn470_2) | (show (Addr.add _ _).block ≠ _; rw [add_block]; exact hn470_2) | exact hn470_2) (.int .i64 ((rd_T55 s0_1 x14_4).f2))).trans hx470_0; (try have hy470_0 := fun (n_ : Nat) => (show (((((w78.drewN n_).setCell ⟨gb467, 0, none⟩ (.int .i64 ((rd_T55 s0_1 x14_4).f0))).setCell ⟨gb467, 1, none⟩ (.int .i64 ((rd_T55 s0_1 x14_4).f1))).setCell ⟨gb467, 2, none⟩ (.int .i64 ((rd_T55 s0_1 x14_4).f2)))).cell? _ = some _ from hx470_0)); clear hn470_0; clear hn470_1; clear hn470_2; replace p470 := eq_true p470; replace q470 := eq_true q470; obtain ⟨ASz83_0, cSz83_0, ASz83_1, cSz83_1, HGz83, hgz83, HSz83_0, HSz83_1⟩ := HI0.out; have hcz83_0 := cellS36_0 HGz83; have hcz83_1 := cellS36_1 HGz83; clear HGz83 hgz83; have p471 : 0 ≤ (((rd_T55 s0_1 x14_4).f1) : Int) := of_decide_eq_true (by first | (with_reducible assumption) | assumption); have q471 : ((rd_T55 s0_1 x14_4).f1) < (s0_0.length : Int) := of_decide_eq_true (by first | (with_reducible assumption) | assumption); obtain ⟨ad471, e471, hx471_0⟩ := Kd.at_int HSz83_0 ((rd_T55 s0_1 x14_4).f1) p471 q471; cases e471; have hn471_0 : ad471.block ≠ gb467 := Nat.ne_of_lt (Nat.lt_of_lt_of_le (by have := World.block_lt_of_cell? _ _ hx471_0; first | rwa [add_block] at this | exact this) GE467.out); have hn471_1 : ad471.block ≠ gb467 := Nat.ne_of_lt (Nat.lt_of_lt_of_le (by have := World.block_lt_of_cell? _ _ hx471_0; first | rwa [add_block] at this | exact this) GE467.out); have hn471_2 : ad471.block ≠ gb467 := Nat.ne_of_lt (Nat.lt_of_lt_of_le (by have := World.block_lt_of_cell? _ _ hx471_0; first | rwa [add_block] at this | exact this) GE467.out); replace hx471_0 := pw_cell_below HB.out hx471_0; replace hx471_0 := (cell_far (p := ⟨gb467, 0, none⟩) (by first | (rw [add_block]; exact hn471_0) | (show (Addr.add _ _).block ≠ _; rw [add_block]; exact hn471_0) | exact hn471_0) (.int .i64 ((rd_T55 s0_1 x14_4).f0))).trans hx471_0; replace hx471_0 := (cell_far (p := ⟨gb467, 1, none⟩) (by first | (rw [add_block]; exact hn471_1) | (show (Addr.add _ _).block ≠ _; rw [add_block]; exact hn471_1) | exact hn471_1) (.int .i64 ((rd_T55 s0_1 x14_4).f1))).trans hx471_0; replace hx471_0 := (cell_far (p := ⟨gb467, 2, none⟩) (by first | (rw [add_block]; exact hn471_2) | (show (Addr.add _ _).block ≠ _; rw [add_block]; exact hn471_2) | exact hn471_2) (.int .i64 ((rd_T55 s0_1 x14_4).f2))).trans hx471_0; (try have hy471_0 := fun (n_ : Nat) => (show (((((w78.drewN n_).setCell ⟨gb467, 0, none⟩ (.int .i64 ((rd_T55 s0_1 x14_4).f0))).setCell ⟨gb467, 1, none⟩ (.int .i64 ((rd_T55 s0_1 x14_4).f1))).setCell ⟨gb467, 2, none⟩ (.int .i64 ((rd_T55 s0_1 x14_4).f2)))).cell? _ = some _ from hx471_0)); clear hn471_0; clear hn471_1; clear hn471_2; replace p471 := eq_true p471; replace q471 := eq_true q471)); go_upto_region 28 with (first | ((with_reducible refine gate_dst (N := 15) rfl ?_); refine box_event ?hg (N := 15) ?hd (cs := #[.int .i64 0, .int .i64 0, .int .i64 0]) (t := 55) ?hr ?_; (case hd => rfl); (case hg => rfl); (case hr => first | (go_simp; done) | (go_simp; rfl)); intro gb467 hg w78 hbox hb; have n0_ := Aside0.mk (Kd.R_below (by (with_reducible repeat (first | apply Kd.R_alloc | apply Kd.R_drewN | apply Kd.R_drew)); exact HO_7.out) hb); have n1_ := Aside0.mk (Kd.R_below (by (with_reducible repeat (first | apply Kd.R_alloc | apply Kd.R_drewN | apply Kd.R_drew)); exact HO_8.out) hb); have n2_ := Aside0.mk (IsS36.below (by repeat (first | (with_reducible first | exact HI0.out | apply IsS36.alloc | apply IsS36.drewN | apply IsS36.drew) | exact HI0.out)) hb); have n3_ := Aside0.mk (KeepBut.trans (by repeat (first | (with_reducible first | exact HK.out | apply KeepBut.set_ | apply keep_drewN | apply keep_drew | apply keep_alloc) | exact HK.out)) (KeepBut.of_below hb g none) (.inl rfl)); have n4_ := Aside0.mk (below_step (by repeat (first | (with_reducible first | exact HB.out | apply below_alloc | apply pw_below_drewN | apply below_drew1 | refine below_set ?_ (IsS36.ge HI0.out)) | exact HB.out)) hb); have n5_ := Aside0.mk (hbox); have n6_ := Aside0.mk ((by rw [hg]; exact (keep_size (w := w) (g := g) (row := none) (by repeat (first | (with_reducible first | exact HK.out | apply KeepBut.set_ | apply keep_drewN | apply keep_drew | apply keep_alloc) | exact HK.out))) : w.heap.size ≤ gb467)); have n7_ := Aside0.mk ((Nat.le_trans HW0.out (by rw [hg]; exact (keep_size (w := w) (g := g) (row := none) (by repeat (first | (with_reducible first | exact HK.out | apply KeepBut.set_ | apply keep_drewN | apply keep_drew | apply keep_alloc) | exact HK.out))) : w.heap.size ≤ gb467) : w0.heap.size ≤ gb467)); have n8_ := Aside0.mk ((by rw [hg]; exact Nat.ne_of_lt (IsS36.lt (show IsS36 w0 _ g s0_0 s0_1 from by repeat (first | (with_reducible first | exact HI0.out | apply IsS36.alloc | apply IsS36.drewN | apply IsS36.drew) | exact HI0.out))) : g ≠ gb467)); have n9_ := Aside0.mk ((by rw [hg]; exact Nat.ne_of_gt (IsS36.lt (show IsS36 w0 _ g s0_0 s0_1 from by repeat (first | (with_reducible first | exact HI0.out | apply IsS36.alloc | apply IsS36.drewN | apply IsS36.drew) | exact HI0.out))) : gb467 ≠ g)); clear HO_7; clear HO_8; clear HI0; clear HK; clear HB; have HO_7 := n0_; have HO_8 := n1_; have HI0 := n2_; have HK := n3_; have HB := n4_; have BK467 := n5_; have GW467 := n6_; have GE467 := n7_; have NB0_467 := n8_; have NB467_0 := n9_; clear n0_ n1_ n2_ n3_ n4_ n5_ n6_ n7_ n8_ n9_; clear hb hbox hg; have hnb79 := NB467_0.out; have hnc79 := NB0_467.out; have hcz80_0 : w78.cell? ⟨gb467, 0, none⟩ = some (.int .i64 0) := (blk_cell BK467.out 0).trans rfl; have hcz80_1 : w78.cell? ⟨gb467, 1, none⟩ = some (.int .i64 0) := (blk_cell BK467.out 1).trans rfl; have hcz80_2 : w78.cell? ⟨gb467, 2, none⟩ = some (.int .i64 0) := (blk_cell BK467.out 2).trans rfl; have hfz80_0 := blk_frozen BK467.out 0; have hfz80_1 := blk_frozen BK467.out 1; have hfz80_2 := blk_frozen BK467.out 2; obtain ⟨Ao81, co81, eo81⟩ := Kd.R_slice HO_7.out; subst eo81; have p468 : 0 ≤ (((rd_T55 s0_1 x14_4).f0) : Int) := of_decide_eq_true (by first | (with_reducible assumption) | assumption); have q468 : ((rd_T55 s0_1 x14_4).f0) < (x7_4.length : Int) := of_decide_eq_true (by first | (with_reducible assumption) | assumption); obtain ⟨ad468, e468, hx468_0⟩ := Kd.at_int (Kd.R_reads' HO_7.out).2.2 ((rd_T55 s0_1 x14_4).f0) p468 q468; cases e468; have hn468_0 : ad468.block ≠ gb467 := Kd.own_blk (Kd.R_ne HO_7.out BK467.out (by decide)); have hn468_1 : ad468.block ≠ gb467 := Kd.own_blk (Kd.R_ne HO_7.out BK467.out (by decide)); have hn468_2 : ad468.block ≠ gb467 := Kd.own_blk (Kd.R_ne HO_7.out BK467.out (by decide)); replace hx468_0 := (cell_far (p := ⟨gb467, 0, none⟩) (by first | (rw [add_block]; exact hn468_0) | (show (Addr.add _ _).block ≠ _; rw [add_block]; exact hn468_0) | exact hn468_0) (.int .i64 ((rd_T55 s0_1 x14_4).f0))).trans hx468_0; replace hx468_0 := (cell_far (p := ⟨gb467, 1, none⟩) (by first | (rw [add_block]; exact hn468_1) | (show (Addr.add _ _).block ≠ _; rw [add_block]; exact hn468_1) | exact hn468_1) (.int .i64 ((rd_T55 s0_1 x14_4).f1))).trans hx468_0; replace hx468_0 := (cell_far (p := ⟨gb467, 2, none⟩) (by first | (rw [add_block]; exact hn468_2) | (show (Addr.add _ _).block ≠ _; rw [add_block]; exact hn468_2) | exact hn468_2) (.int .i64 ((rd_T55 s0_1 x14_4).f2))).trans hx468_0; (try have hy468_0 := fun (n_ : Nat) => (show (((((w78.drewN n_).setCell ⟨gb467, 0, none⟩ (.int .i64 ((rd_T55 s0_1 x14_4).f0))).setCell ⟨gb467, 1, none⟩ (.int .i64 ((rd_T55 s0_1 x14_4).f1))).setCell ⟨gb467, 2, none⟩ (.int .i64 ((rd_T55 s0_1 x14_4).f2)))).cell? _ = some _ from hx468_0)); clear hn468_0; clear hn468_1; clear hn468_2; replace p468 := eq_true p468; replace q468 := eq_true q468; have p469 : 0 ≤ (((rd_T55 s0_1 x14_4).f0) : Int) := of_decide_eq_true (by first | (with_reducible assumption) | assumption); have q469 : ((rd_T55 s0_1 x14_4).f0) < (x7_4.length : Int) := of_decide_eq_true (by first | (with_reducible assumption) | assumption); obtain ⟨ad469, e469, hx469_0⟩ := Kd.at_int (Kd.R_reads' HO_7.out).2.2 ((rd_T55 s0_1 x14_4).f0) p469 q469; obtain rfl : ad468 = ad469 := (by injection e469); have hn469_0 : ad468.block ≠ gb467 := Kd.own_blk (Kd.R_ne HO_7.out BK467.out (by decide)); have hn469_1 : ad468.block ≠ gb467 := Kd.own_blk (Kd.R_ne HO_7.out BK467.out (by decide)); have hn469_2 : ad468.block ≠ gb467 := Kd.own_blk (Kd.R_ne HO_7.out BK467.out (by decide)); replace hx469_0 := (cell_far (p := ⟨gb467, 0, none⟩) (by first | (rw [add_block]; exact hn469_0) | (show (Addr.add _ _).block ≠ _; rw [add_block]; exact hn469_0) | exact hn469_0) (.int .i64 ((rd_T55 s0_1 x14_4).f0))).trans hx469_0; replace hx469_0 := (cell_far (p := ⟨gb467, 1, none⟩) (by first | (rw [add_block]; exact hn469_1) | (show (Addr.add _ _).block ≠ _; rw [add_block]; exact hn469_1) | exact hn469_1) (.int .i64 ((rd_T55 s0_1 x14_4).f1))).trans hx469_0; replace hx469_0 := (cell_far (p := ⟨gb467, 2, none⟩) (by first | (rw [add_block]; exact hn469_2) | (show (Addr.add _ _).block ≠ _; rw [add_block]; exact hn469_2) | exact hn469_2) (.int .i64 ((rd_T55 s0_1 x14_4).f2))).trans hx469_0; (try have hy469_0 := fun (n_ : Nat) => (show (((((w78.drewN n_).setCell ⟨gb467, 0, none⟩ (.int .i64 ((rd_T55 s0_1 x14_4).f0))).setCell ⟨gb467, 1, none⟩ (.int .i64 ((rd_T55 s0_1 x14_4).f1))).setCell ⟨gb467, 2, none⟩ (.int .i64 ((rd_T55 s0_1 x14_4).f2)))).cell? _ = some _ from hx469_0)); clear hn469_0; clear hn469_1; clear hn469_2; replace p469 := eq_true p469; replace q469 := eq_true q469; obtain ⟨Ao82, co82, eo82⟩ := Kd.R_slice HO_8.out; subst eo82; have p470 : 0 ≤ (((rd_T55 s0_1 x14_4).f0) : Int) := of_decide_eq_true (by first | (with_reducible assumption) | assumption); have q470 : ((rd_T55 s0_1 x14_4).f0) < (x8_4.length : Int) := of_decide_eq_true (by first | (with_reducible assumption) | assumption); obtain ⟨ad470, e470, hx470_0⟩ := Kd.at_int (Kd.R_reads' HO_8.out).2.2 ((rd_T55 s0_1 x14_4).f0) p470 q470; cases e470; have hn470_0 : ad470.block ≠ gb467 := Kd.own_blk (Kd.R_ne HO_8.out BK467.out (by decide)); have hn470_1 : ad470.block ≠ gb467 := Kd.own_blk (Kd.R_ne HO_8.out BK467.out (by decide)); have hn470_2 : ad470.block ≠ gb467 := Kd.own_blk (Kd.R_ne HO_8.out BK467.out (by decide)); replace hx470_0 := (cell_far (p := ⟨gb467, 0, none⟩) (by first | (rw [add_block]; exact hn470_0) | (show (Addr.add _ _).block ≠ _; rw [add_block]; exact hn470_0) | exact hn470_0) (.int .i64 ((rd_T55 s0_1 x14_4).f0))).trans hx470_0; replace hx470_0 := (cell_far (p := ⟨gb467, 1, none⟩) (by first | (rw [add_block]; exact hn470_1) | (show (Addr.add _ _).block ≠ _; rw [add_block]; exact hn470_1) | exact hn470_1) (.int .i64 ((rd_T55 s0_1 x14_4).f1))).trans hx470_0; replace hx470_0 := (cell_far (p := ⟨gb467, 2, none⟩) (by first | (rw [add_block]; exact hn470_2) | (show (Addr.add _ _).block ≠ _; rw [add_block]; exact hn470_2) | exact hn470_2) (.int .i64 ((rd_T55 s0_1 x14_4).f2))).trans hx470_0; (try have hy470_0 := fun (n_ : Nat) => (show (((((w78.drewN n_).setCell ⟨gb467, 0, none⟩ (.int .i64 ((rd_T55 s0_1 x14_4).f0))).setCell ⟨gb467, 1, none⟩ (.int .i64 ((rd_T55 s0_1 x14_4).f1))).setCell ⟨gb467, 2, none⟩ (.int .i64 ((rd_T55 s0_1 x14_4).f2)))).cell? _ = some _ from hx470_0)); clear hn470_0; clear hn470_1; clear hn470_2; replace p470 := eq_true p470; replace q470 := eq_true q470; obtain ⟨ASz83_0, cSz83_0, ASz83_1, cSz83_1, HGz83, hgz83, HSz83_0, HSz83_1⟩ := HI0.out; have hcz83_0 := cellS36_0 HGz83; have hcz83_1 := cellS36_1 HGz83; clear HGz83 hgz83; have p471 : 0 ≤ (((rd_T55 s0_1 x14_4).f1) : Int) := of_decide_eq_true (by first | (with_reducible assumption) | assumption); have q471 : ((rd_T55 s0_1 x14_4).f1) < (s0_0.length : Int) := of_decide_eq_true (by first | (with_reducible assumption) | assumption); obtain ⟨ad471, e471, hx471_0⟩ := Kd.at_int HSz83_0 ((rd_T55 s0_1 x14_4).f1) p471 q471; cases e471; have hn471_0 : ad471.block ≠ gb467 := Nat.ne_of_lt (Nat.lt_of_lt_of_le (by have := World.block_lt_of_cell? _ _ hx471_0; first | rwa [add_block] at this | exact this) GE467.out); have hn471_1 : ad471.block ≠ gb467 := Nat.ne_of_lt (Nat.lt_of_lt_of_le (by have := World.block_lt_of_cell? _ _ hx471_0; first | rwa [add_block] at this | exact this) GE467.out); have hn471_2 : ad471.block ≠ gb467 := Nat.ne_of_lt (Nat.lt_of_lt_of_le (by have := World.block_lt_of_cell? _ _ hx471_0; first | rwa [add_block] at this | exact this) GE467.out); replace hx471_0 := pw_cell_below HB.out hx471_0; replace hx471_0 := (cell_far (p := ⟨gb467, 0, none⟩) (by first | (rw [add_block]; exact hn471_0) | (show (Addr.add _ _).block ≠ _; rw [add_block]; exact hn471_0) | exact hn471_0) (.int .i64 ((rd_T55 s0_1 x14_4).f0))).trans hx471_0; replace hx471_0 := (cell_far (p := ⟨gb467, 1, none⟩) (by first | (rw [add_block]; exact hn471_1) | (show (Addr.add _ _).block ≠ _; rw [add_block]; exact hn471_1) | exact hn471_1) (.int .i64 ((rd_T55 s0_1 x14_4).f1))).trans hx471_0; replace hx471_0 := (cell_far (p := ⟨gb467, 2, none⟩) (by first | (rw [add_block]; exact hn471_2) | (show (Addr.add _ _).block ≠ _; rw [add_block]; exact hn471_2) | exact hn471_2) (.int .i64 ((rd_T55 s0_1 x14_4).f2))).trans hx471_0; (try have hy471_0 := fun (n_ : Nat) => (show (((((w78.drewN n_).setCell ⟨gb467, 0, none⟩ (.int .i64 ((rd_T55 s0_1 x14_4).f0))).setCell ⟨gb467, 1, none⟩ (.int .i64 ((rd_T55 s0_1 x14_4).f1))).setCell ⟨gb467, 2, none⟩ (.int .i64 ((rd_T55 s0_1 x14_4).f2)))).cell? _ = some _ from hx471_0)); clear hn471_0; clear hn471_1; clear hn471_2; replace p471 := eq_true p471; replace q471 := eq_true q471)))
                                        (try simp only [Act.put, List.setIfInBounds_toArray, List.set_cons_zero, List.set_cons_succ])
                                        go_cut [195] (fun v195 wc => ∃ (kq : Nat) (x195_75 : Bool), v195 = .bool x195_75 ∧ Aside0 (spec_l08Far.j5 kq x7_4 x8_4 x13_4 x14_4 (wrap64 ((rd x7_4 ((rd_T55 s0_1 x14_4).f0)) + ((rd_T55 s0_1 x14_4).f2))) (wrap64 ((rd x8_4 ((rd_T55 s0_1 x14_4).f0)) + (rd s0_0 ((rd_T55 s0_1 x14_4).f1)))) x195_75 s0_0 s0_1 ((rd_T55 s0_1 x14_4).f0) ((rd_T55 s0_1 x14_4).f1) ((rd_T55 s0_1 x14_4).f2) = some (r1, r2)) ∧ Aside0 (kq ≤ k4) ∧ Aside0 (Kd.R (Kd.int .i64) 2 wc w.heap.size (fun k_ => some k_ ≠ ((.slice (some ad470) x8_4.length co82) : Value).ownBlock) (.slice (some ad468) x7_4.length co81) x7_4) ∧ Aside0 (Kd.R (Kd.int .i64) 2 wc w.heap.size (fun k_ => some k_ ≠ ((.slice (some ad468) x7_4.length co81) : Value).ownBlock) (.slice (some ad470) x8_4.length co82) x8_4) ∧ Aside0 (wc.heap[gb467]? = some (.cells #[.int .i64 ((rd_T55 s0_1 x14_4).f0), .int .i64 ((rd_T55 s0_1 x14_4).f1), .int .i64 ((rd_T55 s0_1 x14_4).f2)] 55 (0, 0))) ∧ Aside0 (IsS36 w0 wc g s0_0 s0_1) ∧ Aside0 (KeepBut w wc g none) ∧ Aside0 (Below w0.heap.size w0 wc))
                                        case first =>
                                          have H := HC76.out
                                          clear HC76
                                          by_cases c84 : ((rd_T55 s0_1 x14_4).f1) < (x7_4.length : Int)
                                          · rw [if_pos c84] at H
                                            have c84b0 : decide (((rd_T55 s0_1 x14_4).f1) < (x7_4.length : Int)) = true := decide_eq_true c84
                                            clear c84
                                            (first | rw [c84b0] | (simp only [i64_w, i32_w]; rw [c84b0]) | skip)
                                            by_cases c85 : (rd x7_4 ((rd_T55 s0_1 x14_4).f1)) < 0
                                            · rw [if_pos c85] at H
                                              have c85b0 : decide ((rd x7_4 ((rd_T55 s0_1 x14_4).f1)) < 0) = true := decide_eq_true c85
                                              clear c85
                                              have H' := Aside0.mk H
                                              clear H
                                              have hnb86 := NB467_0.out
                                              have hnc86 := NB0_467.out
                                              have hcz87_0 : w78.cell? ⟨gb467, 0, none⟩ = some (.int .i64 0) := (blk_cell BK467.out 0).trans rfl
                                              have hcz87_1 : w78.cell? ⟨gb467, 1, none⟩ = some (.int .i64 0) := (blk_cell BK467.out 1).trans rfl
                                              have hcz87_2 : w78.cell? ⟨gb467, 2, none⟩ = some (.int .i64 0) := (blk_cell BK467.out 2).trans rfl
                                              have hfz87_0 := blk_frozen BK467.out 0
                                              have hfz87_1 := blk_frozen BK467.out 1
                                              have hfz87_2 := blk_frozen BK467.out 2
                                              have p472 : 0 ≤ (((rd_T55 s0_1 x14_4).f1) : Int) := of_decide_eq_true (by first | (with_reducible assumption) | assumption)
                                              have q472 : ((rd_T55 s0_1 x14_4).f1) < (x7_4.length : Int) := of_decide_eq_true (by first | (with_reducible assumption) | assumption)
                                              obtain ⟨ad472, e472, hx472_0⟩ := Kd.at_int (Kd.R_reads' HO_7.out).2.2 ((rd_T55 s0_1 x14_4).f1) p472 q472
                                              obtain rfl : ad468 = ad472 := (by injection e472)
                                              have hn472_0 : ad468.block ≠ gb467 := Kd.own_blk (Kd.R_ne HO_7.out BK467.out (by decide))
                                              have hn472_1 : ad468.block ≠ gb467 := Kd.own_blk (Kd.R_ne HO_7.out BK467.out (by decide))
                                              have hn472_2 : ad468.block ≠ gb467 := Kd.own_blk (Kd.R_ne HO_7.out BK467.out (by decide))
                                              replace hx472_0 := (cell_far (p := ⟨gb467, 0, none⟩) (by first | (rw [add_block]; exact hn472_0) | (show (Addr.add _ _).block ≠ _; rw [add_block]; exact hn472_0) | exact hn472_0) (.int .i64 ((rd_T55 s0_1 x14_4).f0))).trans hx472_0
                                              replace hx472_0 := (cell_far (p := ⟨gb467, 1, none⟩) (by first | (rw [add_block]; exact hn472_1) | (show (Addr.add _ _).block ≠ _; rw [add_block]; exact hn472_1) | exact hn472_1) (.int .i64 ((rd_T55 s0_1 x14_4).f1))).trans hx472_0
                                              replace hx472_0 := (cell_far (p := ⟨gb467, 2, none⟩) (by first | (rw [add_block]; exact hn472_2) | (show (Addr.add _ _).block ≠ _; rw [add_block]; exact hn472_2) | exact hn472_2) (.int .i64 ((rd_T55 s0_1 x14_4).f2))).trans hx472_0
                                              (try have hy472_0 := fun (n_ : Nat) => (show (((((w78.drewN n_).setCell ⟨gb467, 0, none⟩ (.int .i64 ((rd_T55 s0_1 x14_4).f0))).setCell ⟨gb467, 1, none⟩ (.int .i64 ((rd_T55 s0_1 x14_4).f1))).setCell ⟨gb467, 2, none⟩ (.int .i64 ((rd_T55 s0_1 x14_4).f2)))).cell? _ = some _ from hx472_0))
                                              clear hn472_0
                                              clear hn472_1
                                              clear hn472_2
                                              replace p472 := eq_true p472
                                              replace q472 := eq_true q472
                                              go_wp2
                                              repeat (go_quiet (fail); try go_wp2)
                                              go_meet
                                              case rel => exact ⟨_, (true), (by first | rfl | (simp; done) | (simp [*]; done)), H', ⟨by have := HK1.out; have := HK2.out; have := HK3.out; have := HK4.out; first | omega | exact Nat.le_refl _⟩, ⟨by (with_reducible repeat (first | apply Kd.R_alloc | apply Kd.R_drewN | apply Kd.R_drew)); exact Kd.R_mono (Kd.R_far (p := ⟨gb467, 2, none⟩) (Kd.R_far (p := ⟨gb467, 1, none⟩) (Kd.R_far (p := ⟨gb467, 0, none⟩) (Kd.R_types HO_7.out BK467.out (by decide)) (fun _ hk => hk.2) (.int .i64 ((rd_T55 s0_1 x14_4).f0))) (fun _ hk => hk.2) (.int .i64 ((rd_T55 s0_1 x14_4).f1))) (fun _ hk => hk.2) (.int .i64 ((rd_T55 s0_1 x14_4).f2))) (fun _ hk => hk.1)⟩, ⟨by (with_reducible repeat (first | apply Kd.R_alloc | apply Kd.R_drewN | apply Kd.R_drew)); exact Kd.R_mono (Kd.R_far (p := ⟨gb467, 2, none⟩) (Kd.R_far (p := ⟨gb467, 1, none⟩) (Kd.R_far (p := ⟨gb467, 0, none⟩) (Kd.R_types HO_8.out BK467.out (by decide)) (fun _ hk => hk.2) (.int .i64 ((rd_T55 s0_1 x14_4).f0))) (fun _ hk => hk.2) (.int .i64 ((rd_T55 s0_1 x14_4).f1))) (fun _ hk => hk.2) (.int .i64 ((rd_T55 s0_1 x14_4).f2))) (fun _ hk => hk.1)⟩, ⟨by (with_reducible repeat (first | refine blk_drewN ?_ _ | refine blk_drew ?_ | refine blk_alloc ?_ _)); refine blk_put (cs := #[.int .i64 ((rd_T55 s0_1 x14_4).f0), .int .i64 ((rd_T55 s0_1 x14_4).f1), .int .i64 0]) ?_ 2 _ rfl; (with_reducible repeat (first | refine blk_drewN ?_ _ | refine blk_drew ?_ | refine blk_alloc ?_ _)); refine blk_put (cs := #[.int .i64 ((rd_T55 s0_1 x14_4).f0), .int .i64 0, .int .i64 0]) ?_ 1 _ rfl; (with_reducible repeat (first | refine blk_drewN ?_ _ | refine blk_drew ?_ | refine blk_alloc ?_ _)); refine blk_put (cs := #[.int .i64 0, .int .i64 0, .int .i64 0]) ?_ 0 _ rfl; (with_reducible repeat (first | refine blk_drewN ?_ _ | refine blk_drew ?_ | refine blk_alloc ?_ _)); exact BK467.out⟩, ⟨by repeat (first | (with_reducible first | exact HI0.out | apply IsS36.alloc | apply IsS36.drewN | apply IsS36.drew | refine IsS36.far ?_ NB0_467.out _) | exact HI0.out)⟩, ⟨by repeat (first | (with_reducible first | exact HK.out | apply KeepBut.set_ | apply keep_drewN | apply keep_drew | apply keep_alloc | refine keep_far ?_ GW467.out _) | exact HK.out)⟩, ⟨by repeat (first | (with_reducible first | exact HB.out | apply below_alloc | apply pw_below_drewN | apply below_drew1 | refine below_set ?_ (IsS36.ge HI0.out) | refine below_set ?_ GE467.out) | exact HB.out)⟩⟩
                                            · rw [if_neg c85] at H
                                              have c85b0 : decide ((rd x7_4 ((rd_T55 s0_1 x14_4).f1)) < 0) = false := decide_eq_false c85
                                              clear c85
                                              by_cases c88 : (wrap64 ((rd x7_4 ((rd_T55 s0_1 x14_4).f0)) + ((rd_T55 s0_1 x14_4).f2))) < (rd x7_4 ((rd_T55 s0_1 x14_4).f1))
                                              · rw [if_pos c88] at H
                                                have c88b0 : decide ((wrap64 ((rd x7_4 ((rd_T55 s0_1 x14_4).f0)) + ((rd_T55 s0_1 x14_4).f2))) < (rd x7_4 ((rd_T55 s0_1 x14_4).f1))) = true := decide_eq_true c88
                                                clear c88
                                                have H' := Aside0.mk H
                                                clear H
                                                have hnb89 := NB467_0.out
                                                have hnc89 := NB0_467.out
                                                have hcz90_0 : w78.cell? ⟨gb467, 0, none⟩ = some (.int .i64 0) := (blk_cell BK467.out 0).trans rfl
                                                have hcz90_1 : w78.cell? ⟨gb467, 1, none⟩ = some (.int .i64 0) := (blk_cell BK467.out 1).trans rfl
                                                have hcz90_2 : w78.cell? ⟨gb467, 2, none⟩ = some (.int .i64 0) := (blk_cell BK467.out 2).trans rfl
                                                have hfz90_0 := blk_frozen BK467.out 0
                                                have hfz90_1 := blk_frozen BK467.out 1
                                                have hfz90_2 := blk_frozen BK467.out 2
                                                have p472 : 0 ≤ (((rd_T55 s0_1 x14_4).f1) : Int) := of_decide_eq_true (by first | (with_reducible assumption) | assumption)
                                                have q472 : ((rd_T55 s0_1 x14_4).f1) < (x7_4.length : Int) := of_decide_eq_true (by first | (with_reducible assumption) | assumption)
                                                obtain ⟨ad472, e472, hx472_0⟩ := Kd.at_int (Kd.R_reads' HO_7.out).2.2 ((rd_T55 s0_1 x14_4).f1) p472 q472
                                                obtain rfl : ad468 = ad472 := (by injection e472)
                                                have hn472_0 : ad468.block ≠ gb467 := Kd.own_blk (Kd.R_ne HO_7.out BK467.out (by decide))
                                                have hn472_1 : ad468.block ≠ gb467 := Kd.own_blk (Kd.R_ne HO_7.out BK467.out (by decide))
                                                have hn472_2 : ad468.block ≠ gb467 := Kd.own_blk (Kd.R_ne HO_7.out BK467.out (by decide))
                                                replace hx472_0 := (cell_far (p := ⟨gb467, 0, none⟩) (by first | (rw [add_block]; exact hn472_0) | (show (Addr.add _ _).block ≠ _; rw [add_block]; exact hn472_0) | exact hn472_0) (.int .i64 ((rd_T55 s0_1 x14_4).f0))).trans hx472_0
                                                replace hx472_0 := (cell_far (p := ⟨gb467, 1, none⟩) (by first | (rw [add_block]; exact hn472_1) | (show (Addr.add _ _).block ≠ _; rw [add_block]; exact hn472_1) | exact hn472_1) (.int .i64 ((rd_T55 s0_1 x14_4).f1))).trans hx472_0
                                                replace hx472_0 := (cell_far (p := ⟨gb467, 2, none⟩) (by first | (rw [add_block]; exact hn472_2) | (show (Addr.add _ _).block ≠ _; rw [add_block]; exact hn472_2) | exact hn472_2) (.int .i64 ((rd_T55 s0_1 x14_4).f2))).trans hx472_0
                                                (try have hy472_0 := fun (n_ : Nat) => (show (((((w78.drewN n_).setCell ⟨gb467, 0, none⟩ (.int .i64 ((rd_T55 s0_1 x14_4).f0))).setCell ⟨gb467, 1, none⟩ (.int .i64 ((rd_T55 s0_1 x14_4).f1))).setCell ⟨gb467, 2, none⟩ (.int .i64 ((rd_T55 s0_1 x14_4).f2)))).cell? _ = some _ from hx472_0))
                                                clear hn472_0
                                                clear hn472_1
                                                clear hn472_2
                                                replace p472 := eq_true p472
                                                replace q472 := eq_true q472
                                                have p473 : 0 ≤ (((rd_T55 s0_1 x14_4).f1) : Int) := of_decide_eq_true (by first | (with_reducible assumption) | assumption)
                                                have q473 : ((rd_T55 s0_1 x14_4).f1) < (x7_4.length : Int) := of_decide_eq_true (by first | (with_reducible assumption) | assumption)
                                                obtain ⟨ad473, e473, hx473_0⟩ := Kd.at_int (Kd.R_reads' HO_7.out).2.2 ((rd_T55 s0_1 x14_4).f1) p473 q473
                                                obtain rfl : ad468 = ad473 := (by injection e473)
                                                have hn473_0 : ad468.block ≠ gb467 := Kd.own_blk (Kd.R_ne HO_7.out BK467.out (by decide))
                                                have hn473_1 : ad468.block ≠ gb467 := Kd.own_blk (Kd.R_ne HO_7.out BK467.out (by decide))
                                                have hn473_2 : ad468.block ≠ gb467 := Kd.own_blk (Kd.R_ne HO_7.out BK467.out (by decide))
                                                replace hx473_0 := (cell_far (p := ⟨gb467, 0, none⟩) (by first | (rw [add_block]; exact hn473_0) | (show (Addr.add _ _).block ≠ _; rw [add_block]; exact hn473_0) | exact hn473_0) (.int .i64 ((rd_T55 s0_1 x14_4).f0))).trans hx473_0
                                                replace hx473_0 := (cell_far (p := ⟨gb467, 1, none⟩) (by first | (rw [add_block]; exact hn473_1) | (show (Addr.add _ _).block ≠ _; rw [add_block]; exact hn473_1) | exact hn473_1) (.int .i64 ((rd_T55 s0_1 x14_4).f1))).trans hx473_0
                                                replace hx473_0 := (cell_far (p := ⟨gb467, 2, none⟩) (by first | (rw [add_block]; exact hn473_2) | (show (Addr.add _ _).block ≠ _; rw [add_block]; exact hn473_2) | exact hn473_2) (.int .i64 ((rd_T55 s0_1 x14_4).f2))).trans hx473_0
                                                (try have hy473_0 := fun (n_ : Nat) => (show (((((w78.drewN n_).setCell ⟨gb467, 0, none⟩ (.int .i64 ((rd_T55 s0_1 x14_4).f0))).setCell ⟨gb467, 1, none⟩ (.int .i64 ((rd_T55 s0_1 x14_4).f1))).setCell ⟨gb467, 2, none⟩ (.int .i64 ((rd_T55 s0_1 x14_4).f2)))).cell? _ = some _ from hx473_0))
                                                clear hn473_0
                                                clear hn473_1
                                                clear hn473_2
                                                replace p473 := eq_true p473
                                                replace q473 := eq_true q473
                                                go_wp2
                                                repeat (go_quiet (fail); try go_wp2)
                                                go_meet
                                                case rel => exact ⟨_, (true), (by first | rfl | (simp; done) | (simp [*]; done)), H', ⟨by have := HK1.out; have := HK2.out; have := HK3.out; have := HK4.out; first | omega | exact Nat.le_refl _⟩, ⟨by (with_reducible repeat (first | apply Kd.R_alloc | apply Kd.R_drewN | apply Kd.R_drew)); exact Kd.R_mono (Kd.R_far (p := ⟨gb467, 2, none⟩) (Kd.R_far (p := ⟨gb467, 1, none⟩) (Kd.R_far (p := ⟨gb467, 0, none⟩) (Kd.R_types HO_7.out BK467.out (by decide)) (fun _ hk => hk.2) (.int .i64 ((rd_T55 s0_1 x14_4).f0))) (fun _ hk => hk.2) (.int .i64 ((rd_T55 s0_1 x14_4).f1))) (fun _ hk => hk.2) (.int .i64 ((rd_T55 s0_1 x14_4).f2))) (fun _ hk => hk.1)⟩, ⟨by (with_reducible repeat (first | apply Kd.R_alloc | apply Kd.R_drewN | apply Kd.R_drew)); exact Kd.R_mono (Kd.R_far (p := ⟨gb467, 2, none⟩) (Kd.R_far (p := ⟨gb467, 1, none⟩) (Kd.R_far (p := ⟨gb467, 0, none⟩) (Kd.R_types HO_8.out BK467.out (by decide)) (fun _ hk => hk.2) (.int .i64 ((rd_T55 s0_1 x14_4).f0))) (fun _ hk => hk.2) (.int .i64 ((rd_T55 s0_1 x14_4).f1))) (fun _ hk => hk.2) (.int .i64 ((rd_T55 s0_1 x14_4).f2))) (fun _ hk => hk.1)⟩, ⟨by (with_reducible repeat (first | refine blk_drewN ?_ _ | refine blk_drew ?_ | refine blk_alloc ?_ _)); refine blk_put (cs := #[.int .i64 ((rd_T55 s0_1 x14_4).f0), .int .i64 ((rd_T55 s0_1 x14_4).f1), .int .i64 0]) ?_ 2 _ rfl; (with_reducible repeat (first | refine blk_drewN ?_ _ | refine blk_drew ?_ | refine blk_alloc ?_ _)); refine blk_put (cs := #[.int .i64 ((rd_T55 s0_1 x14_4).f0), .int .i64 0, .int .i64 0]) ?_ 1 _ rfl; (with_reducible repeat (first | refine blk_drewN ?_ _ | refine blk_drew ?_ | refine blk_alloc ?_ _)); refine blk_put (cs := #[.int .i64 0, .int .i64 0, .int .i64 0]) ?_ 0 _ rfl; (with_reducible repeat (first | refine blk_drewN ?_ _ | refine blk_drew ?_ | refine blk_alloc ?_ _)); exact BK467.out⟩, ⟨by repeat (first | (with_reducible first | exact HI0.out | apply IsS36.alloc | apply IsS36.drewN | apply IsS36.drew | refine IsS36.far ?_ NB0_467.out _) | exact HI0.out)⟩, ⟨by repeat (first | (with_reducible first | exact HK.out | apply KeepBut.set_ | apply keep_drewN | apply keep_drew | apply keep_alloc | refine keep_far ?_ GW467.out _) | exact HK.out)⟩, ⟨by repeat (first | (with_reducible first | exact HB.out | apply below_alloc | apply pw_below_drewN | apply below_drew1 | refine below_set ?_ (IsS36.ge HI0.out) | refine below_set ?_ GE467.out) | exact HB.out)⟩⟩
                                              · rw [if_neg c88] at H
                                                have c88b0 : decide ((wrap64 ((rd x7_4 ((rd_T55 s0_1 x14_4).f0)) + ((rd_T55 s0_1 x14_4).f2))) < (rd x7_4 ((rd_T55 s0_1 x14_4).f1))) = false := decide_eq_false c88
                                                clear c88
                                                by_cases c91 : (wrap64 ((rd x7_4 ((rd_T55 s0_1 x14_4).f0)) + ((rd_T55 s0_1 x14_4).f2))) = (rd x7_4 ((rd_T55 s0_1 x14_4).f1))
                                                · rw [if_pos c91] at H
                                                  have c91b0 : ((wrap64 ((rd x7_4 ((rd_T55 s0_1 x14_4).f0)) + ((rd_T55 s0_1 x14_4).f2))) == (rd x7_4 ((rd_T55 s0_1 x14_4).f1))) = true := beq_iff_eq.mpr c91
                                                  have c91b1 : ((wrap64 ((rd x7_4 ((rd_T55 s0_1 x14_4).f0)) + ((rd_T55 s0_1 x14_4).f2))) != (rd x7_4 ((rd_T55 s0_1 x14_4).f1))) = false := bne_eq_false_iff_eq.mpr c91
                                                  clear c91
                                                  by_cases c92 : ((rd_T55 s0_1 x14_4).f1) < (x8_4.length : Int)
                                                  · rw [if_pos c92] at H
                                                    have c92b0 : decide (((rd_T55 s0_1 x14_4).f1) < (x8_4.length : Int)) = true := decide_eq_true c92
                                                    clear c92
                                                    have H' := Aside0.mk H
                                                    clear H
                                                    have hnb93 := NB467_0.out
                                                    have hnc93 := NB0_467.out
                                                    have hcz94_0 : w78.cell? ⟨gb467, 0, none⟩ = some (.int .i64 0) := (blk_cell BK467.out 0).trans rfl
                                                    have hcz94_1 : w78.cell? ⟨gb467, 1, none⟩ = some (.int .i64 0) := (blk_cell BK467.out 1).trans rfl
                                                    have hcz94_2 : w78.cell? ⟨gb467, 2, none⟩ = some (.int .i64 0) := (blk_cell BK467.out 2).trans rfl
                                                    have hfz94_0 := blk_frozen BK467.out 0
                                                    have hfz94_1 := blk_frozen BK467.out 1
                                                    have hfz94_2 := blk_frozen BK467.out 2
                                                    have p472 : 0 ≤ (((rd_T55 s0_1 x14_4).f1) : Int) := of_decide_eq_true (by first | (with_reducible assumption) | assumption)
                                                    have q472 : ((rd_T55 s0_1 x14_4).f1) < (x7_4.length : Int) := of_decide_eq_true (by first | (with_reducible assumption) | assumption)
                                                    obtain ⟨ad472, e472, hx472_0⟩ := Kd.at_int (Kd.R_reads' HO_7.out).2.2 ((rd_T55 s0_1 x14_4).f1) p472 q472
                                                    obtain rfl : ad468 = ad472 := (by injection e472)
                                                    have hn472_0 : ad468.block ≠ gb467 := Kd.own_blk (Kd.R_ne HO_7.out BK467.out (by decide))
                                                    have hn472_1 : ad468.block ≠ gb467 := Kd.own_blk (Kd.R_ne HO_7.out BK467.out (by decide))
                                                    have hn472_2 : ad468.block ≠ gb467 := Kd.own_blk (Kd.R_ne HO_7.out BK467.out (by decide))
                                                    replace hx472_0 := (cell_far (p := ⟨gb467, 0, none⟩) (by first | (rw [add_block]; exact hn472_0) | (show (Addr.add _ _).block ≠ _; rw [add_block]; exact hn472_0) | exact hn472_0) (.int .i64 ((rd_T55 s0_1 x14_4).f0))).trans hx472_0
                                                    replace hx472_0 := (cell_far (p := ⟨gb467, 1, none⟩) (by first | (rw [add_block]; exact hn472_1) | (show (Addr.add _ _).block ≠ _; rw [add_block]; exact hn472_1) | exact hn472_1) (.int .i64 ((rd_T55 s0_1 x14_4).f1))).trans hx472_0
                                                    replace hx472_0 := (cell_far (p := ⟨gb467, 2, none⟩) (by first | (rw [add_block]; exact hn472_2) | (show (Addr.add _ _).block ≠ _; rw [add_block]; exact hn472_2) | exact hn472_2) (.int .i64 ((rd_T55 s0_1 x14_4).f2))).trans hx472_0
                                                    (try have hy472_0 := fun (n_ : Nat) => (show (((((w78.drewN n_).setCell ⟨gb467, 0, none⟩ (.int .i64 ((rd_T55 s0_1 x14_4).f0))).setCell ⟨gb467, 1, none⟩ (.int .i64 ((rd_T55 s0_1 x14_4).f1))).setCell ⟨gb467, 2, none⟩ (.int .i64 ((rd_T55 s0_1 x14_4).f2)))).cell? _ = some _ from hx472_0))
                                                    clear hn472_0
                                                    clear hn472_1
                                                    clear hn472_2
                                                    replace p472 := eq_true p472
                                                    replace q472 := eq_true q472
                                                    have p473 : 0 ≤ (((rd_T55 s0_1 x14_4).f1) : Int) := of_decide_eq_true (by first | (with_reducible assumption) | assumption)
                                                    have q473 : ((rd_T55 s0_1 x14_4).f1) < (x7_4.length : Int) := of_decide_eq_true (by first | (with_reducible assumption) | assumption)
                                                    obtain ⟨ad473, e473, hx473_0⟩ := Kd.at_int (Kd.R_reads' HO_7.out).2.2 ((rd_T55 s0_1 x14_4).f1) p473 q473
                                                    obtain rfl : ad468 = ad473 := (by injection e473)
                                                    have hn473_0 : ad468.block ≠ gb467 := Kd.own_blk (Kd.R_ne HO_7.out BK467.out (by decide))
                                                    have hn473_1 : ad468.block ≠ gb467 := Kd.own_blk (Kd.R_ne HO_7.out BK467.out (by decide))
                                                    have hn473_2 : ad468.block ≠ gb467 := Kd.own_blk (Kd.R_ne HO_7.out BK467.out (by decide))
                                                    replace hx473_0 := (cell_far (p := ⟨gb467, 0, none⟩) (by first | (rw [add_block]; exact hn473_0) | (show (Addr.add _ _).block ≠ _; rw [add_block]; exact hn473_0) | exact hn473_0) (.int .i64 ((rd_T55 s0_1 x14_4).f0))).trans hx473_0
                                                    replace hx473_0 := (cell_far (p := ⟨gb467, 1, none⟩) (by first | (rw [add_block]; exact hn473_1) | (show (Addr.add _ _).block ≠ _; rw [add_block]; exact hn473_1) | exact hn473_1) (.int .i64 ((rd_T55 s0_1 x14_4).f1))).trans hx473_0
                                                    replace hx473_0 := (cell_far (p := ⟨gb467, 2, none⟩) (by first | (rw [add_block]; exact hn473_2) | (show (Addr.add _ _).block ≠ _; rw [add_block]; exact hn473_2) | exact hn473_2) (.int .i64 ((rd_T55 s0_1 x14_4).f2))).trans hx473_0
                                                    (try have hy473_0 := fun (n_ : Nat) => (show (((((w78.drewN n_).setCell ⟨gb467, 0, none⟩ (.int .i64 ((rd_T55 s0_1 x14_4).f0))).setCell ⟨gb467, 1, none⟩ (.int .i64 ((rd_T55 s0_1 x14_4).f1))).setCell ⟨gb467, 2, none⟩ (.int .i64 ((rd_T55 s0_1 x14_4).f2)))).cell? _ = some _ from hx473_0))
                                                    clear hn473_0
                                                    clear hn473_1
                                                    clear hn473_2
                                                    replace p473 := eq_true p473
                                                    replace q473 := eq_true q473
                                                    have p474 : 0 ≤ (((rd_T55 s0_1 x14_4).f1) : Int) := of_decide_eq_true (by first | (with_reducible assumption) | assumption)
                                                    have q474 : ((rd_T55 s0_1 x14_4).f1) < (x7_4.length : Int) := of_decide_eq_true (by first | (with_reducible assumption) | assumption)
                                                    obtain ⟨ad474, e474, hx474_0⟩ := Kd.at_int (Kd.R_reads' HO_7.out).2.2 ((rd_T55 s0_1 x14_4).f1) p474 q474
                                                    obtain rfl : ad468 = ad474 := (by injection e474)
                                                    have hn474_0 : ad468.block ≠ gb467 := Kd.own_blk (Kd.R_ne HO_7.out BK467.out (by decide))
                                                    have hn474_1 : ad468.block ≠ gb467 := Kd.own_blk (Kd.R_ne HO_7.out BK467.out (by decide))
                                                    have hn474_2 : ad468.block ≠ gb467 := Kd.own_blk (Kd.R_ne HO_7.out BK467.out (by decide))
                                                    replace hx474_0 := (cell_far (p := ⟨gb467, 0, none⟩) (by first | (rw [add_block]; exact hn474_0) | (show (Addr.add _ _).block ≠ _; rw [add_block]; exact hn474_0) | exact hn474_0) (.int .i64 ((rd_T55 s0_1 x14_4).f0))).trans hx474_0
                                                    replace hx474_0 := (cell_far (p := ⟨gb467, 1, none⟩) (by first | (rw [add_block]; exact hn474_1) | (show (Addr.add _ _).block ≠ _; rw [add_block]; exact hn474_1) | exact hn474_1) (.int .i64 ((rd_T55 s0_1 x14_4).f1))).trans hx474_0
                                                    replace hx474_0 := (cell_far (p := ⟨gb467, 2, none⟩) (by first | (rw [add_block]; exact hn474_2) | (show (Addr.add _ _).block ≠ _; rw [add_block]; exact hn474_2) | exact hn474_2) (.int .i64 ((rd_T55 s0_1 x14_4).f2))).trans hx474_0
                                                    (try have hy474_0 := fun (n_ : Nat) => (show (((((w78.drewN n_).setCell ⟨gb467, 0, none⟩ (.int .i64 ((rd_T55 s0_1 x14_4).f0))).setCell ⟨gb467, 1, none⟩ (.int .i64 ((rd_T55 s0_1 x14_4).f1))).setCell ⟨gb467, 2, none⟩ (.int .i64 ((rd_T55 s0_1 x14_4).f2)))).cell? _ = some _ from hx474_0))
                                                    clear hn474_0
                                                    clear hn474_1
                                                    clear hn474_2
                                                    replace p474 := eq_true p474
                                                    replace q474 := eq_true q474
                                                    have p475 : 0 ≤ (((rd_T55 s0_1 x14_4).f1) : Int) := of_decide_eq_true (by first | (with_reducible assumption) | assumption)
                                                    have q475 : ((rd_T55 s0_1 x14_4).f1) < (x8_4.length : Int) := of_decide_eq_true (by first | (with_reducible assumption) | assumption)
                                                    obtain ⟨ad475, e475, hx475_0⟩ := Kd.at_int (Kd.R_reads' HO_8.out).2.2 ((rd_T55 s0_1 x14_4).f1) p475 q475
                                                    obtain rfl : ad470 = ad475 := (by injection e475)
                                                    have hn475_0 : ad470.block ≠ gb467 := Kd.own_blk (Kd.R_ne HO_8.out BK467.out (by decide))
                                                    have hn475_1 : ad470.block ≠ gb467 := Kd.own_blk (Kd.R_ne HO_8.out BK467.out (by decide))
                                                    have hn475_2 : ad470.block ≠ gb467 := Kd.own_blk (Kd.R_ne HO_8.out BK467.out (by decide))
                                                    replace hx475_0 := (cell_far (p := ⟨gb467, 0, none⟩) (by first | (rw [add_block]; exact hn475_0) | (show (Addr.add _ _).block ≠ _; rw [add_block]; exact hn475_0) | exact hn475_0) (.int .i64 ((rd_T55 s0_1 x14_4).f0))).trans hx475_0
                                                    replace hx475_0 := (cell_far (p := ⟨gb467, 1, none⟩) (by first | (rw [add_block]; exact hn475_1) | (show (Addr.add _ _).block ≠ _; rw [add_block]; exact hn475_1) | exact hn475_1) (.int .i64 ((rd_T55 s0_1 x14_4).f1))).trans hx475_0
                                                    replace hx475_0 := (cell_far (p := ⟨gb467, 2, none⟩) (by first | (rw [add_block]; exact hn475_2) | (show (Addr.add _ _).block ≠ _; rw [add_block]; exact hn475_2) | exact hn475_2) (.int .i64 ((rd_T55 s0_1 x14_4).f2))).trans hx475_0
                                                    (try have hy475_0 := fun (n_ : Nat) => (show (((((w78.drewN n_).setCell ⟨gb467, 0, none⟩ (.int .i64 ((rd_T55 s0_1 x14_4).f0))).setCell ⟨gb467, 1, none⟩ (.int .i64 ((rd_T55 s0_1 x14_4).f1))).setCell ⟨gb467, 2, none⟩ (.int .i64 ((rd_T55 s0_1 x14_4).f2)))).cell? _ = some _ from hx475_0))
                                                    clear hn475_0
                                                    clear hn475_1
                                                    clear hn475_2
                                                    replace p475 := eq_true p475
                                                    replace q475 := eq_true q475
                                                    go_wp2
                                                    repeat (go_quiet (fail); try go_wp2)
                                                    go_meet
                                                    case rel => exact ⟨_, (decide ((wrap64 ((rd x8_4 ((rd_T55 s0_1 x14_4).f0)) + (rd s0_0 ((rd_T55 s0_1 x14_4).f1)))) > (rd x8_4 ((rd_T55 s0_1 x14_4).f1)))), (by first | rfl | (simp; done) | (simp [*]; done)), H', ⟨by have := HK1.out; have := HK2.out; have := HK3.out; have := HK4.out; first | omega | exact Nat.le_refl _⟩, ⟨by (with_reducible repeat (first | apply Kd.R_alloc | apply Kd.R_drewN | apply Kd.R_drew)); exact Kd.R_mono (Kd.R_far (p := ⟨gb467, 2, none⟩) (Kd.R_far (p := ⟨gb467, 1, none⟩) (Kd.R_far (p := ⟨gb467, 0, none⟩) (Kd.R_types HO_7.out BK467.out (by decide)) (fun _ hk => hk.2) (.int .i64 ((rd_T55 s0_1 x14_4).f0))) (fun _ hk => hk.2) (.int .i64 ((rd_T55 s0_1 x14_4).f1))) (fun _ hk => hk.2) (.int .i64 ((rd_T55 s0_1 x14_4).f2))) (fun _ hk => hk.1)⟩, ⟨by (with_reducible repeat (first | apply Kd.R_alloc | apply Kd.R_drewN | apply Kd.R_drew)); exact Kd.R_mono (Kd.R_far (p := ⟨gb467, 2, none⟩) (Kd.R_far (p := ⟨gb467, 1, none⟩) (Kd.R_far (p := ⟨gb467, 0, none⟩) (Kd.R_types HO_8.out BK467.out (by decide)) (fun _ hk => hk.2) (.int .i64 ((rd_T55 s0_1 x14_4).f0))) (fun _ hk => hk.2) (.int .i64 ((rd_T55 s0_1 x14_4).f1))) (fun _ hk => hk.2) (.int .i64 ((rd_T55 s0_1 x14_4).f2))) (fun _ hk => hk.1)⟩, ⟨by (with_reducible repeat (first | refine blk_drewN ?_ _ | refine blk_drew ?_ | refine blk_alloc ?_ _)); refine blk_put (cs := #[.int .i64 ((rd_T55 s0_1 x14_4).f0), .int .i64 ((rd_T55 s0_1 x14_4).f1), .int .i64 0]) ?_ 2 _ rfl; (with_reducible repeat (first | refine blk_drewN ?_ _ | refine blk_drew ?_ | refine blk_alloc ?_ _)); refine blk_put (cs := #[.int .i64 ((rd_T55 s0_1 x14_4).f0), .int .i64 0, .int .i64 0]) ?_ 1 _ rfl; (with_reducible repeat (first | refine blk_drewN ?_ _ | refine blk_drew ?_ | refine blk_alloc ?_ _)); refine blk_put (cs := #[.int .i64 0, .int .i64 0, .int .i64 0]) ?_ 0 _ rfl; (with_reducible repeat (first | refine blk_drewN ?_ _ | refine blk_drew ?_ | refine blk_alloc ?_ _)); exact BK467.out⟩, ⟨by repeat (first | (with_reducible first | exact HI0.out | apply IsS36.alloc | apply IsS36.drewN | apply IsS36.drew | refine IsS36.far ?_ NB0_467.out _) | exact HI0.out)⟩, ⟨by repeat (first | (with_reducible first | exact HK.out | apply KeepBut.set_ | apply keep_drewN | apply keep_drew | apply keep_alloc | refine keep_far ?_ GW467.out _) | exact HK.out)⟩, ⟨by repeat (first | (with_reducible first | exact HB.out | apply below_alloc | apply pw_below_drewN | apply below_drew1 | refine below_set ?_ (IsS36.ge HI0.out) | refine below_set ?_ GE467.out) | exact HB.out)⟩⟩
                                                  · rw [if_neg c92] at H
                                                    exact absurd H (by simp)
                                                · rw [if_neg c91] at H
                                                  have c91b0 : ((wrap64 ((rd x7_4 ((rd_T55 s0_1 x14_4).f0)) + ((rd_T55 s0_1 x14_4).f2))) == (rd x7_4 ((rd_T55 s0_1 x14_4).f1))) = false := beq_eq_false_iff_ne.mpr c91
                                                  have c91b1 : ((wrap64 ((rd x7_4 ((rd_T55 s0_1 x14_4).f0)) + ((rd_T55 s0_1 x14_4).f2))) != (rd x7_4 ((rd_T55 s0_1 x14_4).f1))) = true := bne_iff_ne.mpr c91
                                                  have H' := Aside0.mk H
                                                  clear H
                                                  have hnb95 := NB467_0.out
                                                  have hnc95 := NB0_467.out
                                                  have hcz96_0 : w78.cell? ⟨gb467, 0, none⟩ = some (.int .i64 0) := (blk_cell BK467.out 0).trans rfl
                                                  have hcz96_1 : w78.cell? ⟨gb467, 1, none⟩ = some (.int .i64 0) := (blk_cell BK467.out 1).trans rfl
                                                  have hcz96_2 : w78.cell? ⟨gb467, 2, none⟩ = some (.int .i64 0) := (blk_cell BK467.out 2).trans rfl
                                                  have hfz96_0 := blk_frozen BK467.out 0
                                                  have hfz96_1 := blk_frozen BK467.out 1
                                                  have hfz96_2 := blk_frozen BK467.out 2
                                                  have p472 : 0 ≤ (((rd_T55 s0_1 x14_4).f1) : Int) := of_decide_eq_true (by first | (with_reducible assumption) | assumption)
                                                  have q472 : ((rd_T55 s0_1 x14_4).f1) < (x7_4.length : Int) := of_decide_eq_true (by first | (with_reducible assumption) | assumption)
                                                  obtain ⟨ad472, e472, hx472_0⟩ := Kd.at_int (Kd.R_reads' HO_7.out).2.2 ((rd_T55 s0_1 x14_4).f1) p472 q472
                                                  obtain rfl : ad468 = ad472 := (by injection e472)
                                                  have hn472_0 : ad468.block ≠ gb467 := Kd.own_blk (Kd.R_ne HO_7.out BK467.out (by decide))
                                                  have hn472_1 : ad468.block ≠ gb467 := Kd.own_blk (Kd.R_ne HO_7.out BK467.out (by decide))
                                                  have hn472_2 : ad468.block ≠ gb467 := Kd.own_blk (Kd.R_ne HO_7.out BK467.out (by decide))
                                                  replace hx472_0 := (cell_far (p := ⟨gb467, 0, none⟩) (by first | (rw [add_block]; exact hn472_0) | (show (Addr.add _ _).block ≠ _; rw [add_block]; exact hn472_0) | exact hn472_0) (.int .i64 ((rd_T55 s0_1 x14_4).f0))).trans hx472_0
                                                  replace hx472_0 := (cell_far (p := ⟨gb467, 1, none⟩) (by first | (rw [add_block]; exact hn472_1) | (show (Addr.add _ _).block ≠ _; rw [add_block]; exact hn472_1) | exact hn472_1) (.int .i64 ((rd_T55 s0_1 x14_4).f1))).trans hx472_0
                                                  replace hx472_0 := (cell_far (p := ⟨gb467, 2, none⟩) (by first | (rw [add_block]; exact hn472_2) | (show (Addr.add _ _).block ≠ _; rw [add_block]; exact hn472_2) | exact hn472_2) (.int .i64 ((rd_T55 s0_1 x14_4).f2))).trans hx472_0
                                                  (try have hy472_0 := fun (n_ : Nat) => (show (((((w78.drewN n_).setCell ⟨gb467, 0, none⟩ (.int .i64 ((rd_T55 s0_1 x14_4).f0))).setCell ⟨gb467, 1, none⟩ (.int .i64 ((rd_T55 s0_1 x14_4).f1))).setCell ⟨gb467, 2, none⟩ (.int .i64 ((rd_T55 s0_1 x14_4).f2)))).cell? _ = some _ from hx472_0))
                                                  clear hn472_0
                                                  clear hn472_1
                                                  clear hn472_2
                                                  replace p472 := eq_true p472
                                                  replace q472 := eq_true q472
                                                  have p473 : 0 ≤ (((rd_T55 s0_1 x14_4).f1) : Int) := of_decide_eq_true (by first | (with_reducible assumption) | assumption)
                                                  have q473 : ((rd_T55 s0_1 x14_4).f1) < (x7_4.length : Int) := of_decide_eq_true (by first | (with_reducible assumption) | assumption)
                                                  obtain ⟨ad473, e473, hx473_0⟩ := Kd.at_int (Kd.R_reads' HO_7.out).2.2 ((rd_T55 s0_1 x14_4).f1) p473 q473
                                                  obtain rfl : ad468 = ad473 := (by injection e473)
                                                  have hn473_0 : ad468.block ≠ gb467 := Kd.own_blk (Kd.R_ne HO_7.out BK467.out (by decide))
                                                  have hn473_1 : ad468.block ≠ gb467 := Kd.own_blk (Kd.R_ne HO_7.out BK467.out (by decide))
                                                  have hn473_2 : ad468.block ≠ gb467 := Kd.own_blk (Kd.R_ne HO_7.out BK467.out (by decide))
                                                  replace hx473_0 := (cell_far (p := ⟨gb467, 0, none⟩) (by first | (rw [add_block]; exact hn473_0) | (show (Addr.add _ _).block ≠ _; rw [add_block]; exact hn473_0) | exact hn473_0) (.int .i64 ((rd_T55 s0_1 x14_4).f0))).trans hx473_0
                                                  replace hx473_0 := (cell_far (p := ⟨gb467, 1, none⟩) (by first | (rw [add_block]; exact hn473_1) | (show (Addr.add _ _).block ≠ _; rw [add_block]; exact hn473_1) | exact hn473_1) (.int .i64 ((rd_T55 s0_1 x14_4).f1))).trans hx473_0
                                                  replace hx473_0 := (cell_far (p := ⟨gb467, 2, none⟩) (by first | (rw [add_block]; exact hn473_2) | (show (Addr.add _ _).block ≠ _; rw [add_block]; exact hn473_2) | exact hn473_2) (.int .i64 ((rd_T55 s0_1 x14_4).f2))).trans hx473_0
                                                  (try have hy473_0 := fun (n_ : Nat) => (show (((((w78.drewN n_).setCell ⟨gb467, 0, none⟩ (.int .i64 ((rd_T55 s0_1 x14_4).f0))).setCell ⟨gb467, 1, none⟩ (.int .i64 ((rd_T55 s0_1 x14_4).f1))).setCell ⟨gb467, 2, none⟩ (.int .i64 ((rd_T55 s0_1 x14_4).f2)))).cell? _ = some _ from hx473_0))
                                                  clear hn473_0
                                                  clear hn473_1
                                                  clear hn473_2
                                                  replace p473 := eq_true p473
                                                  replace q473 := eq_true q473
                                                  have p474 : 0 ≤ (((rd_T55 s0_1 x14_4).f1) : Int) := of_decide_eq_true (by first | (with_reducible assumption) | assumption)
                                                  have q474 : ((rd_T55 s0_1 x14_4).f1) < (x7_4.length : Int) := of_decide_eq_true (by first | (with_reducible assumption) | assumption)
                                                  obtain ⟨ad474, e474, hx474_0⟩ := Kd.at_int (Kd.R_reads' HO_7.out).2.2 ((rd_T55 s0_1 x14_4).f1) p474 q474
                                                  obtain rfl : ad468 = ad474 := (by injection e474)
                                                  have hn474_0 : ad468.block ≠ gb467 := Kd.own_blk (Kd.R_ne HO_7.out BK467.out (by decide))
                                                  have hn474_1 : ad468.block ≠ gb467 := Kd.own_blk (Kd.R_ne HO_7.out BK467.out (by decide))
                                                  have hn474_2 : ad468.block ≠ gb467 := Kd.own_blk (Kd.R_ne HO_7.out BK467.out (by decide))
                                                  replace hx474_0 := (cell_far (p := ⟨gb467, 0, none⟩) (by first | (rw [add_block]; exact hn474_0) | (show (Addr.add _ _).block ≠ _; rw [add_block]; exact hn474_0) | exact hn474_0) (.int .i64 ((rd_T55 s0_1 x14_4).f0))).trans hx474_0
                                                  replace hx474_0 := (cell_far (p := ⟨gb467, 1, none⟩) (by first | (rw [add_block]; exact hn474_1) | (show (Addr.add _ _).block ≠ _; rw [add_block]; exact hn474_1) | exact hn474_1) (.int .i64 ((rd_T55 s0_1 x14_4).f1))).trans hx474_0
                                                  replace hx474_0 := (cell_far (p := ⟨gb467, 2, none⟩) (by first | (rw [add_block]; exact hn474_2) | (show (Addr.add _ _).block ≠ _; rw [add_block]; exact hn474_2) | exact hn474_2) (.int .i64 ((rd_T55 s0_1 x14_4).f2))).trans hx474_0
                                                  (try have hy474_0 := fun (n_ : Nat) => (show (((((w78.drewN n_).setCell ⟨gb467, 0, none⟩ (.int .i64 ((rd_T55 s0_1 x14_4).f0))).setCell ⟨gb467, 1, none⟩ (.int .i64 ((rd_T55 s0_1 x14_4).f1))).setCell ⟨gb467, 2, none⟩ (.int .i64 ((rd_T55 s0_1 x14_4).f2)))).cell? _ = some _ from hx474_0))
                                                  clear hn474_0
                                                  clear hn474_1
                                                  clear hn474_2
                                                  replace p474 := eq_true p474
                                                  replace q474 := eq_true q474
                                                  go_wp2
                                                  repeat (go_quiet (fail); try go_wp2)
                                                  go_meet
                                                  case rel => exact ⟨_, (false), (by first | rfl | (simp; done) | (simp [*]; done)), H', ⟨by have := HK1.out; have := HK2.out; have := HK3.out; have := HK4.out; first | omega | exact Nat.le_refl _⟩, ⟨by (with_reducible repeat (first | apply Kd.R_alloc | apply Kd.R_drewN | apply Kd.R_drew)); exact Kd.R_mono (Kd.R_far (p := ⟨gb467, 2, none⟩) (Kd.R_far (p := ⟨gb467, 1, none⟩) (Kd.R_far (p := ⟨gb467, 0, none⟩) (Kd.R_types HO_7.out BK467.out (by decide)) (fun _ hk => hk.2) (.int .i64 ((rd_T55 s0_1 x14_4).f0))) (fun _ hk => hk.2) (.int .i64 ((rd_T55 s0_1 x14_4).f1))) (fun _ hk => hk.2) (.int .i64 ((rd_T55 s0_1 x14_4).f2))) (fun _ hk => hk.1)⟩, ⟨by (with_reducible repeat (first | apply Kd.R_alloc | apply Kd.R_drewN | apply Kd.R_drew)); exact Kd.R_mono (Kd.R_far (p := ⟨gb467, 2, none⟩) (Kd.R_far (p := ⟨gb467, 1, none⟩) (Kd.R_far (p := ⟨gb467, 0, none⟩) (Kd.R_types HO_8.out BK467.out (by decide)) (fun _ hk => hk.2) (.int .i64 ((rd_T55 s0_1 x14_4).f0))) (fun _ hk => hk.2) (.int .i64 ((rd_T55 s0_1 x14_4).f1))) (fun _ hk => hk.2) (.int .i64 ((rd_T55 s0_1 x14_4).f2))) (fun _ hk => hk.1)⟩, ⟨by (with_reducible repeat (first | refine blk_drewN ?_ _ | refine blk_drew ?_ | refine blk_alloc ?_ _)); refine blk_put (cs := #[.int .i64 ((rd_T55 s0_1 x14_4).f0), .int .i64 ((rd_T55 s0_1 x14_4).f1), .int .i64 0]) ?_ 2 _ rfl; (with_reducible repeat (first | refine blk_drewN ?_ _ | refine blk_drew ?_ | refine blk_alloc ?_ _)); refine blk_put (cs := #[.int .i64 ((rd_T55 s0_1 x14_4).f0), .int .i64 0, .int .i64 0]) ?_ 1 _ rfl; (with_reducible repeat (first | refine blk_drewN ?_ _ | refine blk_drew ?_ | refine blk_alloc ?_ _)); refine blk_put (cs := #[.int .i64 0, .int .i64 0, .int .i64 0]) ?_ 0 _ rfl; (with_reducible repeat (first | refine blk_drewN ?_ _ | refine blk_drew ?_ | refine blk_alloc ?_ _)); exact BK467.out⟩, ⟨by repeat (first | (with_reducible first | exact HI0.out | apply IsS36.alloc | apply IsS36.drewN | apply IsS36.drew | refine IsS36.far ?_ NB0_467.out _) | exact HI0.out)⟩, ⟨by repeat (first | (with_reducible first | exact HK.out | apply KeepBut.set_ | apply keep_drewN | apply keep_drew | apply keep_alloc | refine keep_far ?_ GW467.out _) | exact HK.out)⟩, ⟨by repeat (first | (with_reducible first | exact HB.out | apply below_alloc | apply pw_below_drewN | apply below_drew1 | refine below_set ?_ (IsS36.ge HI0.out) | refine below_set ?_ GE467.out) | exact HB.out)⟩⟩
                                          · rw [if_neg c84] at H
                                            exact absurd H (by simp)
                                        case rest =>
                                          clear HC76
                                          try clear c1
                                          try clear c2
                                          try clear p2
                                          try clear c3
                                          try clear c4
                                          try clear p4
                                          try clear q4
                                          try clear hx4
                                          try clear hf4
                                          try clear c5
                                          try clear c6
                                          try clear p6
                                          try clear c7
                                          try clear c8
                                          try clear c8b0
                                          try clear c9
                                          try clear c10
                                          try clear c13
                                          try clear c13b0
                                          try clear c14
                                          try clear c14b0
                                          try clear c15
                                          try clear c15b0
                                          try clear c15b1
                                          try clear c16
                                          try clear c16b0
                                          try clear c17
                                          try clear c17b0
                                          try clear c18
                                          try clear c18b0
                                          try clear c19
                                          try clear c19b0
                                          try clear c23
                                          try clear c26
                                          try clear c26b0
                                          try clear c27
                                          try clear c27b0
                                          try clear c28
                                          try clear c31
                                          try clear c31b0
                                          try clear c32
                                          try clear c35
                                          try clear c35b0
                                          try clear c35b1
                                          try clear c36
                                          try clear c36b0
                                          try clear c37
                                          try clear c41
                                          try clear c44
                                          try clear c45
                                          try clear c45b0
                                          try clear p45
                                          try clear q45
                                          try clear hx45
                                          try clear c46
                                          try clear c46b0
                                          try clear p46
                                          try clear q46
                                          try clear hx46
                                          try clear p47
                                          try clear q47
                                          try clear hx47
                                          try clear hf47
                                          try clear c48
                                          try clear c48b0
                                          try clear p49
                                          try clear q49
                                          try clear hx49
                                          try clear hf49
                                          try clear c50
                                          try clear c59
                                          try clear c62
                                          try clear c63
                                          try clear c63b0
                                          try clear c64
                                          try clear c64b0
                                          try clear p64
                                          try clear c65
                                          try clear c65b0
                                          try clear c66
                                          try clear c66b0
                                          try clear c67
                                          try clear c67b0
                                          try clear c70
                                          try clear c73
                                          try clear c73b0
                                          try clear c74
                                          try clear c74b0
                                          try clear c75
                                          try clear c75b0
                                          try clear c79
                                          try clear c84
                                          try clear c84b0
                                          try clear c85
                                          try clear c85b0
                                          try clear c86
                                          try clear c88
                                          try clear c88b0
                                          try clear c89
                                          try clear c91
                                          try clear c91b0
                                          try clear c91b1
                                          try clear c92
                                          try clear c92b0
                                          try clear c93
                                          try clear c95
                                          try clear hcz21_0
                                          try clear hcz21_1
                                          try clear hcz24_0
                                          try clear hcz24_1
                                          try clear hcz24_2
                                          try clear hcz25_0
                                          try clear hcz25_1
                                          try clear hcz29_0
                                          try clear hcz29_1
                                          try clear hcz29_2
                                          try clear hcz33_0
                                          try clear hcz33_1
                                          try clear hcz33_2
                                          try clear hcz38_0
                                          try clear hcz38_1
                                          try clear hcz38_2
                                          try clear hcz3_0
                                          try clear hcz3_1
                                          try clear hcz42_0
                                          try clear hcz42_1
                                          try clear hcz42_2
                                          try clear hcz51_0
                                          try clear hcz51_1
                                          try clear hcz51_2
                                          try clear hcz54_0
                                          try clear hcz54_1
                                          try clear hcz54_2
                                          try clear hcz57_0
                                          try clear hcz57_1
                                          try clear hcz60_0
                                          try clear hcz60_1
                                          try clear hcz60_2
                                          try clear hcz61_0
                                          try clear hcz61_1
                                          try clear hcz68_0
                                          try clear hcz68_1
                                          try clear hcz71_0
                                          try clear hcz71_1
                                          try clear hcz71_2
                                          try clear hcz77_0
                                          try clear hcz77_1
                                          try clear hcz80_0
                                          try clear hcz80_1
                                          try clear hcz80_2
                                          try clear hcz83_0
                                          try clear hcz83_1
                                          try clear hcz87_0
                                          try clear hcz87_1
                                          try clear hcz87_2
                                          try clear hcz90_0
                                          try clear hcz90_1
                                          try clear hcz90_2
                                          try clear hcz94_0
                                          try clear hcz94_1
                                          try clear hcz94_2
                                          try clear hcz96_0
                                          try clear hcz96_1
                                          try clear hcz96_2
                                          try clear hfz24_0
                                          try clear hfz24_1
                                          try clear hfz24_2
                                          try clear hfz29_0
                                          try clear hfz29_1
                                          try clear hfz29_2
                                          try clear hfz33_0
                                          try clear hfz33_1
                                          try clear hfz33_2
                                          try clear hfz38_0
                                          try clear hfz38_1
                                          try clear hfz38_2
                                          try clear hfz42_0
                                          try clear hfz42_1
                                          try clear hfz42_2
                                          try clear hfz51_0
                                          try clear hfz51_1
                                          try clear hfz51_2
                                          try clear hfz54_0
                                          try clear hfz54_1
                                          try clear hfz54_2
                                          try clear hfz60_0
                                          try clear hfz60_1
                                          try clear hfz60_2
                                          try clear hfz71_0
                                          try clear hfz71_1
                                          try clear hfz71_2
                                          try clear hfz80_0
                                          try clear hfz80_1
                                          try clear hfz80_2
                                          try clear hfz87_0
                                          try clear hfz87_1
                                          try clear hfz87_2
                                          try clear hfz90_0
                                          try clear hfz90_1
                                          try clear hfz90_2
                                          try clear hfz94_0
                                          try clear hfz94_1
                                          try clear hfz94_2
                                          try clear hfz96_0
                                          try clear hfz96_1
                                          try clear hfz96_2
                                          try clear hx456_0
                                          try clear hx456_1
                                          try clear hx456_2
                                          try clear hx458_0
                                          try clear hx459_0
                                          try clear hx460_0
                                          try clear hx461_0
                                          try clear hx462_0
                                          try clear hx463_0
                                          try clear hx466_0
                                          try clear hx466_1
                                          try clear hx466_2
                                          try clear hx468_0
                                          try clear hx469_0
                                          try clear hx470_0
                                          try clear hx471_0
                                          try clear hx472_0
                                          try clear hx473_0
                                          try clear hx474_0
                                          try clear hx475_0
                                          try clear hx47_0
                                          try clear hx49_0
                                          try clear p2
                                          try clear p4
                                          try clear p45
                                          try clear p456
                                          try clear p458
                                          try clear p459
                                          try clear p46
                                          try clear p460
                                          try clear p461
                                          try clear p462
                                          try clear p463
                                          try clear p466
                                          try clear p468
                                          try clear p469
                                          try clear p47
                                          try clear p470
                                          try clear p471
                                          try clear p472
                                          try clear p473
                                          try clear p474
                                          try clear p475
                                          try clear p49
                                          try clear p6
                                          try clear q4
                                          try clear q45
                                          try clear q456
                                          try clear q458
                                          try clear q459
                                          try clear q46
                                          try clear q460
                                          try clear q461
                                          try clear q462
                                          try clear q463
                                          try clear q466
                                          try clear q468
                                          try clear q469
                                          try clear q47
                                          try clear q470
                                          try clear q471
                                          try clear q472
                                          try clear q473
                                          try clear q474
                                          try clear q475
                                          try clear q49
                                          obtain ⟨kq, x195_75, rfl, HA, HJ75, HO_7, HO_8, BK467, HI0, HK, HB⟩ := hcut
                                          cases kq with
                                          | zero => exact absurd HA.out (by simp [spec_l08Far.j5])
                                          | succ kj75 =>
                                            have H := HA.out
                                            clear HA
                                            simp only [spec_l08Far.j5] at H
                                            by_cases c97 : x195_75 = true
                                            · subst c97
                                              have H1 : (if 0 ≤ ((rd_T55 s0_1 x14_4).f1) then (if ((rd_T55 s0_1 x14_4).f1) < (x7_4.length : Int) then (if ((rd_T55 s0_1 x14_4).f1) < (x8_4.length : Int) then (spec_l08Far.l3 kj75 (x7_4.set (((rd_T55 s0_1 x14_4).f1) : Int).toNat (wrap64 ((rd x7_4 ((rd_T55 s0_1 x14_4).f0)) + ((rd_T55 s0_1 x14_4).f2)))) (x8_4.set (((rd_T55 s0_1 x14_4).f1) : Int).toNat (wrap64 ((rd x8_4 ((rd_T55 s0_1 x14_4).f0)) + (rd s0_0 ((rd_T55 s0_1 x14_4).f1))))) true (wrap64 (x14_4 + 1)) s0_0 s0_1) else (none)) else (none)) else (none)) = some (r1, r2) := by rw [if_pos rfl] at H; exact H
                                              clear H
                                              have H := H1
                                              clear H1
                                              by_cases c98 : 0 ≤ ((rd_T55 s0_1 x14_4).f1)
                                              · rw [if_pos c98] at H
                                                have c98b0 : decide (0 ≤ ((rd_T55 s0_1 x14_4).f1)) = true := decide_eq_true c98
                                                clear c98
                                                by_cases c99 : ((rd_T55 s0_1 x14_4).f1) < (x7_4.length : Int)
                                                · rw [if_pos c99] at H
                                                  have c99b0 : decide (((rd_T55 s0_1 x14_4).f1) < (x7_4.length : Int)) = true := decide_eq_true c99
                                                  clear c99
                                                  obtain ⟨y476, hy476⟩ : ∃ y_ : List Int, y_ = (x7_4.set (((rd_T55 s0_1 x14_4).f1) : Int).toNat (wrap64 ((rd x7_4 ((rd_T55 s0_1 x14_4).f0)) + ((rd_T55 s0_1 x14_4).f2)))) := ⟨_, rfl⟩
                                                  replace H : (if ((rd_T55 s0_1 x14_4).f1) < (x8_4.length : Int) then (spec_l08Far.l3 kj75 y476 (x8_4.set (((rd_T55 s0_1 x14_4).f1) : Int).toNat (wrap64 ((rd x8_4 ((rd_T55 s0_1 x14_4).f0)) + (rd s0_0 ((rd_T55 s0_1 x14_4).f1))))) true (wrap64 (x14_4 + 1)) s0_0 s0_1) else (none)) = some (r1, r2) := by first | (rw [hy476]; with_reducible exact H) | (have H2_ := (Option.bind_some _ _).symm.trans H; rw [hy476]; with_reducible exact H2_) | (have H2_ := (Option.bind_some _ _).symm.trans H; with_reducible exact H2_) | with_reducible exact H | (rw [hy476]; exact H) | exact H
                                                  have Ny476 := Aside0.mk hy476
                                                  clear hy476
                                                  by_cases c101 : ((rd_T55 s0_1 x14_4).f1) < (x8_4.length : Int)
                                                  · rw [if_pos c101] at H
                                                    have c101b0 : decide (((rd_T55 s0_1 x14_4).f1) < (x8_4.length : Int)) = true := decide_eq_true c101
                                                    clear c101
                                                    obtain ⟨y477, hy477⟩ : ∃ y_ : List Int, y_ = (x8_4.set (((rd_T55 s0_1 x14_4).f1) : Int).toNat (wrap64 ((rd x8_4 ((rd_T55 s0_1 x14_4).f0)) + (rd s0_0 ((rd_T55 s0_1 x14_4).f1))))) := ⟨_, rfl⟩
                                                    replace H : (spec_l08Far.l3 kj75 y476 y477 true (wrap64 (x14_4 + 1)) s0_0 s0_1) = some (r1, r2) := by first | (rw [hy477]; with_reducible exact H) | (have H2_ := (Option.bind_some _ _).symm.trans H; rw [hy477]; with_reducible exact H2_) | (have H2_ := (Option.bind_some _ _).symm.trans H; with_reducible exact H2_) | with_reducible exact H | (rw [hy477]; exact H) | exact H
                                                    have Ny477 := Aside0.mk hy477
                                                    clear hy477
                                                    have H' := Aside0.mk H
                                                    clear H
                                                    have hnb103 := NB467_0.out
                                                    have hnc103 := NB0_467.out
                                                    have hcz104_0 : wc.cell? ⟨gb467, 0, none⟩ = some (.int .i64 ((rd_T55 s0_1 x14_4).f0)) := (blk_cell BK467.out 0).trans rfl
                                                    have hcz104_1 : wc.cell? ⟨gb467, 1, none⟩ = some (.int .i64 ((rd_T55 s0_1 x14_4).f1)) := (blk_cell BK467.out 1).trans rfl
                                                    have hcz104_2 : wc.cell? ⟨gb467, 2, none⟩ = some (.int .i64 ((rd_T55 s0_1 x14_4).f2)) := (blk_cell BK467.out 2).trans rfl
                                                    have hfz104_0 := blk_frozen BK467.out 0
                                                    have hfz104_1 := blk_frozen BK467.out 1
                                                    have hfz104_2 := blk_frozen BK467.out 2
                                                    have p100 : 0 ≤ (((rd_T55 s0_1 x14_4).f1) : Int) := of_decide_eq_true (by first | (with_reducible assumption) | assumption)
                                                    have q100 : (((rd_T55 s0_1 x14_4).f1) : Int) < ((x7_4.length : Int) : Int) := of_decide_eq_true (by first | (with_reducible assumption) | assumption)
                                                    obtain ⟨go100, co100, eo100, gb100, gl100, cl100, HG100⟩ := Kd.R_form HO_7.out (by omega)
                                                    (first | cases eo100 | (injection eo100 with ea_ en_ ec_; (first | subst ea_ | (injection ea_ with ea_; subst ea_)); subst ec_; clear en_))
                                                    have GB100 := Aside0.mk gb100
                                                    have GG100 := Aside0.mk HG100
                                                    clear gb100 gl100 HG100
                                                    (first | simp only [add_plain] at hx468_0 | skip)
                                                    (first | simp only [add_plain] at hx469_0 | skip)
                                                    (first | simp only [add_plain] at hx472_0 | skip)
                                                    (first | simp only [add_plain] at hx473_0 | skip)
                                                    (first | simp only [add_plain] at hx474_0 | skip)
                                                    obtain ⟨hx100_0, hf100_0⟩ := Kd.R_celln 0 HO_7.out (((rd_T55 s0_1 x14_4).f1) : Int) p100 q100
                                                    replace p100 := eq_true p100
                                                    replace q100 := eq_true q100
                                                    have HP105 := Kd.R_putg HO_7.out (((rd_T55 s0_1 x14_4).f1) : Int) (wrap64 ((rd x7_4 ((rd_T55 s0_1 x14_4).f0)) + ((rd_T55 s0_1 x14_4).f2)))
                                                    go_wp2_with (first | ((with_reducible refine gate_store (t := 2) (p := 200) rfl ?_); (try (rw [drewN_self wc]; generalize hq_ : World.drewN wc _ = wc; have n0_ := Aside0.mk (Kd.R_at hq_ HO_7.out); have n1_ := Aside0.mk (Kd.R_at hq_ HO_8.out); have n2_ := Aside0.mk (blk_at hq_ BK467.out); have n3_ := Aside0.mk (IsS36.at_ hq_ HI0.out); have n4_ := Aside0.mk (keep_at hq_ HK.out); have n5_ := Aside0.mk (below_at hq_ HB.out); clear hq_ HO_7 HO_8 BK467 HI0 HK HB; have HO_7 := n0_; have HO_8 := n1_; have BK467 := n2_; have HI0 := n3_; have HK := n4_; have HB := n5_; clear n0_ n1_ n2_ n3_ n4_ n5_; (try (have HP105 := Kd.R_putg HO_7.out (((rd_T55 s0_1 x14_4).f1) : Int) (wrap64 ((rd x7_4 ((rd_T55 s0_1 x14_4).f0)) + ((rd_T55 s0_1 x14_4).f2))))))); refine store_event (t := 2) (p := 200) (v := ?vo_w106) (w1 := (wc.setCell ⟨go100, (((rd_T55 s0_1 x14_4).f1) : Int).toNat, none⟩ (.int .i64 (wrap64 ((rd x7_4 ((rd_T55 s0_1 x14_4).f0)) + ((rd_T55 s0_1 x14_4).f2)))))) ?hg ?ho ?hn ?hr ?_; (case ho => rfl); (case hg => rfl); (case hn => rfl); (case hr => first | (go_simp; done) | (go_simp; rfl)); intro w106 hw; have hg : wc.grownBy w106 (some go100) := (by rw [hw]; exact HP105.2); have hp_ : Kd.R (Kd.int .i64) 2 w106 w.heap.size (fun k_ => some k_ ≠ (.slice (some ad470) x8_4.length co82 : Value).ownBlock) (.slice (some ⟨go100, 0, none⟩) x7_4.length co81) y476 := (by rw [hw, Ny476.out]; exact HP105.1); clear HP105; have n0_ := Aside0.mk (hp_); have n1_ := Aside0.mk (Kd.R_after (v := (.slice (some ⟨go100, 0, none⟩) x7_4.length co81)) (v1 := (.slice (some ⟨go100, 0, none⟩) x7_4.length co81)) (ok := (fun _ => True)) (by (with_reducible repeat (first | apply Kd.R_alloc | apply Kd.R_drewN | apply Kd.R_drew)); exact Kd.R_mono HO_8.out (fun _ hk => ⟨trivial, hk⟩)) hg (.inl rfl)); have n2_ := Aside0.mk (blk_grown (g := gb467) (o := .cells #[.int .i64 ((rd_T55 s0_1 x14_4).f0), .int .i64 ((rd_T55 s0_1 x14_4).f1), .int .i64 ((rd_T55 s0_1 x14_4).f2)] 55 (0, 0)) (by (with_reducible repeat (first | refine blk_drewN ?_ _ | refine blk_drew ?_ | refine blk_alloc ?_ _)); exact BK467.out) hg (Kd.R_ne HO_7.out BK467.out (by decide))); have n3_ := Aside0.mk (IsS36.grown (by repeat (first | (with_reducible first | exact HI0.out | apply IsS36.alloc | apply IsS36.drewN | apply IsS36.drew | refine IsS36.far ?_ NB0_467.out _) | exact HI0.out)) hg (IsS36.own_ne HI0.out HO_7.out (by decide))); have n4_ := Aside0.mk ((by rw [hw]; exact below_set (HB.out) (Nat.le_trans HL.out GB100.out) : Below w0.heap.size w0 w106)); have n5_ := Aside0.mk (KeepBut.trans (by repeat (first | (with_reducible first | exact HK.out | apply KeepBut.set_ | apply keep_drewN | apply keep_drew | apply keep_alloc | refine keep_far ?_ GW467.out _) | exact HK.out)) (KeepBut.of_grown hg g) (Kd.R_base2 HO_7.out)); clear HO_7; clear HO_8; clear BK467; clear HI0; clear HB; clear HK; have HO_7 := n0_; have HO_8 := n1_; have BK467 := n2_; have HI0 := n3_; have HB := n4_; have HK := n5_; clear n0_ n1_ n2_ n3_ n4_ n5_; clear hg hw hp_; have hcz107_0 : w106.cell? ⟨gb467, 0, none⟩ = some (.int .i64 ((rd_T55 s0_1 x14_4).f0)) := (blk_cell BK467.out 0).trans rfl; have hcz107_1 : w106.cell? ⟨gb467, 1, none⟩ = some (.int .i64 ((rd_T55 s0_1 x14_4).f1)) := (blk_cell BK467.out 1).trans rfl; have hcz107_2 : w106.cell? ⟨gb467, 2, none⟩ = some (.int .i64 ((rd_T55 s0_1 x14_4).f2)) := (blk_cell BK467.out 2).trans rfl; have hfz107_0 := blk_frozen BK467.out 0; have hfz107_1 := blk_frozen BK467.out 1; have hfz107_2 := blk_frozen BK467.out 2; have p102 : 0 ≤ (((rd_T55 s0_1 x14_4).f1) : Int) := of_decide_eq_true (by first | (with_reducible assumption) | assumption); have q102 : (((rd_T55 s0_1 x14_4).f1) : Int) < ((x8_4.length : Int) : Int) := of_decide_eq_true (by first | (with_reducible assumption) | assumption); obtain ⟨go102, co102, eo102, gb102, gl102, cl102, HG102⟩ := Kd.R_form HO_8.out (by omega); (first | cases eo102 | (injection eo102 with ea_ en_ ec_; (first | subst ea_ | (injection ea_ with ea_; subst ea_)); subst ec_; clear en_)); have GB102 := Aside0.mk gb102; have GG102 := Aside0.mk HG102; clear gb102 gl102 HG102; (first | simp only [add_plain] at hx470_0 | skip); (first | simp only [add_plain] at hx475_0 | skip); obtain ⟨hx102_0, hf102_0⟩ := Kd.R_celln 0 HO_8.out (((rd_T55 s0_1 x14_4).f1) : Int) p102 q102; replace p102 := eq_true p102; replace q102 := eq_true q102; have n_ := Aside0.mk (Kd.R_mono (ok' := (fun k_ => some k_ ≠ (.slice (some ⟨go100, 0, none⟩) x7_4.length co81 : Value).ownBlock)) HO_8.out (fun k_ hk => hk.2)); clear HO_8; have HO_8 := n_; clear n_; obtain ⟨hy108_, hz108_⟩ := Kd.R_celln 0 HO_8.out (((rd_T55 s0_1 x14_4).f1) : Int) (of_decide_eq_true (by first | (with_reducible assumption) | assumption)) (of_decide_eq_true (by first | (with_reducible assumption) | assumption)); have HP108 := Kd.R_putg HO_8.out (((rd_T55 s0_1 x14_4).f1) : Int) (wrap64 ((rd x8_4 ((rd_T55 s0_1 x14_4).f0)) + (rd s0_0 ((rd_T55 s0_1 x14_4).f1))))) | ((with_reducible refine gate_store (t := 2) (p := 205) rfl ?_); (try (rw [drewN_self w106]; generalize hq_ : World.drewN w106 _ = w106; have n0_ := Aside0.mk (Kd.R_at hq_ HO_7.out); have n1_ := Aside0.mk (Kd.R_at hq_ HO_8.out); have n2_ := Aside0.mk (blk_at hq_ BK467.out); have n3_ := Aside0.mk (IsS36.at_ hq_ HI0.out); have n4_ := Aside0.mk (keep_at hq_ HK.out); have n5_ := Aside0.mk (below_at hq_ HB.out); clear hq_ HO_7 HO_8 BK467 HI0 HK HB; have HO_7 := n0_; have HO_8 := n1_; have BK467 := n2_; have HI0 := n3_; have HK := n4_; have HB := n5_; clear n0_ n1_ n2_ n3_ n4_ n5_; (try (have n_ := Aside0.mk (Kd.R_mono (ok' := (fun k_ => some k_ ≠ (.slice (some ⟨go100, 0, none⟩) x7_4.length co81 : Value).ownBlock)) HO_8.out (fun k_ hk => hk.2)); clear HO_8; have HO_8 := n_; clear n_)); (try (obtain ⟨hy108_, hz108_⟩ := Kd.R_celln 0 HO_8.out (((rd_T55 s0_1 x14_4).f1) : Int) (of_decide_eq_true (by first | (with_reducible assumption) | assumption)) (of_decide_eq_true (by first | (with_reducible assumption) | assumption)))); (try (have HP108 := Kd.R_putg HO_8.out (((rd_T55 s0_1 x14_4).f1) : Int) (wrap64 ((rd x8_4 ((rd_T55 s0_1 x14_4).f0)) + (rd s0_0 ((rd_T55 s0_1 x14_4).f1)))))))); refine store_event (t := 2) (p := 205) (v := ?vo_w109) (w1 := (w106.setCell ⟨go102, (((rd_T55 s0_1 x14_4).f1) : Int).toNat, none⟩ (.int .i64 (wrap64 ((rd x8_4 ((rd_T55 s0_1 x14_4).f0)) + (rd s0_0 ((rd_T55 s0_1 x14_4).f1))))))) ?hg ?ho ?hn ?hr ?_; (case ho => rfl); (case hg => rfl); (case hn => rfl); (case hr => first | (go_simp; done) | (go_simp; rfl)); intro w109 hw; have hg : w106.grownBy w109 (some go102) := (by rw [hw]; exact HP108.2); have hp_ : Kd.R (Kd.int .i64) 2 w109 w.heap.size (fun k_ => some k_ ≠ (.slice (some ⟨go100, 0, none⟩) x7_4.length co81 : Value).ownBlock) (.slice (some ⟨go102, 0, none⟩) x8_4.length co82) y477 := (by rw [hw, Ny477.out]; exact HP108.1); clear HP108; have n0_ := Aside0.mk (Kd.R_after (v := (.slice (some ⟨go102, 0, none⟩) x8_4.length co82)) (v1 := (.slice (some ⟨go102, 0, none⟩) x8_4.length co82)) (ok := (fun _ => True)) (by (with_reducible repeat (first | apply Kd.R_alloc | apply Kd.R_drewN | apply Kd.R_drew)); exact Kd.R_mono HO_7.out (fun _ hk => ⟨trivial, hk⟩)) hg (.inl rfl)); have n1_ := Aside0.mk (hp_); have n2_ := Aside0.mk (blk_grown (g := gb467) (o := .cells #[.int .i64 ((rd_T55 s0_1 x14_4).f0), .int .i64 ((rd_T55 s0_1 x14_4).f1), .int .i64 ((rd_T55 s0_1 x14_4).f2)] 55 (0, 0)) (by (with_reducible repeat (first | refine blk_drewN ?_ _ | refine blk_drew ?_ | refine blk_alloc ?_ _)); exact BK467.out) hg (Kd.R_ne HO_8.out BK467.out (by decide))); have n3_ := Aside0.mk (IsS36.grown (by repeat (first | (with_reducible first | exact HI0.out | apply IsS36.alloc | apply IsS36.drewN | apply IsS36.drew | refine IsS36.far ?_ NB0_467.out _) | exact HI0.out)) hg (IsS36.own_ne HI0.out HO_8.out (by decide))); have n4_ := Aside0.mk ((by rw [hw]; exact below_set (HB.out) (Nat.le_trans HL.out GB102.out) : Below w0.heap.size w0 w109)); have n5_ := Aside0.mk (KeepBut.trans (by repeat (first | (with_reducible first | exact HK.out | apply KeepBut.set_ | apply keep_drewN | apply keep_drew | apply keep_alloc | refine keep_far ?_ GW467.out _) | exact HK.out)) (KeepBut.of_grown hg g) (Kd.R_base2 HO_8.out)); clear HO_7; clear HO_8; clear BK467; clear HI0; clear HB; clear HK; have HO_7 := n0_; have HO_8 := n1_; have BK467 := n2_; have HI0 := n3_; have HB := n4_; have HK := n5_; clear n0_ n1_ n2_ n3_ n4_ n5_; clear hg hw hp_))
                                                    repeat (go_quiet (fail); try go_wp2)
                                                    go_roundg kj75
                                                    case measure => have := HK1.out; have := HK2.out; have := HK3.out; have := HK4.out; have := HJ75.out; omega
                                                    case rel => exact ⟨(y476), (y477), (true), (wrap64 (x14_4 + 1)), (by first | rfl | (simp; done) | (simp [*]; done)), (by first | rfl | (simp; done) | (simp [*]; done)), H', ⟨by have := HK1.out; have := HK2.out; have := HK3.out; have := HK4.out; have := HJ75.out; omega⟩, ⟨by (with_reducible repeat (first | apply Kd.R_alloc | apply Kd.R_drewN | apply Kd.R_drew)); exact Kd.R_mono HO_7.out (fun _ hk => hk.2)⟩, ⟨by (with_reducible repeat (first | apply Kd.R_alloc | apply Kd.R_drewN | apply Kd.R_drew)); exact HO_8.out⟩, ⟨by repeat (first | (with_reducible first | exact HI0.out | apply IsS36.alloc | apply IsS36.drewN | apply IsS36.drew | refine IsS36.far ?_ NB0_467.out _) | exact HI0.out)⟩, ⟨by repeat (first | (with_reducible first | exact HK.out | apply KeepBut.set_ | apply keep_drewN | apply keep_drew | apply keep_alloc | refine keep_far ?_ GW467.out _) | exact HK.out)⟩, ⟨by repeat (first | (with_reducible first | exact HB.out | apply below_alloc | apply pw_below_drewN | apply below_drew1 | refine below_set ?_ (IsS36.ge HI0.out) | refine below_set ?_ GE467.out) | exact HB.out)⟩⟩
                                                  · rw [if_neg c101] at H
                                                    exact absurd H (by simp)
                                                · rw [if_neg c99] at H
                                                  exact absurd H (by simp)
                                              · rw [if_neg c98] at H
                                                exact absurd H (by simp)
                                            · replace c97 := Bool.eq_false_iff.mpr c97
                                              subst c97
                                              have H1 : (spec_l08Far.l3 kj75 x7_4 x8_4 x13_4 (wrap64 (x14_4 + 1)) s0_0 s0_1) = some (r1, r2) := by rw [if_neg (show ¬ (false = true) by decide)] at H; exact H
                                              clear H
                                              have H := H1
                                              clear H1
                                              have H' := Aside0.mk H
                                              clear H
                                              go_wp2
                                              repeat (go_quiet (fail); try go_wp2)
                                              go_roundg kj75
                                              case measure => have := HK1.out; have := HK2.out; have := HK3.out; have := HK4.out; have := HJ75.out; omega
                                              case rel => exact ⟨(x7_4), (x8_4), (x13_4), (wrap64 (x14_4 + 1)), (by first | rfl | (simp; done) | (simp [*]; done)), (by first | rfl | (simp; done) | (simp [*]; done)), H', ⟨by have := HK1.out; have := HK2.out; have := HK3.out; have := HK4.out; have := HJ75.out; omega⟩, ⟨by (with_reducible repeat (first | apply Kd.R_alloc | apply Kd.R_drewN | apply Kd.R_drew)); exact HO_7.out⟩, ⟨by (with_reducible repeat (first | apply Kd.R_alloc | apply Kd.R_drewN | apply Kd.R_drew)); exact HO_8.out⟩, ⟨by repeat (first | (with_reducible first | exact HI0.out | apply IsS36.alloc | apply IsS36.drewN | apply IsS36.drew | refine IsS36.far ?_ NB0_467.out _) | exact HI0.out)⟩, ⟨by repeat (first | (with_reducible first | exact HK.out | apply KeepBut.set_ | apply keep_drewN | apply keep_drew | apply keep_alloc | refine keep_far ?_ GW467.out _) | exact HK.out)⟩, ⟨by repeat (first | (with_reducible first | exact HB.out | apply below_alloc | apply pw_below_drewN | apply below_drew1 | refine below_set ?_ (IsS36.ge HI0.out) | refine below_set ?_ GE467.out) | exact HB.out)⟩⟩
                                      · rw [if_neg c75] at H
                                        exact absurd H (by simp)
                                    · rw [if_neg c74] at H
                                      exact absurd H (by simp)
                                  · rw [if_neg c73] at H
                                    exact absurd H (by simp)
                              · rw [if_neg c66] at H
                                exact absurd H (by simp)
                            · rw [if_neg c65] at H
                              exact absurd H (by simp)
                          · rw [if_neg c64] at H
                            exact absurd H (by simp)
                        · rw [if_neg c63] at H
                          have c63b0 : decide (x14_4 < (s0_1.length : Int)) = false := decide_eq_false c63
                          clear c63
                          have H' := Aside0.mk H
                          clear H
                          obtain ⟨ASz110_0, cSz110_0, ASz110_1, cSz110_1, HGz110, hgz110, HSz110_0, HSz110_1⟩ := HI0.out
                          have hcz110_0 := cellS36_0 HGz110
                          have hcz110_1 := cellS36_1 HGz110
                          clear HGz110 hgz110
                          go_wp2
                          repeat (go_quiet (fail); try go_wp2)
                          go_roundg k4
                          case measure => have := HK1.out; have := HK2.out; have := HK3.out; have := HK4.out; omega
                          case rel => exact ⟨(x7_4), (x8_4), (x13_4), (by first | rfl | (simp; done) | (simp [*]; done)), H', ⟨by have := HK1.out; have := HK2.out; have := HK3.out; have := HK4.out; omega⟩, ⟨by (with_reducible repeat (first | apply Kd.R_alloc | apply Kd.R_drewN | apply Kd.R_drew)); exact HO_7.out⟩, ⟨by (with_reducible repeat (first | apply Kd.R_alloc | apply Kd.R_drewN | apply Kd.R_drew)); exact HO_8.out⟩, ⟨by repeat (first | (with_reducible first | exact HI0.out | apply IsS36.alloc | apply IsS36.drewN | apply IsS36.drew) | exact HI0.out)⟩, ⟨by repeat (first | (with_reducible first | exact HK.out | apply KeepBut.set_ | apply keep_drewN | apply keep_drew | apply keep_alloc) | exact HK.out)⟩, ⟨by repeat (first | (with_reducible first | exact HB.out | apply below_alloc | apply pw_below_drewN | apply below_drew1 | refine below_set ?_ (IsS36.ge HI0.out)) | exact HB.out)⟩⟩
                  · replace c62 := Bool.eq_false_iff.mpr c62
                    subst c62
                    have H1 : (some (x7_3, x8_3)) = some (r1, r2) := by rw [if_neg (show ¬ (false = true) by decide)] at H; exact H
                    clear H
                    have H := H1
                    clear H1
                    simp only [Option.some.injEq, Prod.mk.injEq] at H
                    obtain ⟨rfl, rfl⟩ := H
                    go_wp2
                    repeat (go_quiet (fail); try go_wp2)
                    go_ret2
                    exact ⟨_, _, by first | rfl | (simp [errW_none, errW_some] <;> rfl) | (simp [*, errW_none, errW_some] <;> rfl), by (with_reducible repeat (first | apply Kd.R_alloc | apply Kd.R_drewN | apply Kd.R_drew)); exact HO_7.out, by (with_reducible repeat (first | apply Kd.R_alloc | apply Kd.R_drewN | apply Kd.R_drew)); exact HO_8.out, by repeat (first | (with_reducible first | exact HI0.out | apply IsS36.alloc | apply IsS36.drewN | apply IsS36.drew) | exact HI0.out), by repeat (first | (with_reducible first | exact HB.out | apply below_alloc | apply pw_below_drewN | apply below_drew1 | refine below_set ?_ (IsS36.ge HI0.out)) | exact HB.out), by repeat (first | (with_reducible first | exact HK.out | apply KeepBut.set_ | apply keep_drewN | apply keep_drew | apply keep_alloc) | exact HK.out)⟩
end Go.Proofs.Ytojpibpjieanhaa.X
end
