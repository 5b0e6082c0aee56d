/- My own texts of this seat and its words, merged: Xp64, Xp28, Xp66, Xp31, CDraws, CClean, CCleanOf, CEn, Xp16, Xp46, XEnS, Xp20, Xp22, Xp23, Xp24, Xp17, XTimes, Xp7, CTimes, Xp30, Xp19, Xp25, XClean, XAreWaves, XReset, XWave, XPlain. Conditions: as each lemma says. -/
import Derived.Test.YthkpnbelbaljdaaDoorL21
import Derived.Test.YthkpnbelbaljdaaDoorL23
import Derived.Test.YthkpnbelbaljdaaDoorL22
import Derived.Deep.DeepCutAuto
import Derived.BigQuiet
section
-- Written by a program of this session out of the kit's print of the loaded functions: a plain function of a Go function, and its contract.
namespace Go.Proofs.YthkpnbelbaljdaaDoor.X
open Go.RowKit Go.Proofs.YthkpnbelbaljdaaDoorW.PrintWords Go.Proofs.YthkpnbelbaljdaaDoorW.PrintLast Go.Proofs.YthkpnbelbaljdaaDoorW.PrintMore
attribute [local go_sem] max2_int min2_int max_two min_two max_three min_three max_four min_four   -- for this text's walks alone
set_option linter.unusedVariables false
set_option linter.unusedSimpArgs false
/-! ### spec_l07DrawLevels: function 64 -/
def spec_l07DrawLevels.l0 : Nat → Int → List Int → Int → List Int → Int → Int → Option (ByteArray × Int × Int)
  | 0, _, _, _, _, _, _ => none
  | k + 1, x1, x5, x6, x1000, x1001, x1002 => if x1 > 0 then ((spec_l00Src_one.f x1000 x1001 x1002 6).bind fun bt381 => (if bt381.1 = true then (if x5.length < 140737488355328 then (spec_l07DrawLevels.l0 k (wrap64 (x1 - 1)) (x5 ++ [(97 - x6) % 256]) ((97 - x6) % 256) x1000 bt381.2.1 bt381.2.2) else (none)) else (if x5.length < 140737488355328 then (spec_l07DrawLevels.l0 k (wrap64 (x1 - 1)) (x5 ++ [x6]) x6 x1000 bt381.2.1 bt381.2.2) else (none)))) else (some (strOfNums x5, x1001, x1002))
def spec_l07DrawLevels.f (k : Nat) (s0_0 : List Int) (s0_1 : Int) (s0_2 : Int) (a1 : Int) : Option (ByteArray × Int × Int) := (spec_l00Src_pick.f s0_0 s0_1 s0_2 2).bind fun bt378 => (spec_l07DrawLevels.l0 k a1 (([] : List Int)) ((wrap64 (48 + bt378.1)) % 256) s0_0 bt378.2.1 bt378.2.2)
set_option maxHeartbeats 8000000 in
set_option maxRecDepth 100000 in
theorem spec_l07DrawLevels.calls (k : Nat) (g : Nat) (s0_0 : List Int) (s0_1 : Int) (s0_2 : Int) (a1 : Int) (r1 : ByteArray) (r2 : Int) (r3 : Int) (w0 w : World) (hI : IsS106 w0 w g s0_0 s0_1 s0_2) (hB : Below w0.heap.size w0 w) (h : spec_l07DrawLevels.f k s0_0 s0_1 s0_2 a1 = some (r1, r2, r3)) :
    Calls Tryd.prog 64 #[.pointer (some ⟨g, 0, none⟩), .int .i64 a1] w fun e w' => e = .returned (.string r1) ∧ IsS106 w0 w' g s0_0 r2 r3 ∧ Below w0.heap.size w0 w' ∧ KeepBut w w' g none := by
  have HI0 := Aside0.mk hI
  have HK := Aside0.mk (KeepBut.refl w g none)
  have HL := Aside0.mk hB.size
  clear hI
  have HW0 := Aside0.mk hB.size
  have HB := Aside0.mk hB
  clear hB
  have H : ((spec_l00Src_pick.f s0_0 s0_1 s0_2 2).bind fun bt378 => (spec_l07DrawLevels.l0 k a1 (([] : List Int)) ((wrap64 (48 + bt378.1)) % 256) s0_0 bt378.2.1 bt378.2.2)) = some (r1, r2, r3) := h
  clear h
  obtain ⟨y375, hy375⟩ : ∃ y_ : List Int, y_ = (([] : List Int)) := ⟨_, rfl⟩
  replace H : ((spec_l00Src_pick.f s0_0 s0_1 s0_2 2).bind fun bt378 => (spec_l07DrawLevels.l0 k a1 y375 ((wrap64 (48 + bt378.1)) % 256) s0_0 bt378.2.1 bt378.2.2)) = some (r1, r2, r3) := by first | (rw [hy375]; with_reducible exact H) | (have H2_ := (Option.bind_some _ _).symm.trans H; rw [hy375]; with_reducible exact H2_) | (have H2_ := (Option.bind_some _ _).symm.trans H; with_reducible exact H2_) | with_reducible exact H | (rw [hy375]; exact H) | exact H
  have Ny375 := Aside0.mk hy375
  clear hy375
  replace H := Option.bind_eq_some_iff.mp H
  obtain ⟨⟨t378, t379, t380⟩, A30, H⟩ := H
  replace H : (spec_l07DrawLevels.l0 k a1 y375 ((wrap64 (48 + t378)) % 256) s0_0 t379 t380) = some (r1, r2, r3) := H
  have A3 := Aside0.mk A30
  clear A30
  have H' := Aside0.mk H
  clear H
  go_enter Tryd.func64, Tryd.ntmps64
  go_wp2_with (first | ((with_reducible refine gate_dst (N := 7) rfl ?_); refine Kd.R_lit (Kd.int .u8) _ 5 ?hg (N := 7) ?hd (xs := ([] : List Int)) (inner := []) (ok := fun _ => True) (okp := fun _ => True) ?hr ?hp (fun _ hk => hk) trivial (Below.refl _ _) (Nat.le_refl _) (by simp) ?_; (case hd => rfl); (case hg => rfl); (case hr => first | (go_simp; done) | (go_simp; rfl)); (case hp => exact (Reps.none _ _)); intro v376 w4 ho5 hb hg_ hnew_; clear hg_ hnew_; (first | rw [← Ny375.out] at ho5 | (simp only [Int.reduceToNat] at ho5; rw [← Ny375.out] at ho5)); have n0_ := Aside0.mk (Kd.R_lower ho5 (keep_size (w := w) (g := g) (row := none) (by repeat (first | (with_reducible first | exact HK.out | apply KeepBut.set_ | apply keep_drewN | apply keep_drew | apply keep_alloc) | exact HK.out)))); have n1_ := Aside0.mk (IsS106.below (by repeat (first | (with_reducible first | exact HI0.out | apply IsS106.alloc | apply IsS106.drewN | apply IsS106.drew | apply IsS106.set_1 | apply IsS106.set_2) | exact HI0.out)) hb); have n2_ := Aside0.mk (KeepBut.trans (by repeat (first | (with_reducible first | exact HK.out | apply KeepBut.set_ | apply keep_drewN | apply keep_drew | apply keep_alloc) | exact HK.out)) (KeepBut.of_below hb g none) (.inl rfl)); have n3_ := Aside0.mk (below_step (by repeat (first | (with_reducible first | exact HB.out | apply below_alloc | apply pw_below_drewN | apply below_drew1 | refine below_set ?_ (IsS106.ge HI0.out)) | exact HB.out)) hb); clear HI0; clear HK; clear HB; have HO377 := n0_; have HI0 := n1_; have HK := n2_; have HB := n3_; clear n0_ n1_ n2_ n3_; clear hb ho5) | ((with_reducible refine gate_callee (f := 63) rfl ?_); refine goesL_ (some 9) rfl rfl Tryd.func63 (by kernel_rfl) rfl #[.pointer (some ⟨g, 0, none⟩), .int .i64 2] rfl (by (try simp only [List.map_toArray, List.map_cons, List.map_nil]); first | done | rfl | (simp only [List.length_drop, List.length_take]; rfl)) ?_; (with_reducible refine (spec_l00Src_pick.calls g s0_0 s0_1 s0_2 2 t378 t379 t380 w0 _ ?side1 ?side2 A3.out).mono ?_); (case side1 => repeat (first | (with_reducible first | exact HI0.out | apply IsS106.alloc | apply IsS106.drewN | apply IsS106.drew | apply IsS106.set_1 | apply IsS106.set_2) | exact HI0.out)); (case side2 => repeat (first | (with_reducible first | exact HB.out | apply below_alloc | apply pw_below_drewN | apply below_drew1 | refine below_set ?_ (IsS106.ge HI0.out)) | exact HB.out)); rintro e w6 ⟨rfl, hi, hb, hk⟩; refine ⟨_, rfl, ?_⟩; have n0_ := Aside0.mk (Kd.R_mono (Kd.R_keep (IsS106.apart (show IsS106 w0 _ g s0_0 s0_1 s0_2 from by repeat (first | (with_reducible first | exact HI0.out | apply IsS106.alloc | apply IsS106.drewN | apply IsS106.drew | apply IsS106.set_1 | apply IsS106.set_2) | exact HI0.out)) (by (with_reducible repeat (first | apply Kd.R_alloc | apply Kd.R_drewN | apply Kd.R_drew)); exact HO377.out) (by decide)) hk (fun _ h => h.2)) (fun _ h => h.1)); have n1_ := Aside0.mk (KeepBut.trans (by repeat (first | (with_reducible first | exact HK.out | apply KeepBut.set_ | apply keep_drewN | apply keep_drew | apply keep_alloc) | exact HK.out)) hk (.inl rfl)); have n2_ := Aside0.mk (hb); have n3_ := Aside0.mk (hi); clear HO377; clear HK; clear HB; clear HI0; have HO377 := n0_; have HK := n1_; have HB := n2_; have HI0 := n3_; clear n0_ n1_ n2_ n3_; (try clear hb); (try clear hb2); (try clear hk); (try clear hi)))
  go_loopg [1, 5, 6] k (fun kq v1 v5 v6 w' => ∃ (x1_1 : Int) (x5_1 : List Int) (x6_1 : Int) (x1001_1 : Int) (x1002_1 : Int), v1 = .int .i64 x1_1 ∧ v6 = .int .u8 x6_1 ∧ Aside0 (spec_l07DrawLevels.l0 kq x1_1 x5_1 x6_1 s0_0 x1001_1 x1002_1 = some (r1, r2, r3)) ∧ Aside0 (kq ≤ k) ∧ Aside0 (Kd.R (Kd.int .u8) 5 w' w.heap.size (fun _ => True) v5 x5_1) ∧ Aside0 (IsS106 w0 w' g s0_0 x1001_1 x1002_1) ∧ Aside0 (KeepBut w w' g none) ∧ Aside0 (Below w0.heap.size w0 w'))
  case atStart => exact ⟨(a1), (y375), ((wrap64 (48 + t378)) % 256), (t379), (t380), (by first | rfl | (simp; done) | (simp [*]; done)), (by first | rfl | (simp; done) | (simp [*]; done)), H', ⟨Nat.le_refl _⟩, ⟨by (with_reducible repeat (first | apply Kd.R_alloc | apply Kd.R_drewN | apply Kd.R_drew)); exact HO377.out⟩, ⟨by repeat (first | (with_reducible first | exact HI0.out | apply IsS106.alloc | apply IsS106.drewN | apply IsS106.drew | apply IsS106.set_1 | apply IsS106.set_2) | exact HI0.out)⟩, ⟨by repeat (first | (with_reducible first | exact HK.out | apply KeepBut.set_ | apply keep_drewN | apply keep_drew | apply keep_alloc) | exact HK.out)⟩, ⟨by repeat (first | (with_reducible first | exact HB.out | apply below_alloc | apply pw_below_drewN | apply below_drew1 | refine below_set ?_ (IsS106.ge HI0.out)) | exact HB.out)⟩⟩
  case round =>
    clear H'
    try clear p2
    try clear c6
    try clear p6
    obtain ⟨x1_1, x5_1, x6_1, x1001_1, x1002_1, rfl, rfl, HA, HK1, HO_5, HI0, HK, HB⟩ := hrel
    cases gk with
    | zero => exact absurd HA.out (by simp [spec_l07DrawLevels.l0])
    | succ k1 =>
      have H := HA.out
      clear HA
      simp only [spec_l07DrawLevels.l0] at H
      by_cases c7 : x1_1 > 0
      · rw [if_pos c7] at H
        have c7b0 : decide (0 < x1_1) = true := decide_eq_true c7
        clear c7
        replace H := Option.bind_eq_some_iff.mp H
        obtain ⟨⟨t381, t382, t383⟩, A80, H⟩ := H
        replace H : (if t381 = true then (if x5_1.length < 140737488355328 then (spec_l07DrawLevels.l0 k1 (wrap64 (x1_1 - 1)) (x5_1 ++ [(97 - x6_1) % 256]) ((97 - x6_1) % 256) s0_0 t382 t383) else (none)) else (if x5_1.length < 140737488355328 then (spec_l07DrawLevels.l0 k1 (wrap64 (x1_1 - 1)) (x5_1 ++ [x6_1]) x6_1 s0_0 t382 t383) else (none))) = some (r1, r2, r3) := H
        have A8 := Aside0.mk A80
        clear A80
        by_cases c9 : t381 = true
        · subst c9
          have H1 : (if x5_1.length < 140737488355328 then (spec_l07DrawLevels.l0 k1 (wrap64 (x1_1 - 1)) (x5_1 ++ [(97 - x6_1) % 256]) ((97 - x6_1) % 256) s0_0 t382 t383) else (none)) = some (r1, r2, r3) := by rw [if_pos rfl] at H; exact H
          clear H
          have H := H1
          clear H1
          by_cases c10 : x5_1.length < 140737488355328
          · rw [if_pos c10] at H
            have LMc10 := Aside0.mk c10
            clear c10
            obtain ⟨y384, hy384⟩ : ∃ y_ : List Int, y_ = (x5_1 ++ [(97 - x6_1) % 256]) := ⟨_, rfl⟩
            replace H : (spec_l07DrawLevels.l0 k1 (wrap64 (x1_1 - 1)) y384 ((97 - x6_1) % 256) s0_0 t382 t383) = some (r1, r2, r3) := by first | (rw [hy384]; with_reducible exact H) | (have H2_ := (Option.bind_some _ _).symm.trans H; rw [hy384]; with_reducible exact H2_) | (have H2_ := (Option.bind_some _ _).symm.trans H; with_reducible exact H2_) | with_reducible exact H | (rw [hy384]; exact H) | exact H
            have Ny384 := Aside0.mk hy384
            clear hy384
            have H' := Aside0.mk H
            clear H
            go_wp2_with (first | ((with_reducible refine gate_callee (f := 94) rfl ?_); refine goesL_ (some 17) rfl rfl Tryd.func94 (by kernel_rfl) rfl #[.pointer (some ⟨g, 0, none⟩), .int .i64 6] rfl (by (try simp only [List.map_toArray, List.map_cons, List.map_nil]); first | done | rfl | (simp only [List.length_drop, List.length_take]; rfl)) ?_; (with_reducible refine (spec_l00Src_one.calls g s0_0 x1001_1 x1002_1 6 true t382 t383 w0 _ ?side1 ?side2 A8.out).mono ?_); (case side1 => repeat (first | (with_reducible first | exact HI0.out | apply IsS106.alloc | apply IsS106.drewN | apply IsS106.drew | apply IsS106.set_1 | apply IsS106.set_2) | exact HI0.out)); (case side2 => repeat (first | (with_reducible first | exact HB.out | apply below_alloc | apply pw_below_drewN | apply below_drew1 | refine below_set ?_ (IsS106.ge HI0.out)) | exact HB.out)); rintro e w11 ⟨rfl, hi, hb, hk⟩; refine ⟨_, rfl, ?_⟩; have n0_ := Aside0.mk (Kd.R_mono (Kd.R_keep (IsS106.apart (show IsS106 w0 _ g s0_0 x1001_1 x1002_1 from by repeat (first | (with_reducible first | exact HI0.out | apply IsS106.alloc | apply IsS106.drewN | apply IsS106.drew | apply IsS106.set_1 | apply IsS106.set_2) | exact HI0.out)) (by (with_reducible repeat (first | apply Kd.R_alloc | apply Kd.R_drewN | apply Kd.R_drew)); exact HO_5.out) (by decide)) hk (fun _ h => h.2)) (fun _ h => h.1)); have n1_ := Aside0.mk (KeepBut.trans (by repeat (first | (with_reducible first | exact HK.out | apply KeepBut.set_ | apply keep_drewN | apply keep_drew | apply keep_alloc) | exact HK.out)) hk (.inl rfl)); have n2_ := Aside0.mk (hb); have n3_ := Aside0.mk (hi); clear HO_5; clear HK; clear HB; clear HI0; have HO_5 := n0_; have HK := n1_; have HB := n2_; have HI0 := n3_; clear n0_ n1_ n2_ n3_; (try clear hb); (try clear hb2); (try clear hk); (try clear hi)) | ((with_reducible refine gate_builtin (b := .append) (xs := #[.tmp 20, .tmp 22]) rfl ?_); at_builtin; refine Kd.R_append (Kd.int .u8) w.heap.size rfl (.tmp 20) (.tmp 22) 39 5 (.int .u8 0) 1 rfl Tryd.underlying39 info5 rfl (by decide) (by omega) u5 x5_1 ((97 - x6_1) % 256) [.int .u8 ((97 - x6_1) % 256)] (fun _ => True) (fun _ => False) rfl rfl ?aP (fun _ hk => hk.elim) ?aF ?aO (Below.refl _ _) ?aS ?aL ?_; (case aP => exact rfl); (case aF => exact (fun _ _ => trivial)); (case aO => exact (by (with_reducible repeat (first | apply Kd.R_alloc | apply Kd.R_drewN | apply Kd.R_drew)); exact HO_5.out)); (case aS => exact (keep_size (w := w) (g := g) (row := none) (by repeat (first | (with_reducible first | exact HK.out | apply KeepBut.set_ | apply keep_drewN | apply keep_drew | apply keep_alloc) | exact HK.out)))); (case aL => have := LMc10.out; omega); intro v385 w12 ho hb hg hat; rw [← Ny384.out] at ho; have n0_ := Aside0.mk (IsS106.grown (by repeat (first | (with_reducible first | exact HI0.out | apply IsS106.alloc | apply IsS106.drewN | apply IsS106.drew | apply IsS106.set_1 | apply IsS106.set_2) | exact HI0.out)) hg (IsS106.own_ne HI0.out HO_5.out (by decide))); have n1_ := Aside0.mk (below_weaken (by repeat (first | (with_reducible first | exact HB.out | apply below_alloc | apply pw_below_drewN | apply below_drew1 | refine below_set ?_ (IsS106.ge HI0.out)) | exact HB.out)) HL.out hb); have n2_ := Aside0.mk (KeepBut.trans (by repeat (first | (with_reducible first | exact HK.out | apply KeepBut.set_ | apply keep_drewN | apply keep_drew | apply keep_alloc) | exact HK.out)) (KeepBut.of_grown hg g) (Kd.R_base2 HO_5.out)); have n3_ := Aside0.mk (ho); clear HI0; clear HB; clear HK; clear HO_5; have HI0 := n0_; have HB := n1_; have HK := n2_; have HO386 := n3_; clear n0_ n1_ n2_ n3_; clear ho hb hg hat))
            go_roundg k1
            case measure => have := HK1.out; omega
            case rel => exact ⟨(wrap64 (x1_1 - 1)), (y384), ((97 - x6_1) % 256), (t382), (t383), (by first | rfl | (simp; done) | (simp [*]; done)), (by first | rfl | (simp; done) | (simp [*]; done)), H', ⟨by have := HK1.out; omega⟩, ⟨by (with_reducible repeat (first | apply Kd.R_alloc | apply Kd.R_drewN | apply Kd.R_drew)); exact HO386.out⟩, ⟨by repeat (first | (with_reducible first | exact HI0.out | apply IsS106.alloc | apply IsS106.drewN | apply IsS106.drew | apply IsS106.set_1 | apply IsS106.set_2) | exact HI0.out)⟩, ⟨by repeat (first | (with_reducible first | exact HK.out | apply KeepBut.set_ | apply keep_drewN | apply keep_drew | apply keep_alloc) | exact HK.out)⟩, ⟨by repeat (first | (with_reducible first | exact HB.out | apply below_alloc | apply pw_below_drewN | apply below_drew1 | refine below_set ?_ (IsS106.ge HI0.out)) | exact HB.out)⟩⟩
          · rw [if_neg c10] at H
            exact absurd H (by simp)
        · replace c9 := Bool.eq_false_iff.mpr c9
          subst c9
          have H1 : (if x5_1.length < 140737488355328 then (spec_l07DrawLevels.l0 k1 (wrap64 (x1_1 - 1)) (x5_1 ++ [x6_1]) x6_1 s0_0 t382 t383) else (none)) = some (r1, r2, r3) := by rw [if_neg (show ¬ (false = true) by decide)] at H; exact H
          clear H
          have H := H1
          clear H1
          by_cases c13 : x5_1.length < 140737488355328
          · rw [if_pos c13] at H
            have LMc13 := Aside0.mk c13
            clear c13
            obtain ⟨y387, hy387⟩ : ∃ y_ : List Int, y_ = (x5_1 ++ [x6_1]) := ⟨_, rfl⟩
            replace H : (spec_l07DrawLevels.l0 k1 (wrap64 (x1_1 - 1)) y387 x6_1 s0_0 t382 t383) = some (r1, r2, r3) := by first | (rw [hy387]; with_reducible exact H) | (have H2_ := (Option.bind_some _ _).symm.trans H; rw [hy387]; with_reducible exact H2_) | (have H2_ := (Option.bind_some _ _).symm.trans H; with_reducible exact H2_) | with_reducible exact H | (rw [hy387]; exact H) | exact H
            have Ny387 := Aside0.mk hy387
            clear hy387
            have H' := Aside0.mk H
            clear H
            go_wp2_with (first | ((with_reducible refine gate_callee (f := 94) rfl ?_); refine goesL_ (some 17) rfl rfl Tryd.func94 (by kernel_rfl) rfl #[.pointer (some ⟨g, 0, none⟩), .int .i64 6] rfl (by (try simp only [List.map_toArray, List.map_cons, List.map_nil]); first | done | rfl | (simp only [List.length_drop, List.length_take]; rfl)) ?_; (with_reducible refine (spec_l00Src_one.calls g s0_0 x1001_1 x1002_1 6 false t382 t383 w0 _ ?side1 ?side2 A8.out).mono ?_); (case side1 => repeat (first | (with_reducible first | exact HI0.out | apply IsS106.alloc | apply IsS106.drewN | apply IsS106.drew | apply IsS106.set_1 | apply IsS106.set_2) | exact HI0.out)); (case side2 => repeat (first | (with_reducible first | exact HB.out | apply below_alloc | apply pw_below_drewN | apply below_drew1 | refine below_set ?_ (IsS106.ge HI0.out)) | exact HB.out)); rintro e w14 ⟨rfl, hi, hb, hk⟩; refine ⟨_, rfl, ?_⟩; have n0_ := Aside0.mk (Kd.R_mono (Kd.R_keep (IsS106.apart (show IsS106 w0 _ g s0_0 x1001_1 x1002_1 from by repeat (first | (with_reducible first | exact HI0.out | apply IsS106.alloc | apply IsS106.drewN | apply IsS106.drew | apply IsS106.set_1 | apply IsS106.set_2) | exact HI0.out)) (by (with_reducible repeat (first | apply Kd.R_alloc | apply Kd.R_drewN | apply Kd.R_drew)); exact HO_5.out) (by decide)) hk (fun _ h => h.2)) (fun _ h => h.1)); have n1_ := Aside0.mk (KeepBut.trans (by repeat (first | (with_reducible first | exact HK.out | apply KeepBut.set_ | apply keep_drewN | apply keep_drew | apply keep_alloc) | exact HK.out)) hk (.inl rfl)); have n2_ := Aside0.mk (hb); have n3_ := Aside0.mk (hi); clear HO_5; clear HK; clear HB; clear HI0; have HO_5 := n0_; have HK := n1_; have HB := n2_; have HI0 := n3_; clear n0_ n1_ n2_ n3_; (try clear hb); (try clear hb2); (try clear hk); (try clear hi)) | ((with_reducible refine gate_builtin (b := .append) (xs := #[.tmp 20, .tmp 22]) rfl ?_); at_builtin; refine Kd.R_append (Kd.int .u8) w.heap.size rfl (.tmp 20) (.tmp 22) 39 5 (.int .u8 0) 1 rfl Tryd.underlying39 info5 rfl (by decide) (by omega) u5 x5_1 x6_1 [.int .u8 x6_1] (fun _ => True) (fun _ => False) rfl rfl ?aP (fun _ hk => hk.elim) ?aF ?aO (Below.refl _ _) ?aS ?aL ?_; (case aP => exact rfl); (case aF => exact (fun _ _ => trivial)); (case aO => exact (by (with_reducible repeat (first | apply Kd.R_alloc | apply Kd.R_drewN | apply Kd.R_drew)); exact HO_5.out)); (case aS => exact (keep_size (w := w) (g := g) (row := none) (by repeat (first | (with_reducible first | exact HK.out | apply KeepBut.set_ | apply keep_drewN | apply keep_drew | apply keep_alloc) | exact HK.out)))); (case aL => have := LMc13.out; omega); intro v388 w15 ho hb hg hat; rw [← Ny387.out] at ho; have n0_ := Aside0.mk (IsS106.grown (by repeat (first | (with_reducible first | exact HI0.out | apply IsS106.alloc | apply IsS106.drewN | apply IsS106.drew | apply IsS106.set_1 | apply IsS106.set_2) | exact HI0.out)) hg (IsS106.own_ne HI0.out HO_5.out (by decide))); have n1_ := Aside0.mk (below_weaken (by repeat (first | (with_reducible first | exact HB.out | apply below_alloc | apply pw_below_drewN | apply below_drew1 | refine below_set ?_ (IsS106.ge HI0.out)) | exact HB.out)) HL.out hb); have n2_ := Aside0.mk (KeepBut.trans (by repeat (first | (with_reducible first | exact HK.out | apply KeepBut.set_ | apply keep_drewN | apply keep_drew | apply keep_alloc) | exact HK.out)) (KeepBut.of_grown hg g) (Kd.R_base2 HO_5.out)); have n3_ := Aside0.mk (ho); clear HI0; clear HB; clear HK; clear HO_5; have HI0 := n0_; have HB := n1_; have HK := n2_; have HO389 := n3_; clear n0_ n1_ n2_ n3_; clear ho hb hg hat))
            go_roundg k1
            case measure => have := HK1.out; omega
            case rel => exact ⟨(wrap64 (x1_1 - 1)), (y387), (x6_1), (t382), (t383), (by first | rfl | (simp; done) | (simp [*]; done)), (by first | rfl | (simp; done) | (simp [*]; done)), H', ⟨by have := HK1.out; omega⟩, ⟨by (with_reducible repeat (first | apply Kd.R_alloc | apply Kd.R_drewN | apply Kd.R_drew)); exact HO389.out⟩, ⟨by repeat (first | (with_reducible first | exact HI0.out | apply IsS106.alloc | apply IsS106.drewN | apply IsS106.drew | apply IsS106.set_1 | apply IsS106.set_2) | exact HI0.out)⟩, ⟨by repeat (first | (with_reducible first | exact HK.out | apply KeepBut.set_ | apply keep_drewN | apply keep_drew | apply keep_alloc) | exact HK.out)⟩, ⟨by repeat (first | (with_reducible first | exact HB.out | apply below_alloc | apply pw_below_drewN | apply below_drew1 | refine below_set ?_ (IsS106.ge HI0.out)) | exact HB.out)⟩⟩
          · rw [if_neg c13] at H
            exact absurd H (by simp)
      · rw [if_neg c7] at H
        have c7b0 : decide (0 < x1_1) = false := decide_eq_false c7
        clear c7
        simp only [Option.some.injEq, Prod.mk.injEq] at H
        obtain ⟨rfl, rfl, rfl⟩ := H
        have hcv16 := own_string (P := Tryd.prog) Tryd.underlying39 Tryd.underlying5 Tryd.underlying9 (Kd.own_of_R HO_5.out)
        go_wp2
        go_ret
        exact ⟨by first | rfl | (simp [errW_none, errW_some] <;> rfl) | (simp [*, errW_none, errW_some] <;> rfl), by repeat (first | (with_reducible first | exact HI0.out | apply IsS106.alloc | apply IsS106.drewN | apply IsS106.drew | apply IsS106.set_1 | apply IsS106.set_2) | exact HI0.out), by repeat (first | (with_reducible first | exact HB.out | apply below_alloc | apply pw_below_drewN | apply below_drew1 | refine below_set ?_ (IsS106.ge HI0.out)) | exact HB.out), by repeat (first | (with_reducible first | exact HK.out | apply KeepBut.set_ | apply keep_drewN | apply keep_drew | apply keep_alloc) | exact HK.out)⟩
end Go.Proofs.YthkpnbelbaljdaaDoor.X
end
section
-- Written by a program of this session out of the kit's print of the loaded functions: a plain function of a Go function, and its contract.
namespace Go.Proofs.YthkpnbelbaljdaaDoor.X
open Go.RowKit Go.Proofs.YthkpnbelbaljdaaDoorW.PrintWords Go.Proofs.YthkpnbelbaljdaaDoorW.PrintLast Go.Proofs.YthkpnbelbaljdaaDoorW.PrintMore
attribute [local go_sem] max2_int min2_int max_two min_two max_three min_three max_four min_four   -- for this text's walks alone
set_option linter.unusedVariables false
set_option linter.unusedSimpArgs false
/-! ### spec_B10Levels: function 28 -/
def spec_B10Levels.f (k : Nat) (l0 : List Int) (a1 : Int) : Option (ByteArray) := (spec_l00From.f l0).bind fun bt390 => ((spec_l07DrawLevels.f k bt390.1 bt390.2.1 bt390.2.2 a1).bind fun bt394 => (some bt394.1))
set_option maxHeartbeats 8000000 in
set_option maxRecDepth 100000 in
theorem spec_B10Levels.calls (k : Nat) (A0 : Option Addr) (c0 : Nat) (l0 : List Int) (a1 : Int) (r : ByteArray) (w : World) (hr0 : Kd.C (Kd.int .u8) w A0 l0.length l0) (hc0 : l0.length ≤ c0) (h : spec_B10Levels.f k l0 a1 = some r) :
    Calls Tryd.prog 28 #[.slice A0 l0.length c0, .int .i64 a1] w fun e w' => e = .returned (.string r) ∧ Below w.heap.size w w' := by
  have HR0 := Aside0.mk hr0
  have HC0 := Aside0.mk hc0
  clear hr0 hc0
  have HB := Aside0.mk (Below.refl w.heap.size w)
  have H : ((spec_l00From.f l0).bind fun bt390 => ((spec_l07DrawLevels.f k bt390.1 bt390.2.1 bt390.2.2 a1).bind fun bt394 => (some bt394.1))) = some r := h
  clear h
  replace H := Option.bind_eq_some_iff.mp H
  obtain ⟨⟨t390, t391, t392⟩, A30, H⟩ := H
  replace H : ((spec_l07DrawLevels.f k t390 t391 t392 a1).bind fun bt394 => (some bt394.1)) = some r := H
  have A3 := Aside0.mk A30
  clear A30
  replace H := Option.bind_eq_some_iff.mp H
  obtain ⟨⟨t394, t395, t396⟩, A40, H⟩ := H
  replace H : (some t394) = some r := H
  have A4 := Aside0.mk A40
  clear A40
  obtain rfl := Option.some.inj H
  go_enter Tryd.func28, Tryd.ntmps28
  go_wp2_with (first | ((with_reducible refine gate_callee (f := 62) rfl ?_); refine goesL_ (some 7) rfl rfl Tryd.func62 (by kernel_rfl) rfl #[.slice A0 l0.length c0] rfl (by (try simp only [List.map_toArray, List.map_cons, List.map_nil]); first | done | rfl | (simp only [List.length_drop, List.length_take]; rfl)) ?_; (with_reducible refine (spec_l00From.calls _ _ l0 t390 t391 t392 w _ ?side1 ?side2 ?side3 A3.out).mono ?_); (case side1 => repeat (first | (with_reducible first | exact HB.out | apply below_alloc | apply pw_below_drewN | apply below_drew1) | exact HB.out)); (case side2 => exact HR0.out); (case side3 => first | exact trivial | (exact HC0.out)); rintro e w5 ⟨g393, rfl, hi, hb, hb2⟩; refine ⟨_, rfl, ?_⟩; have n0_ := Aside0.mk (hb); have n1_ := Aside0.mk (hi); clear HB; have HB := n0_; have HI393 := n1_; clear n0_ n1_; (try clear hb); (try clear hb2); (try clear hk); (try clear hi)) | ((with_reducible refine gate_callee (f := 64) rfl ?_); refine goesL_ (some 10) rfl rfl Tryd.func64 (by kernel_rfl) rfl #[.pointer (some ⟨g393, 0, none⟩), .int .i64 a1] rfl (by (try simp only [List.map_toArray, List.map_cons, List.map_nil]); first | done | rfl | (simp only [List.length_drop, List.length_take]; rfl)) ?_; (with_reducible refine (spec_l07DrawLevels.calls k g393 t390 t391 t392 a1 t394 t395 t396 w _ ?side1 ?side2 A4.out).mono ?_); (case side1 => repeat (first | (with_reducible first | exact HI393.out | apply IsS106.alloc | apply IsS106.drewN | apply IsS106.drew | apply IsS106.set_1 | apply IsS106.set_2) | exact HI393.out)); (case side2 => repeat (first | (with_reducible first | exact HB.out | apply below_alloc | apply pw_below_drewN | apply below_drew1 | refine below_set ?_ (IsS106.ge HI393.out)) | exact HB.out)); rintro e w6 ⟨rfl, hi, hb, hk⟩; refine ⟨_, rfl, ?_⟩; have n0_ := Aside0.mk (hb); have n1_ := Aside0.mk (hi); clear HB; clear HI393; have HB := n0_; have HI393 := n1_; clear n0_ n1_; (try clear hb); (try clear hb2); (try clear hk); (try clear hi)))
  go_ret
  exact ⟨by first | rfl | (simp [errW_none, errW_some] <;> rfl) | (simp [*, errW_none, errW_some] <;> rfl), by repeat (first | (with_reducible first | exact HB.out | apply below_alloc | apply pw_below_drewN | apply below_drew1 | refine below_set ?_ (IsS106.ge HI393.out)) | exact HB.out)⟩
end Go.Proofs.YthkpnbelbaljdaaDoor.X
end
section
-- Written by a program of this session out of the kit's print of the loaded functions: a plain function of a Go function, and its contract.
namespace Go.Proofs.YthkpnbelbaljdaaDoor.X
open Go.RowKit Go.Proofs.YthkpnbelbaljdaaDoorW.PrintWords Go.Proofs.YthkpnbelbaljdaaDoorW.PrintLast Go.Proofs.YthkpnbelbaljdaaDoorW.PrintMore
attribute [local go_sem] max2_int min2_int max_two min_two max_three min_three max_four min_four   -- for this text's walks alone
set_option linter.unusedVariables false
set_option linter.unusedSimpArgs false
/-! ### spec_l01DrawGood: function 66 -/
end Go.Proofs.YthkpnbelbaljdaaDoor.X
end
section
-- Written by a program of this session out of the kit's print of the loaded functions: a plain function of a Go function, and its contract.
namespace Go.Proofs.YthkpnbelbaljdaaDoor.X
open Go.RowKit Go.Proofs.YthkpnbelbaljdaaDoorW.PrintWords Go.Proofs.YthkpnbelbaljdaaDoorW.PrintLast Go.Proofs.YthkpnbelbaljdaaDoorW.PrintMore
attribute [local go_sem] max2_int min2_int max_two min_two max_three min_three max_four min_four   -- for this text's walks alone
set_option linter.unusedVariables false
set_option linter.unusedSimpArgs false
/-! ### spec_B10Wave: function 31 -/
end Go.Proofs.YthkpnbelbaljdaaDoor.X
end
section
/- What the law draws: waves, clocks, levels, numbers. Conditions: the bytes are bytes. -/
namespace Go.Proofs.YthkpnbelbaljdaaDoor.X
open Go.RowKit Go.Proofs.YthkpnbelbaljdaaDoorW.PrintWords Go.Proofs.YthkpnbelbaljdaaDoorW.PrintLast Go.Proofs.YthkpnbelbaljdaaDoorW.PrintMore
set_option linter.unusedVariables false
set_option linter.unusedSimpArgs false
def Lvl (L : List Int) : Prop := ∀ x ∈ L, x = 48 ∨ x = 49
theorem Lvl.nil : Lvl [] := fun x hx => by simp at hx
theorem Lvl.snoc {L : List Int} {x : Int} (h : Lvl L) (hx : x = 48 ∨ x = 49) : Lvl (L ++ [x]) := fun y hy => by
  rcases List.mem_append.1 hy with hy | hy
  · exact h y hy
  · rw [List.mem_singleton.1 hy]; exact hx
theorem lev_str {L : List Int} (h : Lvl L) : Lev (strOfNums L) ∧ (strOfNums L).size = L.length := by
  refine ⟨fun i hi => ?_, strOfNums_size L⟩
  rw [strOfNums_size] at hi
  have := h _ (List.getElem_mem hi)
  rw [bt_str L i hi (by omega) (by omega)]
  exact this
theorem at_ok (l : List Int) (hb : Byt l) (i n : Nat) (hi : i ≤ 100) (hn : 1 ≤ n) (hn2 : n ≤ 1000) : ∃ v : Int, laws_b10At.f l i n = some v ∧ 0 ≤ v ∧ v < n := by
  unfold laws_b10At.f
  by_cases h1 : (n : Int) ≤ 1
  · rw [if_pos h1]; exact ⟨0, rfl, by omega, by omega⟩
  · rw [if_neg h1]
    by_cases hl : i < l.length
    · have hm := hb _ (List.getElem_mem hl)
      rw [if_pos (by omega), if_pos (by omega), if_neg (by omega), rd_nat l i hl, w64 (n := l[i]) (by omega) (by omega), tmodp (by omega)]
      have := Int.emod_nonneg l[i] (show (n : Int) ≠ 0 by omega)
      have := Int.emod_lt_of_pos l[i] (show (0 : Int) < n by omega)
      exact ⟨_, rfl, by omega, by omega⟩
    · rw [if_neg (by omega), if_neg (by omega), w64 (n := (i : Int) * 37) (by omega) (by omega), w64 (n := (i : Int) * 37 + 11) (by omega) (by omega), tmodp (by omega)]
      have := Int.emod_nonneg ((i : Int) * 37 + 11) (show (n : Int) ≠ 0 by omega)
      have := Int.emod_lt_of_pos ((i : Int) * 37 + 11) (show (0 : Int) < n by omega)
      exact ⟨_, rfl, by omega, by omega⟩
theorem clock_loop (n : Nat) (hn : n ≤ 1000) (hi lo at_ : Int) (h1 : 1 ≤ hi) (h2 : hi ≤ 1000) (h3 : 1 ≤ lo) (h4 : lo ≤ 1000) (h5 : 0 ≤ at_) (h6 : at_ ≤ 10000) : ∀ (d k i : Nat) (L : List Int), i + d = n → d < k → L.length = i → Lvl L →
    ∃ s, spec_B10Clock.l0 k n hi lo at_ L i = some s ∧ s.size = n ∧ Lev s
  | 0, k, i, L, hi2, hk, hl, hL => by
    cases k with
    | zero => omega
    | succ k =>
      rw [spec_B10Clock.l0, if_neg (by omega)]
      obtain ⟨q1, q2⟩ := lev_str hL
      exact ⟨_, rfl, by rw [q2]; omega, q1⟩
  | d + 1, k, i, L, hi2, hk, hl, hL => by
    cases k with
    | zero => omega
    | succ k =>
      rw [spec_B10Clock.l0, if_pos (by omega), w64 (n := hi + lo) (by omega) (by omega), if_neg (by omega), w64 (n := (i : Int) + 1) (by omega) (by omega)]
      split
      · rw [if_pos (by omega)]
        have := clock_loop n hn hi lo at_ h1 h2 h3 h4 h5 h6 d k (i + 1) (L ++ [49]) (by omega) (by omega) (by simp; omega) (hL.snoc (.inr rfl))
        rw [Int.natCast_add, Int.natCast_one] at this
        exact this
      · rw [if_pos (by omega)]
        have := clock_loop n hn hi lo at_ h1 h2 h3 h4 h5 h6 d k (i + 1) (L ++ [48]) (by omega) (by omega) (by simp; omega) (hL.snoc (.inl rfl))
        rw [Int.natCast_add, Int.natCast_one] at this
        exact this
theorem clock_ok (k : Nat) (l : List Int) (hb : Byt l) (n : Nat) (hn : n ≤ 1000) (hk : n < k) : ∃ s, spec_B10Clock.f k l n = some s ∧ s.size = n ∧ Lev s := by
  unfold spec_B10Clock.f spec_l00From.f
  rw [Option.bind_some]
  obtain ⟨v1, j1, s1, e1, a1, b1, c1, d1⟩ := pick_ok l hb 0 (by omega) 0 3 (by omega)
  rw [show ((0 : Nat) : Int) = 0 from rfl] at e1
  rw [e1, Option.bind_some]
  obtain ⟨v2, j2, s2, e2, a2, b2, c2, d2⟩ := pick_ok l hb j1 (by omega) s1 3 (by omega)
  simp only
  rw [e2, Option.bind_some]
  simp only
  rw [w64 (n := 1 + v1) (by omega) (by omega), w64 (n := 1 + v2) (by omega) (by omega), w64 (n := 1 + v1 + (1 + v2)) (by omega) (by omega)]
  obtain ⟨v3, j3, s3, e3, a3, b3, c3, d3⟩ := pick_ok l hb j2 (by omega) s2 (1 + v1 + (1 + v2)) (by omega)
  rw [e3, Option.bind_some]
  simp only
  have := clock_loop n hn (1 + v1) (1 + v2) v3 (by omega) (by omega) (by omega) (by omega) (by omega) (by omega) n k 0 [] (by omega) hk rfl Lvl.nil
  exact this
theorem levels_loop (l : List Int) (hb : Byt l) (n : Nat) (hn : n ≤ 1000) : ∀ (d k i : Nat) (L : List Int) (c : Int) (h : Int), d ≤ n → d < k → L.length + d = n → Lvl L → (c = 48 ∨ c = 49) → i + 2 * d ≤ 10000 →
    ∃ s p q, spec_l07DrawLevels.l0 k d L c l i h = some (s, p, q) ∧ s.size = n ∧ Lev s
  | 0, k, i, L, c, h, hd, hk, hl, hL, hc, hi => by
    cases k with
    | zero => omega
    | succ k =>
      rw [spec_l07DrawLevels.l0, if_neg (by omega)]
      obtain ⟨q1, q2⟩ := lev_str hL
      exact ⟨_, _, _, rfl, by rw [q2]; omega, q1⟩
  | d + 1, k, i, L, c, h, hd, hk, hl, hL, hc, hi => by
    cases k with
    | zero => omega
    | succ k =>
      obtain ⟨v, j, s, e, a1, b1⟩ := one_ok l hb i (by omega) h 6 (by omega)
      rw [spec_l07DrawLevels.l0, if_pos (by omega), e, Option.bind_some, w64 (n := ((d + 1 : Nat) : Int) - 1) (by omega) (by omega)]
      simp only
      have ed : ((d + 1 : Nat) : Int) - 1 = (d : Int) := by omega
      rw [ed]
      split
      · rw [if_pos (by omega)]
        have hc2 : (97 - c) % 256 = 48 ∨ (97 - c) % 256 = 49 := by omega
        exact levels_loop l hb n hn d k j (L ++ [(97 - c) % 256]) _ s (by omega) (by omega) (by simp; omega) (hL.snoc hc2) hc2 (by omega)
      · rw [if_pos (by omega)]
        exact levels_loop l hb n hn d k j (L ++ [c]) c s (by omega) (by omega) (by simp; omega) (hL.snoc hc) hc (by omega)
theorem levels_ok (k : Nat) (l : List Int) (hb : Byt l) (n : Nat) (hn : n ≤ 1000) (hk : n < k) : ∃ s, spec_B10Levels.f k l n = some s ∧ s.size = n ∧ Lev s := by
  unfold spec_B10Levels.f spec_l00From.f spec_l07DrawLevels.f
  rw [Option.bind_some]
  obtain ⟨v1, j1, s1, e1, a1, b1, c1, d1⟩ := pick_ok l hb 0 (by omega) 0 2 (by omega)
  rw [show ((0 : Nat) : Int) = 0 from rfl] at e1
  rw [e1, Option.bind_some]
  simp only
  rw [w64 (n := 48 + v1) (by omega) (by omega)]
  obtain ⟨s, p, q, e, h1, h2⟩ := levels_loop l hb n hn n k j1 [] ((48 + v1) % 256) s1 (by omega) hk (by simp) Lvl.nil (by omega) (by omega)
  rw [e, Option.bind_some]
  exact ⟨_, rfl, h1, h2⟩
end Go.Proofs.YthkpnbelbaljdaaDoor.X
end
section
/- A stub: the text lies in G3. -/
end
section
/- When a wave is clean: each pulse begins with one of a clock's and goes with it. Conditions: as each lemma says. -/
namespace Go.Proofs.YthkpnbelbaljdaaDoor.X
open Go.RowKit Go.Proofs.YthkpnbelbaljdaaDoorW.PrintWords Go.Proofs.YthkpnbelbaljdaaDoorW.PrintLast Go.Proofs.YthkpnbelbaljdaaDoorW.PrintMore
set_option linter.unusedVariables false
set_option linter.unusedSimpArgs false
/-- The pulse that begins at an edge upwards. -/
theorem runs_mem (s : ByteArray) (u : Int) : ∀ (us ds : List Int), Runs s us ds → u ∈ us → ∃ d, Run s u d ∧ (⟨u, d - u⟩ : S61) ∈ pz us ds
  | [], [], _, h => by simp at h
  | x :: us, d :: ds, hr, h => by
    rw [show pz (x :: us) (d :: ds) = ⟨x, d - x⟩ :: pz us ds from rfl]
    rcases List.mem_cons.1 h with rfl | h
    · exact ⟨d, hr.1, List.mem_cons_self⟩
    · obtain ⟨d', h1, h2⟩ := runs_mem s u us ds hr.2 h
      exact ⟨d', h1, List.mem_cons_of_mem _ h2⟩
  | [], _ :: _, hr, _ => hr.elim
  | _ :: _, [], hr, _ => hr.elim
theorem pz_mem (s : ByteArray) (p : S61) : ∀ (us ds : List Int), Runs s us ds → p ∈ pz us ds → p.f0 ∈ us ∧ ∃ d, Run s p.f0 d ∧ p.f1 = d - p.f0
  | [], [], _, h => by simp [pz] at h
  | x :: us, d :: ds, hr, h => by
    rw [show pz (x :: us) (d :: ds) = ⟨x, d - x⟩ :: pz us ds from rfl] at h
    rcases List.mem_cons.1 h with rfl | h
    · exact ⟨List.mem_cons_self, d, hr.1, rfl⟩
    · obtain ⟨h1, h2⟩ := pz_mem s p us ds hr.2 h
      exact ⟨List.mem_cons_of_mem _ h1, h2⟩
  | [], _ :: _, hr, _ => hr.elim
  | _ :: _, [], hr, _ => hr.elim
/-- A text goes with another one from a tick on, as long as it is high. -/
def Goes (o x : ByteArray) (i : Nat) : Prop := isE x 49 i = true ∧ ∀ j : Nat, i ≤ j → j < o.size → (∀ m : Nat, i ≤ m → m < j → bt o (m : Int) = 49) → (bt o (j : Int) = 49 ↔ bt x (j : Int) = 49)
theorem goes_pulse {o x : ByteArray} (hx : Lev x) (hn : x.size = o.size) {i : Nat} (hi : i < o.size) (h : Goes o x i) {d : Nat} (hid : i < d) (hd : d ≤ o.size) (hall : ∀ j : Nat, i ≤ j → j < d → bt o (j : Int) = 49) (hend : d < o.size → bt o (d : Int) = 48) :
    ∃ q ∈ pz (edg x 49 x.size) (dns x), q.f0 = (i : Int) ∧ (q.f1 = (d : Int) - i ∨ (d : Int) = o.size) := by
  have hmem : (i : Int) ∈ edg x 49 x.size := (edg_mem x 49 x.size _).2 ⟨i, by omega, h.1, rfl⟩
  obtain ⟨e, ⟨a, b, ha, rfl, hab, hb, hall2, hend2⟩, hq⟩ := runs_mem x (i : Int) _ _ (runs_all x hx) hmem
  obtain rfl : i = a := by omega
  refine ⟨_, hq, rfl, ?_⟩
  by_cases hdn : d = o.size
  · right; omega
  · left
    show (b : Int) - i = d - i
    have hod := hend (by omega)
    have h1 : ¬ bt x (d : Int) = 49 := fun hx49 => by
      have := (h.2 d (by omega) (by omega) (fun m h1 h2 => hall m h1 h2)).2 hx49
      omega
    have h2 : b ≤ d := by
      rcases Nat.lt_or_ge d b with hlt | hge
      · exact absurd (hall2 d (by omega) hlt) h1
      · exact hge
    have h3 : d ≤ b := by
      rcases Nat.lt_or_ge b d with hlt | hge
      · have := (h.2 b (by omega) (by omega) (fun m h1 h2 => hall m h1 (by omega))).1 (hall b (by omega) hlt)
        have := hend2 (by omega)
        omega
      · exact hge
    omega
theorem clean_of (o a b : ByteArray) (ho : Lev o) (ha : Lev a) (hb : Lev b) (han : a.size = o.size) (hbn : b.size = o.size) (h : ∀ i : Nat, i < o.size → isE o 49 i = true → Goes o a i ∨ Goes o b i) : cleanB o a b = true := by
  unfold cleanB
  rw [List.all_eq_true]
  intro p hp
  obtain ⟨hu, e, ⟨i, d, hi, rfl, hid, hd, hall, hend⟩, hlen⟩ := pz_mem o p _ _ (runs_all o ho) hp
  obtain ⟨i', hi', hE, hii⟩ := (edg_mem o 49 o.size _).1 hu
  obtain rfl : i = i' := by omega
  unfold oneOf
  rw [List.any_eq_true]
  have fin : ∀ q : S61, q.f0 = (i : Int) ∧ (q.f1 = (d : Int) - i ∨ (d : Int) = o.size) → samePulse p.f0 p.f1 (p.f0 + p.f1 == (o.size : Int)) q.f0 q.f1 = true := by
    rintro q ⟨q0, q1⟩
    unfold samePulse
    rw [q0, hi, hlen, hi]
    rcases q1 with q1 | q1
    · rw [q1]; simp
    · rw [show (i : Int) + ((d : Int) - i) = o.size by omega]; simp
  rcases h i hi' hE with hg | hg
  · obtain ⟨q, hq, hf⟩ := goes_pulse ha han hi' hg hid hd hall hend
    exact ⟨q, List.mem_append_left _ hq, fin q hf⟩
  · obtain ⟨q, hq, hf⟩ := goes_pulse hb hbn hi' hg hid hd hall hend
    exact ⟨q, List.mem_append_right _ hq, fin q hf⟩
theorem isE_one (s : ByteArray) (i : Nat) : isE s 49 i = true ↔ bt s (i : Int) = 49 ∧ (i = 0 ∨ bt s ((i - 1 : Nat) : Int) ≠ 49) := by
  unfold isE prv
  rw [Bool.and_eq_true, decide_eq_true_eq, Bool.not_eq_true', decide_eq_false_iff_not]
  by_cases h : i = 0
  · subst h; simp
  · rw [if_neg h]
    constructor
    · rintro ⟨h1, h2⟩; exact ⟨h1, .inr h2⟩
    · rintro ⟨h1, h2 | h2⟩
      · exact absurd h2 h
      · exact ⟨h1, h2⟩
end Go.Proofs.YthkpnbelbaljdaaDoor.X
end
section
/- A stub: the text lies in G5. -/
end
section
/- A stub: the text lies in G4. -/
end
section
/- A stub: the text lies in G1. -/
end
section
/- A stub: the text lies in G5. -/
end
section
-- Written by a program of this session out of the kit's print of the loaded functions: a plain function of a Go function, and its contract.
namespace Go.Proofs.YthkpnbelbaljdaaDoor.X
open Go.RowKit Go.Proofs.YthkpnbelbaljdaaDoorW.PrintWords Go.Proofs.YthkpnbelbaljdaaDoorW.PrintLast Go.Proofs.YthkpnbelbaljdaaDoorW.PrintMore
attribute [local go_sem] max2_int min2_int max_two min_two max_three min_three max_four min_four   -- for this text's walks alone
set_option linter.unusedVariables false
set_option linter.unusedSimpArgs false
/-! ### spec_SwitchTimes: function 20 -/
end Go.Proofs.YthkpnbelbaljdaaDoor.X
end
section
/- A stub: the text lies in G0. -/
end
section
/- A stub: the text lies in G0. -/
end
section
/- A stub: the text lies in G0. -/
end
section
/- A stub: the text lies in G4. -/
end
section
/- The program's SwitchTimes: what it answers. Conditions: as each lemma says. -/
namespace Go.Proofs.YthkpnbelbaljdaaDoor.X
open Go.RowKit Go.Proofs.YthkpnbelbaljdaaDoorW.PrintWords Go.Proofs.YthkpnbelbaljdaaDoorW.PrintLast Go.Proofs.YthkpnbelbaljdaaDoorW.PrintMore
set_option linter.unusedVariables false
set_option linter.unusedSimpArgs false
/-- Two small arrays, as one Bool. -/
theorem eq2 (a b c d : Int) (n : Nat) (W : World) : (Op.equalIn (n + 2) 72 (.agg #[.int .u8 a, .int .u8 b]) (.agg #[.int .u8 c, .int .u8 d])).run Tryd.prog W = .ok ((a == c) && (b == d)) W := by
  have hi := (show (Tryd.prog.info? 5).map (fun i => i.size) = some 1 by kernel_rfl)
  obtain ⟨i0, h1, h2⟩ := Option.map_eq_some_iff.1 hi
  have hst : Tryd.prog.stoodInHeld 72 = false := by kernel_rfl
  simp [Op.equalIn, run_underlying Tryd.underlying72, run_underlying Tryd.underlying5, sizeOf, typeInfo, h1, h2, hst, go_sem, List.range', List.forIn_cons, List.forIn_nil, isAgg, part]
  by_cases e1 : a = c <;> by_cases e2 : b = d <;> simp [e1, e2, go_sem, run_underlying Tryd.underlying5]
/-- What a text held a tick before. -/
def pvb (x : ByteArray) (p : Int) : Nat → Int
  | 0 => p
  | n + 1 => bt x (n : Int)
def chg (x y : ByteArray) (p q : Int) (n : Nat) : Bool := !((bt x (n : Int) == pvb x p n) && (bt y (n : Int) == pvb y q n))
def chgs (x y : ByteArray) (p q : Int) : Nat → List Int
  | 0 => []
  | n + 1 => chgs x y p q n ++ (if chg x y p q n = true then [(n : Int)] else [])
theorem chgs_len (x y : ByteArray) (p q : Int) : ∀ n, (chgs x y p q n).length ≤ n
  | 0 => Nat.le_refl _
  | n + 1 => by have := chgs_len x y p q n; show (chgs x y p q n ++ _).length ≤ _; rw [List.length_append]; split <;> simp <;> omega
set_option maxHeartbeats 4000000 in
set_option maxRecDepth 100000 in
theorem Times_yes (m fi : Int) (a b c x y : ByteArray) (w : World) (h : impl_EnablesOf.f m fi a b c = some (x, y, true)) (hn : x.size ≤ 1000000) (hy : y.size = x.size) (p q : Int) (hp : p = if fi = 1 then 48 else 49) (hq : q = if fi = 1 then 49 else 48) :
    Calls Tryd.prog 21 #[.agg #[.int .i64 m, .int .i64 fi], .string a, .string b, .string c] w fun e w' => ∃ v0_ : Value, e = .returned (.tuple #[v0_, .bool true]) ∧ Kd.R (Kd.int .i64) 2 w' w.heap.size (fun _ => True) v0_ (chgs x y p q x.size) ∧ Below w.heap.size w w' := by
  have H := Aside0.mk h
  have HN := Aside0.mk hn
  have HY := Aside0.mk hy
  have HP := Aside0.mk hp
  have HQ := Aside0.mk hq
  clear h hn hy hp hq
  have HB := Aside0.mk (Below.refl w.heap.size w)
  by_cases hf : fi = 1
  · have mf : (fi == 1) = true := beq_iff_eq.mpr hf
    have HF := Aside0.mk hf
    clear hf
    go_enter Tryd.func21, Tryd.ntmps21
    go_wp2_with (first
      | ((with_reducible refine gate_dst (N := 4) rfl ?_); refine box_event ?hg (N := 4) ?hd (cs := #[.int .i64 m, .int .i64 fi]) (t := 30) ?hr ?_; (case hd => rfl); (case hg => rfl); (case hr => first | (go_simp; done) | (go_simp; rfl)); intro gs hg wn hbox hb; have BK := Aside0.mk hbox; have n0_ := Aside0.mk (below_step HB.out hb); clear HB hb hg hbox; have HB := n0_; clear n0_; have cs0 : wn.cell? ⟨gs, 0, none⟩ = some (.int .i64 m) := (blk_cell BK.out 0).trans rfl; have cs1 : wn.cell? ⟨gs, 1, none⟩ = some (.int .i64 fi) := (blk_cell BK.out 1).trans rfl)
      | (go_at_call 17; (with_reducible refine (impl_EnablesOf.calls m fi a b c x y true _ H.out).mono ?_); rintro e w2 ⟨rfl, hb⟩; have m_ := Aside0.mk (blk_below BK.out hb); have n0_ := Aside0.mk (below_step HB.out hb); clear HB BK hb; have HB := n0_; have BK := m_; clear n0_ m_; have cs1 : ∀ o1 o2, ((w2.alloc o1).alloc o2).cell? ⟨gs, 1, none⟩ = some (.int .i64 fi) := fun o1 o2 => pw_cell_below (below_alloc (below_alloc (Below.refl _ _) _) _) ((blk_cell BK.out 1).trans rfl)))
    obtain ⟨gb, hgb⟩ : ∃ gb, gb = w2.heap.size + 1 := ⟨_, rfl⟩
    rw [← hgb]
    have HGB := Aside0.mk hgb
    clear hgb
    go_loopg [36, 13] x.size (fun kq v36 v13 w' => ∃ (j : Nat) (i : Int) (u : Value) (P Q : Int), v36 = .int .i64 i ∧ u = v13 ∧ Aside0 (i = (j : Int)) ∧ Aside0 (j + kq = x.size) ∧ Aside0 (P = pvb x p j ∧ Q = pvb y q j) ∧ Aside0 (Kd.R (Kd.int .i64) 2 w' w.heap.size (fun k => w.heap.size ≤ k) u (chgs x y p q j)) ∧ Aside0 (w'.heap[gb]? = some (.cells #[.int .u8 P, .int .u8 Q] 72 (0, 0))) ∧ Aside0 (Below w.heap.size w w'))
    case atStart =>
      have hs : (w2.alloc (.cells #[] 2)).heap.size = w2.heap.size + 1 := by simp
      have hz := below_size HB.out
      refine ⟨0, 0, _, 48, 49, rfl, rfl, ⟨rfl⟩, ⟨by omega⟩, ⟨by rw [HP.out, HQ.out, if_pos HF.out, if_pos HF.out]; exact ⟨rfl, rfl⟩⟩, ⟨?_⟩, ⟨by rw [HGB.out, ← hs]; exact blk_new _ _⟩, ⟨below_step HB.out (below_alloc (below_alloc (Below.refl _ _) _) _)⟩⟩
      exact Kd.R_of_own (enc := Value.int .i64) (own_alloc (own_lit_of (enc := Value.int .i64) w2 w.heap.size 2 ([] : List Int) hz (by simp)) _) (fun k hk => own_base (own_lit_of (enc := Value.int .i64) w2 w.heap.size 2 ([] : List Int) hz (by simp)) k hk)
    case round =>
      have HGE := Aside0.mk (show w.heap.size ≤ gb by have := below_size HB.out; have := HGB.out; omega)
      clear HB BK cs1
      obtain ⟨j, i, u, P, Q, rfl, rfl, HI, HE, HPQ, HO, HK, HB⟩ := hrel
      by_cases hlt : i < (x.size : Int)
      · cases gk with
        | zero => have := HE.out; have := HI.out; omega
        | succ g1 =>
        have hbx := bt_at x i
        have hby := bt_at y i
        have p0 : (0 ≤ i) = True := eq_true (by have := HI.out; omega)
        have p1 : (i < (x.size : Int)) = True := eq_true hlt
        have p2 : (i < (y.size : Int)) = True := eq_true (by have := HY.out; omega)
        have cb0 : ∀ o, (wr.alloc o).cell? ⟨gb, 0, none⟩ = some (.int .u8 P) := fun o => pw_cell_below (below_alloc (Below.refl _ _) _) ((blk_cell HK.out 0).trans rfl)
        have cb1 : ∀ o, (wr.alloc o).cell? ⟨gb, 1, none⟩ = some (.int .u8 Q) := fun o => pw_cell_below (below_alloc (Below.refl _ _) _) ((blk_cell HK.out 1).trans rfl)
        have zb0 : ∀ o, (wr.alloc o).frozen? ⟨gb, 0, none⟩ = false := fun o => blk_frozen (blk_alloc HK.out o) 0
        have zb1 : ∀ o, (wr.alloc o).frozen? ⟨gb, 1, none⟩ = false := fun o => blk_frozen (blk_alloc HK.out o) 1
        have heq : ∀ W, (Op.equalIn 10000 72 (.agg #[.int .u8 (bt x i), .int .u8 (bt y i)]) (.agg #[.int .u8 P, .int .u8 Q])).run Tryd.prog W = .ok ((bt x i == P) && (bt y i == Q)) W := fun W => eq2 _ _ _ _ 9998 W
        obtain ⟨E, hE⟩ : ∃ E, E = ((bt x i == P) && (bt y i == Q)) := ⟨_, rfl⟩
        rw [← hE] at heq
        have HEQ := Aside0.mk hE
        clear hE
        have HX : Aside0 (chg x y p q j = !E) := ⟨by unfold chg; rw [HEQ.out, HPQ.out.1, HPQ.out.2, HI.out]⟩
        have HL : Aside0 ((chgs x y p q j).length ≤ j) := ⟨chgs_len x y p q j⟩
        cases E with
        | true =>
          go_upto_region 10 with (fail)
          go_region
          have wj : IntKind.i64.wrap (i + 1) = i + 1 := IntWalk.i64_in _ ⟨by have := HI.out; omega, by have := HN.out; omega⟩
          have HF2 := Aside0.mk (blk_put (blk_put (blk_alloc HK.out (.cells #[.int .u8 (bt x i), .int .u8 (bt y i)] 72)) 0 (.int .u8 (bt x i)) (cs' := #[.int .u8 (bt x i), .int .u8 Q]) rfl) 1 (.int .u8 (bt y i)) (cs' := #[.int .u8 (bt x i), .int .u8 (bt y i)]) rfl)
          have hR0 := Kd.R_alloc HO.out (.cells #[.int .u8 (bt x i), .int .u8 (bt y i)] 72)
          have hk0 := blk_alloc HK.out (.cells #[.int .u8 (bt x i), .int .u8 (bt y i)] 72)
          have hR1 := Kd.R_set hR0 hk0 (by decide) 0 (.int .u8 (bt x i))
          have hk1 := blk_put hk0 0 (.int .u8 (bt x i)) (cs' := #[.int .u8 (bt x i), .int .u8 Q]) rfl
          have HR2 := Aside0.mk (Kd.R_drew (Kd.R_set hR1 hk1 (by decide) 1 (.int .u8 (bt y i))))
          have HB2 := Aside0.mk (below_drew1 <| below_set (j := 1) (v := .int .u8 (bt y i)) (below_set (j := 0) (v := .int .u8 (bt x i)) (below_step HB.out (below_alloc (Below.refl _ _) (.cells #[.int .u8 (bt x i), .int .u8 (bt y i)] 72))) HGE.out) HGE.out)
          clear hR0 hk0 hR1 hk1
          go_wp2
          go_roundg g1
          case measure => omega
          case rel => exact ⟨j + 1, i + 1, u, bt x i, bt y i, rfl, rfl, ⟨by have := HI.out; omega⟩, ⟨by have := HE.out; omega⟩, ⟨by rw [HI.out]; exact ⟨rfl, rfl⟩⟩, ⟨by rw [show chgs x y p q (j + 1) = chgs x y p q j ++ (if chg x y p q j = true then [(j : Int)] else []) from rfl, HX.out, if_neg (by decide), List.append_nil]; exact HR2.out⟩, HF2, HB2⟩
        | false =>
          go_upto_region 10 with (fail)
          go_region
          have wj : IntKind.i64.wrap (i + 1) = i + 1 := IntWalk.i64_in _ ⟨by have := HI.out; omega, by have := HN.out; omega⟩
          obtain ⟨l0, hl0⟩ : ∃ l0, l0 = chgs x y p q j := ⟨_, rfl⟩
          rw [← hl0] at HO HL
          have LM : Aside0 (l0.length < 17592186044416) := ⟨by have := HL.out; have := HE.out; have := HN.out; omega⟩
          have HN1 : Aside0 (l0 ++ [i] = chgs x y p q (j + 1)) := ⟨by rw [show chgs x y p q (j + 1) = chgs x y p q j ++ (if chg x y p q j = true then [(j : Int)] else []) from rfl, HX.out, if_pos (by decide), hl0, HI.out]⟩
          clear hl0 cb0 cb1 zb0 zb1
          have hW0 := Aside0.mk (blk_drew (blk_new wr (.cells #[.int .u8 (bt x i), .int .u8 (bt y i)] 72)))
          have hkW := Aside0.mk (blk_drew (blk_alloc HK.out (.cells #[.int .u8 (bt x i), .int .u8 (bt y i)] 72)))
          have hRW := Aside0.mk (Kd.R_drew (Kd.R_alloc HO.out (.cells #[.int .u8 (bt x i), .int .u8 (bt y i)] 72)))
          have hBW := Aside0.mk (below_drew1 (below_step HB.out (below_alloc (Below.refl _ _) (.cells #[.int .u8 (bt x i), .int .u8 (bt y i)] 72))))
          clear HO HK HB
          generalize (wr.alloc (.cells #[.int .u8 (bt x i), .int .u8 (bt y i)] 72)).drew = W at hW0 hkW hRW hBW ⊢
          generalize wr.heap.size = gA at hW0 ⊢
          have ca0 : W.cell? ⟨gA, 0, none⟩ = some (.int .u8 (bt x i)) := (blk_cell hW0.out 0).trans rfl
          have ca1 : W.cell? ⟨gA, 1, none⟩ = some (.int .u8 (bt y i)) := (blk_cell hW0.out 1).trans rfl
          have cb0 : W.cell? ⟨gb, 0, none⟩ = some (.int .u8 P) := (blk_cell hkW.out 0).trans rfl
          have cb1 : W.cell? ⟨gb, 1, none⟩ = some (.int .u8 Q) := (blk_cell hkW.out 1).trans rfl
          go_wp2_with ((with_reducible refine gate_builtin (b := .append) (xs := #[.tmp 49, .tmp 51]) rfl ?_); at_builtin; refine Kd.R_append (Kd.int .i64) (w0 := w) w.heap.size rfl (.tmp 49) (.tmp 51) 34 2 (.int .i64 0) 8 rfl Tryd.underlying34 info2 rfl (by decide) (by omega) u l0 i [.int .i64 i] (fun k => w.heap.size ≤ k) (fun _ => False) rfl rfl ?aP (fun _ hk => hk.elim) ?aF ?aO ?aB ?aS ?aL ?_; (case aP => exact rfl); (case aB => exact hBW.out); (case aF => exact (fun _ hk => Nat.le_trans (below_size hBW.out) hk)); (case aO => exact hRW.out); (case aS => exact below_size hBW.out); (case aL => have := LM.out; omega); intro v3 w3 ho hb hg hat; rw [HN1.out] at ho; have hk3 := blk_grown hkW.out hg (Kd.R_ne hRW.out hkW.out (by decide)); have hA3 := blk_grown hW0.out hg (Kd.R_ne hRW.out hW0.out (by decide)); have HR3 := Aside0.mk ho; have HB3 := Aside0.mk hb; have HK3 := Aside0.mk hk3; have ca0' : w3.cell? ⟨gA, 0, none⟩ = some (.int .u8 (bt x i)) := (blk_cell hA3 0).trans rfl; have ca1' : w3.cell? ⟨gA, 1, none⟩ = some (.int .u8 (bt y i)) := (blk_cell hA3 1).trans rfl; have zb0' := blk_frozen hk3 0; have cb0' : w3.cell? ⟨gb, 0, none⟩ = some (.int .u8 P) := (blk_cell hk3 0).trans rfl; have hk9 := blk_put hk3 0 (.int .u8 (bt x i)) (cs' := #[.int .u8 (bt x i), .int .u8 Q]) rfl; have cb1s : (w3.setCell ⟨gb, 0, none⟩ (.int .u8 (bt x i))).cell? ⟨gb, 1, none⟩ = some (.int .u8 Q) := (blk_cell hk9 1).trans rfl; have zb1s := blk_frozen hk9 1; clear ho hb hg hat hk3 hA3 hk9)
          have hR1 := Kd.R_set HR3.out HK3.out (by decide) 0 (.int .u8 (bt x i))
          have hk1 := blk_put HK3.out 0 (.int .u8 (bt x i)) (cs' := #[.int .u8 (bt x i), .int .u8 Q]) rfl
          have HR2 := Aside0.mk (Kd.R_set hR1 hk1 (by decide) 1 (.int .u8 (bt y i)))
          have HF2 := Aside0.mk (blk_put hk1 1 (.int .u8 (bt y i)) (cs' := #[.int .u8 (bt x i), .int .u8 (bt y i)]) rfl)
          have HB2 := Aside0.mk (below_set (j := 1) (v := .int .u8 (bt y i)) (below_set (j := 0) (v := .int .u8 (bt x i)) HB3.out HGE.out) HGE.out)
          clear hR1 hk1
          go_roundg g1
          case measure => omega
          case rel => exact ⟨j + 1, i + 1, v3, bt x i, bt y i, rfl, rfl, ⟨by have := HI.out; omega⟩, ⟨by have := HE.out; omega⟩, ⟨by rw [HI.out]; exact ⟨rfl, rfl⟩⟩, HR2, HF2, HB2⟩
      · have hj : j = x.size := by have := HE.out; have := HI.out; omega
        subst hj
        go_wp2
        go_ret2
        exact ⟨_, rfl, Kd.R_mono HO.out (fun _ _ => trivial), HB.out⟩
  · have mf : (fi == 1) = false := beq_eq_false_iff_ne.mpr hf
    have HF := Aside0.mk hf
    clear hf
    go_enter Tryd.func21, Tryd.ntmps21
    go_wp2_with (first
      | ((with_reducible refine gate_dst (N := 4) rfl ?_); refine box_event ?hg (N := 4) ?hd (cs := #[.int .i64 m, .int .i64 fi]) (t := 30) ?hr ?_; (case hd => rfl); (case hg => rfl); (case hr => first | (go_simp; done) | (go_simp; rfl)); intro gs hg wn hbox hb; have BK := Aside0.mk hbox; have n0_ := Aside0.mk (below_step HB.out hb); clear HB hb hg hbox; have HB := n0_; clear n0_; have cs0 : wn.cell? ⟨gs, 0, none⟩ = some (.int .i64 m) := (blk_cell BK.out 0).trans rfl; have cs1 : wn.cell? ⟨gs, 1, none⟩ = some (.int .i64 fi) := (blk_cell BK.out 1).trans rfl)
      | (go_at_call 17; (with_reducible refine (impl_EnablesOf.calls m fi a b c x y true _ H.out).mono ?_); rintro e w2 ⟨rfl, hb⟩; have m_ := Aside0.mk (blk_below BK.out hb); have n0_ := Aside0.mk (below_step HB.out hb); clear HB BK hb; have HB := n0_; have BK := m_; clear n0_ m_; have cs1 : ∀ o1 o2, ((w2.alloc o1).alloc o2).cell? ⟨gs, 1, none⟩ = some (.int .i64 fi) := fun o1 o2 => pw_cell_below (below_alloc (below_alloc (Below.refl _ _) _) _) ((blk_cell BK.out 1).trans rfl)))
    obtain ⟨gb, hgb⟩ : ∃ gb, gb = w2.heap.size + 1 := ⟨_, rfl⟩
    rw [← hgb]
    have HGB := Aside0.mk hgb
    clear hgb
    go_loopg [36, 13] x.size (fun kq v36 v13 w' => ∃ (j : Nat) (i : Int) (u : Value) (P Q : Int), v36 = .int .i64 i ∧ u = v13 ∧ Aside0 (i = (j : Int)) ∧ Aside0 (j + kq = x.size) ∧ Aside0 (P = pvb x p j ∧ Q = pvb y q j) ∧ Aside0 (Kd.R (Kd.int .i64) 2 w' w.heap.size (fun k => w.heap.size ≤ k) u (chgs x y p q j)) ∧ Aside0 (w'.heap[gb]? = some (.cells #[.int .u8 P, .int .u8 Q] 72 (0, 0))) ∧ Aside0 (Below w.heap.size w w'))
    case atStart =>
      have hs : (w2.alloc (.cells #[] 2)).heap.size = w2.heap.size + 1 := by simp
      have hz := below_size HB.out
      refine ⟨0, 0, _, 49, 48, rfl, rfl, ⟨rfl⟩, ⟨by omega⟩, ⟨by rw [HP.out, HQ.out, if_neg HF.out, if_neg HF.out]; exact ⟨rfl, rfl⟩⟩, ⟨?_⟩, ⟨by rw [HGB.out, ← hs]; exact blk_new _ _⟩, ⟨below_step HB.out (below_alloc (below_alloc (Below.refl _ _) _) _)⟩⟩
      exact Kd.R_of_own (enc := Value.int .i64) (own_alloc (own_lit_of (enc := Value.int .i64) w2 w.heap.size 2 ([] : List Int) hz (by simp)) _) (fun k hk => own_base (own_lit_of (enc := Value.int .i64) w2 w.heap.size 2 ([] : List Int) hz (by simp)) k hk)
    case round =>
      have HGE := Aside0.mk (show w.heap.size ≤ gb by have := below_size HB.out; have := HGB.out; omega)
      clear HB BK cs1
      obtain ⟨j, i, u, P, Q, rfl, rfl, HI, HE, HPQ, HO, HK, HB⟩ := hrel
      by_cases hlt : i < (x.size : Int)
      · cases gk with
        | zero => have := HE.out; have := HI.out; omega
        | succ g1 =>
        have hbx := bt_at x i
        have hby := bt_at y i
        have p0 : (0 ≤ i) = True := eq_true (by have := HI.out; omega)
        have p1 : (i < (x.size : Int)) = True := eq_true hlt
        have p2 : (i < (y.size : Int)) = True := eq_true (by have := HY.out; omega)
        have cb0 : ∀ o, (wr.alloc o).cell? ⟨gb, 0, none⟩ = some (.int .u8 P) := fun o => pw_cell_below (below_alloc (Below.refl _ _) _) ((blk_cell HK.out 0).trans rfl)
        have cb1 : ∀ o, (wr.alloc o).cell? ⟨gb, 1, none⟩ = some (.int .u8 Q) := fun o => pw_cell_below (below_alloc (Below.refl _ _) _) ((blk_cell HK.out 1).trans rfl)
        have zb0 : ∀ o, (wr.alloc o).frozen? ⟨gb, 0, none⟩ = false := fun o => blk_frozen (blk_alloc HK.out o) 0
        have zb1 : ∀ o, (wr.alloc o).frozen? ⟨gb, 1, none⟩ = false := fun o => blk_frozen (blk_alloc HK.out o) 1
        have heq : ∀ W, (Op.equalIn 10000 72 (.agg #[.int .u8 (bt x i), .int .u8 (bt y i)]) (.agg #[.int .u8 P, .int .u8 Q])).run Tryd.prog W = .ok ((bt x i == P) && (bt y i == Q)) W := fun W => eq2 _ _ _ _ 9998 W
        obtain ⟨E, hE⟩ : ∃ E, E = ((bt x i == P) && (bt y i == Q)) := ⟨_, rfl⟩
        rw [← hE] at heq
        have HEQ := Aside0.mk hE
        clear hE
        have HX : Aside0 (chg x y p q j = !E) := ⟨by unfold chg; rw [HEQ.out, HPQ.out.1, HPQ.out.2, HI.out]⟩
        have HL : Aside0 ((chgs x y p q j).length ≤ j) := ⟨chgs_len x y p q j⟩
        cases E with
        | true =>
          go_upto_region 10 with (fail)
          go_region
          have wj : IntKind.i64.wrap (i + 1) = i + 1 := IntWalk.i64_in _ ⟨by have := HI.out; omega, by have := HN.out; omega⟩
          have HF2 := Aside0.mk (blk_put (blk_put (blk_alloc HK.out (.cells #[.int .u8 (bt x i), .int .u8 (bt y i)] 72)) 0 (.int .u8 (bt x i)) (cs' := #[.int .u8 (bt x i), .int .u8 Q]) rfl) 1 (.int .u8 (bt y i)) (cs' := #[.int .u8 (bt x i), .int .u8 (bt y i)]) rfl)
          have hR0 := Kd.R_alloc HO.out (.cells #[.int .u8 (bt x i), .int .u8 (bt y i)] 72)
          have hk0 := blk_alloc HK.out (.cells #[.int .u8 (bt x i), .int .u8 (bt y i)] 72)
          have hR1 := Kd.R_set hR0 hk0 (by decide) 0 (.int .u8 (bt x i))
          have hk1 := blk_put hk0 0 (.int .u8 (bt x i)) (cs' := #[.int .u8 (bt x i), .int .u8 Q]) rfl
          have HR2 := Aside0.mk (Kd.R_drew (Kd.R_set hR1 hk1 (by decide) 1 (.int .u8 (bt y i))))
          have HB2 := Aside0.mk (below_drew1 <| below_set (j := 1) (v := .int .u8 (bt y i)) (below_set (j := 0) (v := .int .u8 (bt x i)) (below_step HB.out (below_alloc (Below.refl _ _) (.cells #[.int .u8 (bt x i), .int .u8 (bt y i)] 72))) HGE.out) HGE.out)
          clear hR0 hk0 hR1 hk1
          go_wp2
          go_roundg g1
          case measure => omega
          case rel => exact ⟨j + 1, i + 1, u, bt x i, bt y i, rfl, rfl, ⟨by have := HI.out; omega⟩, ⟨by have := HE.out; omega⟩, ⟨by rw [HI.out]; exact ⟨rfl, rfl⟩⟩, ⟨by rw [show chgs x y p q (j + 1) = chgs x y p q j ++ (if chg x y p q j = true then [(j : Int)] else []) from rfl, HX.out, if_neg (by decide), List.append_nil]; exact HR2.out⟩, HF2, HB2⟩
        | false =>
          go_upto_region 10 with (fail)
          go_region
          have wj : IntKind.i64.wrap (i + 1) = i + 1 := IntWalk.i64_in _ ⟨by have := HI.out; omega, by have := HN.out; omega⟩
          obtain ⟨l0, hl0⟩ : ∃ l0, l0 = chgs x y p q j := ⟨_, rfl⟩
          rw [← hl0] at HO HL
          have LM : Aside0 (l0.length < 17592186044416) := ⟨by have := HL.out; have := HE.out; have := HN.out; omega⟩
          have HN1 : Aside0 (l0 ++ [i] = chgs x y p q (j + 1)) := ⟨by rw [show chgs x y p q (j + 1) = chgs x y p q j ++ (if chg x y p q j = true then [(j : Int)] else []) from rfl, HX.out, if_pos (by decide), hl0, HI.out]⟩
          clear hl0 cb0 cb1 zb0 zb1
          have hW0 := Aside0.mk (blk_drew (blk_new wr (.cells #[.int .u8 (bt x i), .int .u8 (bt y i)] 72)))
          have hkW := Aside0.mk (blk_drew (blk_alloc HK.out (.cells #[.int .u8 (bt x i), .int .u8 (bt y i)] 72)))
          have hRW := Aside0.mk (Kd.R_drew (Kd.R_alloc HO.out (.cells #[.int .u8 (bt x i), .int .u8 (bt y i)] 72)))
          have hBW := Aside0.mk (below_drew1 (below_step HB.out (below_alloc (Below.refl _ _) (.cells #[.int .u8 (bt x i), .int .u8 (bt y i)] 72))))
          clear HO HK HB
          generalize (wr.alloc (.cells #[.int .u8 (bt x i), .int .u8 (bt y i)] 72)).drew = W at hW0 hkW hRW hBW ⊢
          generalize wr.heap.size = gA at hW0 ⊢
          have ca0 : W.cell? ⟨gA, 0, none⟩ = some (.int .u8 (bt x i)) := (blk_cell hW0.out 0).trans rfl
          have ca1 : W.cell? ⟨gA, 1, none⟩ = some (.int .u8 (bt y i)) := (blk_cell hW0.out 1).trans rfl
          have cb0 : W.cell? ⟨gb, 0, none⟩ = some (.int .u8 P) := (blk_cell hkW.out 0).trans rfl
          have cb1 : W.cell? ⟨gb, 1, none⟩ = some (.int .u8 Q) := (blk_cell hkW.out 1).trans rfl
          go_wp2_with ((with_reducible refine gate_builtin (b := .append) (xs := #[.tmp 49, .tmp 51]) rfl ?_); at_builtin; refine Kd.R_append (Kd.int .i64) (w0 := w) w.heap.size rfl (.tmp 49) (.tmp 51) 34 2 (.int .i64 0) 8 rfl Tryd.underlying34 info2 rfl (by decide) (by omega) u l0 i [.int .i64 i] (fun k => w.heap.size ≤ k) (fun _ => False) rfl rfl ?aP (fun _ hk => hk.elim) ?aF ?aO ?aB ?aS ?aL ?_; (case aP => exact rfl); (case aB => exact hBW.out); (case aF => exact (fun _ hk => Nat.le_trans (below_size hBW.out) hk)); (case aO => exact hRW.out); (case aS => exact below_size hBW.out); (case aL => have := LM.out; omega); intro v3 w3 ho hb hg hat; rw [HN1.out] at ho; have hk3 := blk_grown hkW.out hg (Kd.R_ne hRW.out hkW.out (by decide)); have hA3 := blk_grown hW0.out hg (Kd.R_ne hRW.out hW0.out (by decide)); have HR3 := Aside0.mk ho; have HB3 := Aside0.mk hb; have HK3 := Aside0.mk hk3; have ca0' : w3.cell? ⟨gA, 0, none⟩ = some (.int .u8 (bt x i)) := (blk_cell hA3 0).trans rfl; have ca1' : w3.cell? ⟨gA, 1, none⟩ = some (.int .u8 (bt y i)) := (blk_cell hA3 1).trans rfl; have zb0' := blk_frozen hk3 0; have cb0' : w3.cell? ⟨gb, 0, none⟩ = some (.int .u8 P) := (blk_cell hk3 0).trans rfl; have hk9 := blk_put hk3 0 (.int .u8 (bt x i)) (cs' := #[.int .u8 (bt x i), .int .u8 Q]) rfl; have cb1s : (w3.setCell ⟨gb, 0, none⟩ (.int .u8 (bt x i))).cell? ⟨gb, 1, none⟩ = some (.int .u8 Q) := (blk_cell hk9 1).trans rfl; have zb1s := blk_frozen hk9 1; clear ho hb hg hat hk3 hA3 hk9)
          have hR1 := Kd.R_set HR3.out HK3.out (by decide) 0 (.int .u8 (bt x i))
          have hk1 := blk_put HK3.out 0 (.int .u8 (bt x i)) (cs' := #[.int .u8 (bt x i), .int .u8 Q]) rfl
          have HR2 := Aside0.mk (Kd.R_set hR1 hk1 (by decide) 1 (.int .u8 (bt y i)))
          have HF2 := Aside0.mk (blk_put hk1 1 (.int .u8 (bt y i)) (cs' := #[.int .u8 (bt x i), .int .u8 (bt y i)]) rfl)
          have HB2 := Aside0.mk (below_set (j := 1) (v := .int .u8 (bt y i)) (below_set (j := 0) (v := .int .u8 (bt x i)) HB3.out HGE.out) HGE.out)
          clear hR1 hk1
          go_roundg g1
          case measure => omega
          case rel => exact ⟨j + 1, i + 1, v3, bt x i, bt y i, rfl, rfl, ⟨by have := HI.out; omega⟩, ⟨by have := HE.out; omega⟩, ⟨by rw [HI.out]; exact ⟨rfl, rfl⟩⟩, HR2, HF2, HB2⟩
      · have hj : j = x.size := by have := HE.out; have := HI.out; omega
        subst hj
        go_wp2
        go_ret2
        exact ⟨_, rfl, Kd.R_mono HO.out (fun _ _ => trivial), HB.out⟩
set_option maxHeartbeats 4000000 in
set_option maxRecDepth 100000 in
theorem Times_no (m fi : Int) (a b c x y : ByteArray) (w : World) (h : impl_EnablesOf.f m fi a b c = some (x, y, false)) :
    Calls Tryd.prog 21 #[.agg #[.int .i64 m, .int .i64 fi], .string a, .string b, .string c] w fun e w' => ∃ v0_ : Value, e = .returned (.tuple #[v0_, .bool false]) ∧ Kd.R (Kd.int .i64) 2 w' w.heap.size (fun _ => True) v0_ ([] : List Int) ∧ Below w.heap.size w w' := by
  have H := Aside0.mk h
  clear h
  have HB := Aside0.mk (Below.refl w.heap.size w)
  go_enter Tryd.func21, Tryd.ntmps21
  go_wp2_with (first
    | ((with_reducible refine gate_dst (N := 4) rfl ?_); refine box_event ?hg (N := 4) ?hd (cs := #[.int .i64 m, .int .i64 fi]) (t := 30) ?hr ?_; (case hd => rfl); (case hg => rfl); (case hr => first | (go_simp; done) | (go_simp; rfl)); intro gs hg wn hbox hb; have BK := Aside0.mk hbox; have n0_ := Aside0.mk (below_step HB.out hb); clear HB hb hg hbox; have HB := n0_; clear n0_; have cs0 : wn.cell? ⟨gs, 0, none⟩ = some (.int .i64 m) := (blk_cell BK.out 0).trans rfl; have cs1 : wn.cell? ⟨gs, 1, none⟩ = some (.int .i64 fi) := (blk_cell BK.out 1).trans rfl)
    | (go_at_call 17; (with_reducible refine (impl_EnablesOf.calls m fi a b c x y false _ H.out).mono ?_); rintro e w2 ⟨rfl, hb⟩; have n0_ := Aside0.mk (below_step HB.out hb); clear HB BK hb; have HB := n0_; clear n0_))
  go_ret2
  exact ⟨_, rfl, Kd.R_nil _ _ _ _ _, HB.out⟩
def impl_SwitchTimes.f (a0_0 : Int) (a0_1 : Int) (a1 : ByteArray) (a2 : ByteArray) (a3 : ByteArray) : Option (List Int × Bool) :=
  (impl_EnablesOf.f a0_0 a0_1 a1 a2 a3).bind fun t => if t.2.2 = true then (if t.1.size ≤ 1000000 ∧ t.2.1.size = t.1.size then some (chgs t.1 t.2.1 (if a0_1 = 1 then 48 else 49) (if a0_1 = 1 then 49 else 48) t.1.size, true) else none) else some ([], false)
theorem impl_SwitchTimes.calls (a0_0 : Int) (a0_1 : Int) (a1 : ByteArray) (a2 : ByteArray) (a3 : ByteArray) (r1 : List Int) (r2 : Bool) (w : World) (h : impl_SwitchTimes.f a0_0 a0_1 a1 a2 a3 = some (r1, r2)) :
    Calls Tryd.prog 21 #[.agg #[.int .i64 a0_0, .int .i64 a0_1], .string a1, .string a2, .string a3] w fun e w' => ∃ v0_ : Value, e = .returned (.tuple #[v0_, .bool r2]) ∧ Kd.R (Kd.int .i64) 2 w' w.heap.size (fun _ => True) v0_ r1 ∧ Below w.heap.size w w' := by
  unfold impl_SwitchTimes.f at h
  obtain ⟨⟨x, y, z⟩, ht, h⟩ := Option.bind_eq_some_iff.mp h
  simp only at h
  cases z with
  | false =>
    rw [if_neg (by decide)] at h
    simp only [Option.some.injEq, Prod.mk.injEq] at h
    obtain ⟨rfl, rfl⟩ := h
    exact Times_no a0_0 a0_1 a1 a2 a3 x y w ht
  | true =>
    rw [if_pos rfl] at h
    by_cases hc : x.size ≤ 1000000 ∧ y.size = x.size
    · rw [if_pos hc] at h
      simp only [Option.some.injEq, Prod.mk.injEq] at h
      obtain ⟨rfl, rfl⟩ := h
      exact Times_yes a0_0 a0_1 a1 a2 a3 x y w ht hc.1 hc.2 _ _ rfl rfl
    · rw [if_neg hc] at h; cases h
end Go.Proofs.YthkpnbelbaljdaaDoor.X
end
section
-- Written by a program of this session out of the kit's print of the loaded functions: a plain function of a Go function, and its contract.
namespace Go.Proofs.YthkpnbelbaljdaaDoor.X
open Go.RowKit Go.Proofs.YthkpnbelbaljdaaDoorW.PrintWords Go.Proofs.YthkpnbelbaljdaaDoorW.PrintLast Go.Proofs.YthkpnbelbaljdaaDoorW.PrintMore
attribute [local go_sem] max2_int min2_int max_two min_two max_three min_three max_four min_four   -- for this text's walks alone
set_option linter.unusedVariables false
set_option linter.unusedSimpArgs false
/-! ### laws_FnExactSwitchTimes: function 7 -/
end Go.Proofs.YthkpnbelbaljdaaDoor.X
end
section
/- The times of a switch: the plain law of SwitchTimes. Conditions: as each lemma says. -/
namespace Go.Proofs.YthkpnbelbaljdaaDoor.X
open Go.RowKit Go.Proofs.YthkpnbelbaljdaaDoorW.PrintWords Go.Proofs.YthkpnbelbaljdaaDoorW.PrintLast Go.Proofs.YthkpnbelbaljdaaDoorW.PrintMore
set_option linter.unusedVariables false
set_option linter.unusedSimpArgs false
end Go.Proofs.YthkpnbelbaljdaaDoor.X
end
section
/- A stub: the text lies in G4. -/
end
section
/- A stub: the text lies in G6. -/
end
section
-- Written by a program of this session out of the kit's print of the loaded functions: a plain function of a Go function, and its contract.
namespace Go.Proofs.YthkpnbelbaljdaaDoor.X
open Go.RowKit Go.Proofs.YthkpnbelbaljdaaDoorW.PrintWords Go.Proofs.YthkpnbelbaljdaaDoorW.PrintLast Go.Proofs.YthkpnbelbaljdaaDoorW.PrintMore
attribute [local go_sem] max2_int min2_int max_two min_two max_three min_three max_four min_four   -- for this text's walks alone
set_option linter.unusedVariables false
set_option linter.unusedSimpArgs false
/-! ### laws_b10Long: function 25 -/
def laws_b10Long.f (l0 : List Int) (l1 : List Int) : Option (Bool) := if (l0.length : Int) > 1048576 then (some true) else (some (decide ((l1.length : Int) > 1048576)))
set_option maxHeartbeats 8000000 in
set_option maxRecDepth 100000 in
theorem laws_b10Long.calls (A0 : Option Addr) (c0 : Nat) (l0 : List Int) (A1 : Option Addr) (c1 : Nat) (l1 : List Int) (r : Bool) (w : World) (hr0 : Kd.C (Kd.int .u8) w A0 l0.length l0) (hc0 : l0.length ≤ c0) (hr1 : Kd.C (Kd.int .u8) w A1 l1.length l1) (hc1 : l1.length ≤ c1) (h : laws_b10Long.f l0 l1 = some r) :
    Calls Tryd.prog 25 #[.slice A0 l0.length c0, .slice A1 l1.length c1] w fun e w' => e = .returned (.bool r) ∧ Drawn0 w w' := by
  have HR0 := Aside0.mk hr0
  have HC0 := Aside0.mk hc0
  clear hr0 hc0
  have HR1 := Aside0.mk hr1
  have HC1 := Aside0.mk hc1
  clear hr1 hc1
  have H : (if (l0.length : Int) > 1048576 then (some true) else (some (decide ((l1.length : Int) > 1048576)))) = some r := h
  clear h
  by_cases c3 : (l0.length : Int) > 1048576
  · rw [if_pos c3] at H
    have c3b0 : decide (1048576 < (l0.length : Int)) = true := decide_eq_true c3
    have c3b1 : decide (1048576 < l0.length) = true := decide_eq_true (by omega)
    clear c3
    obtain rfl := Option.some.inj H
    go_enter Tryd.func25, Tryd.ntmps25
    go_wp2
    go_ret
    exact ⟨by first | rfl | (simp; done) | (simp [*]; done), by repeat (first | exact Drawn0.refl _ | apply Drawn0.step)⟩
  · rw [if_neg c3] at H
    have c3b0 : decide (1048576 < (l0.length : Int)) = false := decide_eq_false c3
    have c3b1 : decide (1048576 < l0.length) = false := decide_eq_false (by omega)
    clear c3
    obtain rfl := Option.some.inj H
    go_enter Tryd.func25, Tryd.ntmps25
    go_wp2
    go_ret
    exact ⟨by first | rfl | (simp; done) | (simp [*]; done), by repeat (first | exact Drawn0.refl _ | apply Drawn0.step)⟩
end Go.Proofs.YthkpnbelbaljdaaDoor.X
end
section
/- A stub: the text lies in G2. -/
end
section
/- A stub: the text lies in G0. -/
end
section
/- A stub: the text lies in G1. -/
end
section
/- A stub: the text lies in G0. -/
end
section
/- The program's PlainSwitch: what it answers. Conditions: as each lemma says. -/
namespace Go.Proofs.YthkpnbelbaljdaaDoor.X
open Go.RowKit Go.Proofs.YthkpnbelbaljdaaDoorW.PrintWords Go.Proofs.YthkpnbelbaljdaaDoorW.PrintLast Go.Proofs.YthkpnbelbaljdaaDoorW.PrintMore
set_option linter.unusedVariables false
set_option linter.unusedSimpArgs false
def plv (a b c : ByteArray) (i : Int) : Bool := ((bt c i == 48) && (bt a i == 49)) || ((bt c i == 49) && (bt b i == 49))
set_option maxHeartbeats 4000000 in
set_option maxRecDepth 100000 in
theorem PlainClo (a b c : ByteArray) (i : Int) (gc ga gb : Nat) (w : World) (h1 : w.heap[gc]? = some (.cells #[.string c] 9 (0, 0))) (h2 : w.heap[ga]? = some (.cells #[.string a] 9 (0, 0))) (h3 : w.heap[gb]? = some (.cells #[.string b] 9 (0, 0))) (hi0 : 0 ≤ i) (hia : i < (a.size : Int)) (hib : i < (b.size : Int)) (hic : i < (c.size : Int)) :
    Calls Tryd.prog 65 #[.int .i64 i, .pointer (some ⟨gc, 0, none⟩), .pointer (some ⟨ga, 0, none⟩), .pointer (some ⟨gb, 0, none⟩)] w fun e w' => e = .returned (.bool (plv a b c i)) ∧ Below w.heap.size w w' := by
  have c1 : w.cell? ⟨gc, 0, none⟩ = some (.string c) := (blk_cell h1 0).trans rfl
  have c2 : w.cell? ⟨ga, 0, none⟩ = some (.string a) := (blk_cell h2 0).trans rfl
  have c3 : w.cell? ⟨gb, 0, none⟩ = some (.string b) := (blk_cell h3 0).trans rfl
  clear h1 h2 h3
  have hba := bt_at a i
  have pa := eq_true hia
  have hbb := bt_at b i
  have pb := eq_true hib
  have hbc := bt_at c i
  have pc := eq_true hic
  have p0 := eq_true hi0
  by_cases hc : bt c i = 48
  · have mc : (bt c i == 48) = true := beq_iff_eq.mpr hc
    have md : (bt c i == 49) = false := beq_eq_false_iff_ne.mpr (by omega)
    by_cases ha : bt a i = 49
    · have ma : (bt a i == 49) = true := beq_iff_eq.mpr ha
      by_cases hb : bt b i = 49
      · have mb : (bt b i == 49) = true := beq_iff_eq.mpr hb
        have HV : Aside0 (plv a b c i = true) := ⟨by unfold plv; rw [mc, ma, md, mb]; rfl⟩
        go_enter Tryd.func65, Tryd.ntmps65
        go_wp2
        go_ret
        exact ⟨by first | (rw [HV.out]; done) | (rw [HV.out]; rfl), Below.refl _ _⟩
      · have mb : (bt b i == 49) = false := beq_eq_false_iff_ne.mpr hb
        have HV : Aside0 (plv a b c i = true) := ⟨by unfold plv; rw [mc, ma, md, mb]; rfl⟩
        go_enter Tryd.func65, Tryd.ntmps65
        go_wp2
        go_ret
        exact ⟨by first | (rw [HV.out]; done) | (rw [HV.out]; rfl), Below.refl _ _⟩
    · have ma : (bt a i == 49) = false := beq_eq_false_iff_ne.mpr ha
      by_cases hb : bt b i = 49
      · have mb : (bt b i == 49) = true := beq_iff_eq.mpr hb
        have HV : Aside0 (plv a b c i = false) := ⟨by unfold plv; rw [mc, ma, md, mb]; rfl⟩
        go_enter Tryd.func65, Tryd.ntmps65
        go_wp2
        go_ret
        exact ⟨by first | (rw [HV.out]; done) | (rw [HV.out]; rfl), Below.refl _ _⟩
      · have mb : (bt b i == 49) = false := beq_eq_false_iff_ne.mpr hb
        have HV : Aside0 (plv a b c i = false) := ⟨by unfold plv; rw [mc, ma, md, mb]; rfl⟩
        go_enter Tryd.func65, Tryd.ntmps65
        go_wp2
        go_ret
        exact ⟨by first | (rw [HV.out]; done) | (rw [HV.out]; rfl), Below.refl _ _⟩
  · have mc : (bt c i == 48) = false := beq_eq_false_iff_ne.mpr hc
    by_cases hd : bt c i = 49
    · have md : (bt c i == 49) = true := beq_iff_eq.mpr hd
      by_cases ha : bt a i = 49
      · have ma : (bt a i == 49) = true := beq_iff_eq.mpr ha
        by_cases hb : bt b i = 49
        · have mb : (bt b i == 49) = true := beq_iff_eq.mpr hb
          have HV : Aside0 (plv a b c i = true) := ⟨by unfold plv; rw [mc, ma, md, mb]; rfl⟩
          go_enter Tryd.func65, Tryd.ntmps65
          go_wp2
          go_ret
          exact ⟨by first | (rw [HV.out]; done) | (rw [HV.out]; rfl), Below.refl _ _⟩
        · have mb : (bt b i == 49) = false := beq_eq_false_iff_ne.mpr hb
          have HV : Aside0 (plv a b c i = false) := ⟨by unfold plv; rw [mc, ma, md, mb]; rfl⟩
          go_enter Tryd.func65, Tryd.ntmps65
          go_wp2
          go_ret
          exact ⟨by first | (rw [HV.out]; done) | (rw [HV.out]; rfl), Below.refl _ _⟩
      · have ma : (bt a i == 49) = false := beq_eq_false_iff_ne.mpr ha
        by_cases hb : bt b i = 49
        · have mb : (bt b i == 49) = true := beq_iff_eq.mpr hb
          have HV : Aside0 (plv a b c i = true) := ⟨by unfold plv; rw [mc, ma, md, mb]; rfl⟩
          go_enter Tryd.func65, Tryd.ntmps65
          go_wp2
          go_ret
          exact ⟨by first | (rw [HV.out]; done) | (rw [HV.out]; rfl), Below.refl _ _⟩
        · have mb : (bt b i == 49) = false := beq_eq_false_iff_ne.mpr hb
          have HV : Aside0 (plv a b c i = false) := ⟨by unfold plv; rw [mc, ma, md, mb]; rfl⟩
          go_enter Tryd.func65, Tryd.ntmps65
          go_wp2
          go_ret
          exact ⟨by first | (rw [HV.out]; done) | (rw [HV.out]; rfl), Below.refl _ _⟩
    · have md : (bt c i == 49) = false := beq_eq_false_iff_ne.mpr hd
      by_cases ha : bt a i = 49
      · have ma : (bt a i == 49) = true := beq_iff_eq.mpr ha
        by_cases hb : bt b i = 49
        · have mb : (bt b i == 49) = true := beq_iff_eq.mpr hb
          have HV : Aside0 (plv a b c i = false) := ⟨by unfold plv; rw [mc, ma, md, mb]; rfl⟩
          go_enter Tryd.func65, Tryd.ntmps65
          go_wp2
          go_ret
          exact ⟨by first | (rw [HV.out]; done) | (rw [HV.out]; rfl), Below.refl _ _⟩
        · have mb : (bt b i == 49) = false := beq_eq_false_iff_ne.mpr hb
          have HV : Aside0 (plv a b c i = false) := ⟨by unfold plv; rw [mc, ma, md, mb]; rfl⟩
          go_enter Tryd.func65, Tryd.ntmps65
          go_wp2
          go_ret
          exact ⟨by first | (rw [HV.out]; done) | (rw [HV.out]; rfl), Below.refl _ _⟩
      · have ma : (bt a i == 49) = false := beq_eq_false_iff_ne.mpr ha
        by_cases hb : bt b i = 49
        · have mb : (bt b i == 49) = true := beq_iff_eq.mpr hb
          have HV : Aside0 (plv a b c i = false) := ⟨by unfold plv; rw [mc, ma, md, mb]; rfl⟩
          go_enter Tryd.func65, Tryd.ntmps65
          go_wp2
          go_ret
          exact ⟨by first | (rw [HV.out]; done) | (rw [HV.out]; rfl), Below.refl _ _⟩
        · have mb : (bt b i == 49) = false := beq_eq_false_iff_ne.mpr hb
          have HV : Aside0 (plv a b c i = false) := ⟨by unfold plv; rw [mc, ma, md, mb]; rfl⟩
          go_enter Tryd.func65, Tryd.ntmps65
          go_wp2
          go_ret
          exact ⟨by first | (rw [HV.out]; done) | (rw [HV.out]; rfl), Below.refl _ _⟩
set_option maxHeartbeats 4000000 in
set_option maxRecDepth 100000 in
theorem Plain_no (a b c : ByteArray) (w : World) (h1 : impl_areWaves.f [a, b, c] = some false) :
    Calls Tryd.prog 29 #[.string a, .string b, .string c] w fun e w' => e = .returned (.tuple #[.string ⟨#[]⟩, .bool false]) ∧ Below w.heap.size w w' := by
  have Hh1 := Aside0.mk h1
  clear h1
  have HB := Aside0.mk (Below.refl w.heap.size w)
  obtain ⟨ls, hls⟩ : ∃ ls : List ByteArray, ls = [a, b, c] := ⟨_, rfl⟩
  have NL := Aside0.mk hls
  clear hls
  go_enter Tryd.func29, Tryd.ntmps29
  go_wp2_with (first
    | ((with_reducible refine gate_dst (N := 3) rfl ?_); refine box_event ?hg (N := 3) ?hd (cs := #[.string a]) (t := 9) ?hr ?_; (case hd => rfl); (case hg => rfl); (case hr => first | (go_simp; done) | (go_simp; rfl)); intro g3 hg wn hbox hb; have GE3 := Aside0.mk (by rw [hg]; exact below_size HB.out : w.heap.size ≤ g3); clear hg; have BK30 := Aside0.mk hbox; clear hbox; have n0_ := Aside0.mk (below_step HB.out hb); clear HB  hb; have HB := n0_; clear n0_ ; have BK3 := BK30; clear BK30; have c3_0 : wn.cell? ⟨g3, 0, none⟩ = some (.string a) := (blk_cell BK3.out 0).trans rfl)
    | ((with_reducible refine gate_dst (N := 4) rfl ?_); refine box_event ?hg (N := 4) ?hd (cs := #[.string b]) (t := 9) ?hr ?_; (case hd => rfl); (case hg => rfl); (case hr => first | (go_simp; done) | (go_simp; rfl)); intro g4 hg wn hbox hb; have GE4 := Aside0.mk (by rw [hg]; exact below_size HB.out : w.heap.size ≤ g4); have NE3_4 := Aside0.mk (show g3 ≠ g4 by have := blk_lt BK3.out; omega); clear hg; have BK40 := Aside0.mk hbox; clear hbox; have n0_ := Aside0.mk (below_step HB.out hb); have m3_ := Aside0.mk (blk_below BK3.out hb); clear HB BK3 hb; have HB := n0_; have BK3 := m3_; clear n0_ m3_; have c3_0 : wn.cell? ⟨g3, 0, none⟩ = some (.string a) := (blk_cell BK3.out 0).trans rfl; have BK4 := BK40; clear BK40; have c4_0 : wn.cell? ⟨g4, 0, none⟩ = some (.string b) := (blk_cell BK4.out 0).trans rfl)
    | ((with_reducible refine gate_dst (N := 5) rfl ?_); refine box_event ?hg (N := 5) ?hd (cs := #[.string c]) (t := 9) ?hr ?_; (case hd => rfl); (case hg => rfl); (case hr => first | (go_simp; done) | (go_simp; rfl)); intro g5 hg wn hbox hb; have GE5 := Aside0.mk (by rw [hg]; exact below_size HB.out : w.heap.size ≤ g5); have NE3_5 := Aside0.mk (show g3 ≠ g5 by have := blk_lt BK3.out; omega); have NE4_5 := Aside0.mk (show g4 ≠ g5 by have := blk_lt BK4.out; omega); clear hg; have BK50 := Aside0.mk hbox; clear hbox; have n0_ := Aside0.mk (below_step HB.out hb); have m3_ := Aside0.mk (blk_below BK3.out hb); have m4_ := Aside0.mk (blk_below BK4.out hb); clear HB BK3 BK4 hb; have HB := n0_; have BK3 := m3_; have BK4 := m4_; clear n0_ m3_ m4_; have c3_0 : wn.cell? ⟨g3, 0, none⟩ = some (.string a) := (blk_cell BK3.out 0).trans rfl; have c4_0 : wn.cell? ⟨g4, 0, none⟩ = some (.string b) := (blk_cell BK4.out 0).trans rfl; have BK5 := BK50; clear BK50; have c5_0 : wn.cell? ⟨g5, 0, none⟩ = some (.string c) := (blk_cell BK5.out 0).trans rfl)
    | ((with_reducible refine gate_dst (N := 11) rfl ?_); refine Kd.R_lit Kd.string _ 9 ?hg (N := 11) ?hd (xs := ([a, b, c] : List ByteArray)) (inner := [.string a, .string b, .string c]) (ok := fun _ => True) (okp := fun _ => True) ?hr ?hp (fun _ hk => hk) trivial (Below.refl _ _) (Nat.le_refl _) (by simp) ?_; (case hd => rfl); (case hg => rfl); (case hr => first | (go_simp; done) | (go_simp; rfl)); (case hp => exact (Reps.one rfl (Reps.one rfl (Reps.one rfl (Reps.none _ _))))); intro vl wn hol hb hg_ hnew_; clear hg_ hnew_; rw [← NL.out] at hol; obtain ⟨Al, cl, el⟩ := Kd.R_slice hol; subst el; have HL := Aside0.mk hol; clear hol; have n0_ := Aside0.mk (below_step HB.out hb); have m3_ := Aside0.mk (blk_below BK3.out hb); have m4_ := Aside0.mk (blk_below BK4.out hb); have m5_ := Aside0.mk (blk_below BK5.out hb); clear HB BK3 BK4 BK5 hb; have HB := n0_; have BK3 := m3_; have BK4 := m4_; have BK5 := m5_; clear n0_ m3_ m4_ m5_; have c3_0 : wn.cell? ⟨g3, 0, none⟩ = some (.string a) := (blk_cell BK3.out 0).trans rfl; have c4_0 : wn.cell? ⟨g4, 0, none⟩ = some (.string b) := (blk_cell BK4.out 0).trans rfl; have c5_0 : wn.cell? ⟨g5, 0, none⟩ = some (.string c) := (blk_cell BK5.out 0).trans rfl)
    | (go_at_call 47; (with_reducible refine (impl_areWaves.calls Al cl ls false _ (Kd.R_reads' HL.out).2.2 (Kd.R_reads' HL.out).2.1 (by rw [NL.out]; exact Hh1.out)).mono ?_); rintro e wn ⟨rfl, hb⟩; clear HL; have n0_ := Aside0.mk (below_step HB.out hb); have m3_ := Aside0.mk (blk_below BK3.out hb); have m4_ := Aside0.mk (blk_below BK4.out hb); have m5_ := Aside0.mk (blk_below BK5.out hb); clear HB BK3 BK4 BK5 hb; have HB := n0_; have BK3 := m3_; have BK4 := m4_; have BK5 := m5_; clear n0_ m3_ m4_ m5_; have c3_0 : wn.cell? ⟨g3, 0, none⟩ = some (.string a) := (blk_cell BK3.out 0).trans rfl; have c4_0 : wn.cell? ⟨g4, 0, none⟩ = some (.string b) := (blk_cell BK4.out 0).trans rfl; have c5_0 : wn.cell? ⟨g5, 0, none⟩ = some (.string c) := (blk_cell BK5.out 0).trans rfl))
  go_ret2
  exact ⟨rfl, HB.out⟩
set_option maxHeartbeats 4000000 in
set_option maxRecDepth 100000 in
theorem Plain_yes (a b c : ByteArray) (w : World) (h1 : impl_areWaves.f [a, b, c] = some true) :
    Calls Tryd.prog 29 #[.string a, .string b, .string c] w fun e w' => e = .returned (.tuple #[.string (strOfNums (lvs (fun i => plv a b c i) a.size)), .bool true]) ∧ Below w.heap.size w w' := by
  have Hh1 := Aside0.mk h1
  clear h1
  have HB := Aside0.mk (Below.refl w.heap.size w)
  obtain ⟨ls, hls⟩ : ∃ ls : List ByteArray, ls = [a, b, c] := ⟨_, rfl⟩
  have NL := Aside0.mk hls
  clear hls
  obtain ⟨hs, hL, hzb, hLb, hzc, hLc⟩ := areW_three Hh1.out
  have HZB := Aside0.mk hzb
  have HZC := Aside0.mk hzc
  clear hL hLb hLc hzb hzc
  go_enter Tryd.func29, Tryd.ntmps29
  go_wp2_with (first
    | ((with_reducible refine gate_dst (N := 3) rfl ?_); refine box_event ?hg (N := 3) ?hd (cs := #[.string a]) (t := 9) ?hr ?_; (case hd => rfl); (case hg => rfl); (case hr => first | (go_simp; done) | (go_simp; rfl)); intro g3 hg wn hbox hb; have GE3 := Aside0.mk (by rw [hg]; exact below_size HB.out : w.heap.size ≤ g3); clear hg; have BK30 := Aside0.mk hbox; clear hbox; have n0_ := Aside0.mk (below_step HB.out hb); clear HB  hb; have HB := n0_; clear n0_ ; have BK3 := BK30; clear BK30; have c3_0 : wn.cell? ⟨g3, 0, none⟩ = some (.string a) := (blk_cell BK3.out 0).trans rfl)
    | ((with_reducible refine gate_dst (N := 4) rfl ?_); refine box_event ?hg (N := 4) ?hd (cs := #[.string b]) (t := 9) ?hr ?_; (case hd => rfl); (case hg => rfl); (case hr => first | (go_simp; done) | (go_simp; rfl)); intro g4 hg wn hbox hb; have GE4 := Aside0.mk (by rw [hg]; exact below_size HB.out : w.heap.size ≤ g4); have NE3_4 := Aside0.mk (show g3 ≠ g4 by have := blk_lt BK3.out; omega); clear hg; have BK40 := Aside0.mk hbox; clear hbox; have n0_ := Aside0.mk (below_step HB.out hb); have m3_ := Aside0.mk (blk_below BK3.out hb); clear HB BK3 hb; have HB := n0_; have BK3 := m3_; clear n0_ m3_; have c3_0 : wn.cell? ⟨g3, 0, none⟩ = some (.string a) := (blk_cell BK3.out 0).trans rfl; have BK4 := BK40; clear BK40; have c4_0 : wn.cell? ⟨g4, 0, none⟩ = some (.string b) := (blk_cell BK4.out 0).trans rfl)
    | ((with_reducible refine gate_dst (N := 5) rfl ?_); refine box_event ?hg (N := 5) ?hd (cs := #[.string c]) (t := 9) ?hr ?_; (case hd => rfl); (case hg => rfl); (case hr => first | (go_simp; done) | (go_simp; rfl)); intro g5 hg wn hbox hb; have GE5 := Aside0.mk (by rw [hg]; exact below_size HB.out : w.heap.size ≤ g5); have NE3_5 := Aside0.mk (show g3 ≠ g5 by have := blk_lt BK3.out; omega); have NE4_5 := Aside0.mk (show g4 ≠ g5 by have := blk_lt BK4.out; omega); clear hg; have BK50 := Aside0.mk hbox; clear hbox; have n0_ := Aside0.mk (below_step HB.out hb); have m3_ := Aside0.mk (blk_below BK3.out hb); have m4_ := Aside0.mk (blk_below BK4.out hb); clear HB BK3 BK4 hb; have HB := n0_; have BK3 := m3_; have BK4 := m4_; clear n0_ m3_ m4_; have c3_0 : wn.cell? ⟨g3, 0, none⟩ = some (.string a) := (blk_cell BK3.out 0).trans rfl; have c4_0 : wn.cell? ⟨g4, 0, none⟩ = some (.string b) := (blk_cell BK4.out 0).trans rfl; have BK5 := BK50; clear BK50; have c5_0 : wn.cell? ⟨g5, 0, none⟩ = some (.string c) := (blk_cell BK5.out 0).trans rfl)
    | ((with_reducible refine gate_dst (N := 11) rfl ?_); refine Kd.R_lit Kd.string _ 9 ?hg (N := 11) ?hd (xs := ([a, b, c] : List ByteArray)) (inner := [.string a, .string b, .string c]) (ok := fun _ => True) (okp := fun _ => True) ?hr ?hp (fun _ hk => hk) trivial (Below.refl _ _) (Nat.le_refl _) (by simp) ?_; (case hd => rfl); (case hg => rfl); (case hr => first | (go_simp; done) | (go_simp; rfl)); (case hp => exact (Reps.one rfl (Reps.one rfl (Reps.one rfl (Reps.none _ _))))); intro vl wn hol hb hg_ hnew_; clear hg_ hnew_; rw [← NL.out] at hol; obtain ⟨Al, cl, el⟩ := Kd.R_slice hol; subst el; have HL := Aside0.mk hol; clear hol; have n0_ := Aside0.mk (below_step HB.out hb); have m3_ := Aside0.mk (blk_below BK3.out hb); have m4_ := Aside0.mk (blk_below BK4.out hb); have m5_ := Aside0.mk (blk_below BK5.out hb); clear HB BK3 BK4 BK5 hb; have HB := n0_; have BK3 := m3_; have BK4 := m4_; have BK5 := m5_; clear n0_ m3_ m4_ m5_; have c3_0 : wn.cell? ⟨g3, 0, none⟩ = some (.string a) := (blk_cell BK3.out 0).trans rfl; have c4_0 : wn.cell? ⟨g4, 0, none⟩ = some (.string b) := (blk_cell BK4.out 0).trans rfl; have c5_0 : wn.cell? ⟨g5, 0, none⟩ = some (.string c) := (blk_cell BK5.out 0).trans rfl)
    | (go_at_call 47; (with_reducible refine (impl_areWaves.calls Al cl ls true _ (Kd.R_reads' HL.out).2.2 (Kd.R_reads' HL.out).2.1 (by rw [NL.out]; exact Hh1.out)).mono ?_); rintro e wn ⟨rfl, hb⟩; clear HL; have n0_ := Aside0.mk (below_step HB.out hb); have m3_ := Aside0.mk (blk_below BK3.out hb); have m4_ := Aside0.mk (blk_below BK4.out hb); have m5_ := Aside0.mk (blk_below BK5.out hb); clear HB BK3 BK4 BK5 hb; have HB := n0_; have BK3 := m3_; have BK4 := m4_; have BK5 := m5_; clear n0_ m3_ m4_ m5_; have c3_0 : wn.cell? ⟨g3, 0, none⟩ = some (.string a) := (blk_cell BK3.out 0).trans rfl; have c4_0 : wn.cell? ⟨g4, 0, none⟩ = some (.string b) := (blk_cell BK4.out 0).trans rfl; have c5_0 : wn.cell? ⟨g5, 0, none⟩ = some (.string c) := (blk_cell BK5.out 0).trans rfl)
    | (go_at_call 50; (with_reducible refine (waveOf_any a.size (by omega) 65 Tryd.f65 #[.pointer (some ⟨g5, 0, none⟩), .pointer (some ⟨g3, 0, none⟩), .pointer (some ⟨g4, 0, none⟩)] (fun i => plv a b c i) (fun i W => W.heap[g3]? = some (.cells #[.string a] 9 (0, 0)) ∧ W.heap[g4]? = some (.cells #[.string b] 9 (0, 0)) ∧ W.heap[g5]? = some (.cells #[.string c] 9 (0, 0))) w.heap.size (fun _ => False) _ Tryd.func65 rfl (by kernel_rfl) ⟨BK3.out, BK4.out, BK5.out⟩ (below_size HB.out) (fun _ h => h.elim) ?st ?cl).mono ?_); (case st => exact fun i wa wb hI hs => ⟨(hs g3 (blk_lt BK3.out)).trans hI.1, (hs g4 (blk_lt BK4.out)).trans hI.2.1, (hs g5 (blk_lt BK5.out)).trans hI.2.2⟩); (case cl => exact fun i hi wr hI hsz => (PlainClo a b c i g5 g3 g4 wr hI.2.2 hI.1 hI.2.1 (by omega) (by omega) (by rw [HZB.out]; omega) (by rw [HZC.out]; omega)).mono fun e w' ⟨h1, hb⟩ => ⟨h1, ⟨blk_below hI.1 hb, blk_below hI.2.1 hb, blk_below hI.2.2 hb⟩, hb.mono (Nat.le_trans (below_size HB.out) hsz), Kept.of_below hb _⟩); rintro e wn ⟨rfl, hI, hb, hk⟩; have n0_ := Aside0.mk (HB.out.trans hb); clear HB hb hI hk; have HB := n0_; clear n0_))
  go_ret2
  exact ⟨rfl, HB.out⟩
def impl_PlainSwitch.f (a0 : ByteArray) (a1 : ByteArray) (a2 : ByteArray) : Option (ByteArray × Bool) :=
  (impl_areWaves.f [a0, a1, a2]).bind fun t => if t = true then some (strOfNums (lvs (fun i => plv a0 a1 a2 i) a0.size), true) else some (⟨#[]⟩, false)
theorem impl_PlainSwitch.calls (a0 : ByteArray) (a1 : ByteArray) (a2 : ByteArray) (r1 : ByteArray) (r2 : Bool) (w : World) (h : impl_PlainSwitch.f a0 a1 a2 = some (r1, r2)) :
    Calls Tryd.prog 29 #[.string a0, .string a1, .string a2] w fun e w' => e = .returned (.tuple #[.string r1, .bool r2]) ∧ Below w.heap.size w w' := by
  unfold impl_PlainSwitch.f at h
  obtain ⟨t, ht, h⟩ := Option.bind_eq_some_iff.mp h
  cases t with
  | false =>
    rw [if_neg (by simp)] at h
    simp only [Option.some.injEq, Prod.mk.injEq] at h
    obtain ⟨rfl, rfl⟩ := h
    exact Plain_no a0 a1 a2 w ht
  | true =>
    rw [if_pos rfl] at h
    simp only [Option.some.injEq, Prod.mk.injEq] at h
    obtain ⟨rfl, rfl⟩ := h
    exact Plain_yes a0 a1 a2 w ht
end Go.Proofs.YthkpnbelbaljdaaDoor.X
end
