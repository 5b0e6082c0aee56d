/- My own texts of this seat, merged: Xp45, Xp18, XWave, XShotClo, XFilter, XEdgeIn, XOneShot, Xp5, Xp72, Xp59, Xp34, XRep, Xp62, XFiltClo. Conditions: as each lemma says. -/
import Derived.Test.YtcpfkfaiakpfjaaDoorG0
import Derived.Test.YtcpfkfaiakpfjaaDoorG1
-- Written by a program of this session out of the kit's print of the loaded functions: a plain function of a Go function, and its contract.
namespace Go.Proofs.YtcpfkfaiakpfjaaDoor.X
open Go.RowKit Go.Proofs.YtcpfkfaiakpfjaaDoorW.PrintWords Go.Proofs.YtcpfkfaiakpfjaaDoorW.PrintLast Go.Proofs.YtcpfkfaiakpfjaaDoorW.PrintMore
attribute [local go_sem] max2_int min2_int max_two min_two max_three min_three max_four min_four   -- for this text's walks alone
set_option linter.unusedVariables false
set_option linter.unusedSimpArgs false

/-! ### spec_l07Level: function 45 -/
def spec_l07Level.f (a0 : Bool) : Option (Int) := if a0 = true then (some 49) else (some 48)
set_option maxHeartbeats 8000000 in
set_option maxRecDepth 100000 in
theorem spec_l07Level.calls (a0 : Bool) (r : Int) (w : World) (h : spec_l07Level.f a0 = some r) :
    Calls Tryd.prog 45 #[.bool a0] w fun e w' => e = .returned (.int .u8 r) ∧ Drawn0 w w' := by
  have H : (if a0 = true then (some 49) else (some 48)) = some r := h
  clear h
  by_cases c2 : a0 = true
  · subst c2
    have H1 : (some 49) = some r := by rw [if_pos rfl] at H; exact H
    clear H
    have H := H1
    clear H1
    obtain rfl := Option.some.inj H
    go_enter Tryd.func45, Tryd.ntmps45
    go_wp2
    go_ret
    exact ⟨by first | rfl | (simp; done) | (simp [*]; done), by repeat (first | exact Drawn0.refl _ | apply Drawn0.step)⟩
  · replace c2 := Bool.eq_false_iff.mpr c2
    subst c2
    have H1 : (some 48) = some r := by rw [if_neg (show ¬ (false = true) by decide)] at H; exact H
    clear H
    have H := H1
    clear H1
    obtain rfl := Option.some.inj H
    go_enter Tryd.func45, Tryd.ntmps45
    go_wp2
    go_ret
    exact ⟨by first | rfl | (simp; done) | (simp [*]; done), by repeat (first | exact Drawn0.refl _ | apply Drawn0.step)⟩

end Go.Proofs.YtcpfkfaiakpfjaaDoor.X

-- Written by a program of this session out of the kit's print of the loaded functions: a plain function of a Go function, and its contract.
namespace Go.Proofs.YtcpfkfaiakpfjaaDoor.X
open Go.RowKit Go.Proofs.YtcpfkfaiakpfjaaDoorW.PrintWords Go.Proofs.YtcpfkfaiakpfjaaDoorW.PrintLast Go.Proofs.YtcpfkfaiakpfjaaDoorW.PrintMore
attribute [local go_sem] max2_int min2_int max_two min_two max_three min_three max_four min_four   -- for this text's walks alone
set_option linter.unusedVariables false
set_option linter.unusedSimpArgs false

/-! ### spec_OneShot: function 18 -/
mutual
def spec_OneShot.j0 : Nat → ByteArray → Int → Int → Bool → Option (ByteArray × Bool)
  | 0, _, _, _, _ => none
  | k + 1, x0, x1, x2, x19 => if x19 = true then (some ((⟨#[]⟩ : ByteArray), false)) else (spec_OneShot.l0 k x0 x1 x2 (([] : List Int)) 0 0)
def spec_OneShot.l0 : Nat → ByteArray → Int → Int → List Int → Int → Int → Option (ByteArray × Bool)
  | 0, _, _, _, _, _, _ => none
  | k + 1, x0, x1, x2, x8, x9, x10 => if x10 < (x0.size : Int) then (if 0 ≤ x10 then (if (bt x0 x10) = 49 then (if x10 = 0 then (if x2 = 1 then (spec_OneShot.j2 k x0 x1 x2 x8 x9 x10 true) else (spec_OneShot.j2 k x0 x1 x2 x8 x9 x10 (x9 == 0))) else (if 0 ≤ (wrap64 (x10 - 1)) then (if (wrap64 (x10 - 1)) < (x0.size : Int) then (if (bt x0 (wrap64 (x10 - 1))) = 48 then (if x2 = 1 then (spec_OneShot.j2 k x0 x1 x2 x8 x9 x10 true) else (spec_OneShot.j2 k x0 x1 x2 x8 x9 x10 (x9 == 0))) else (spec_OneShot.j2 k x0 x1 x2 x8 x9 x10 false)) else (none)) else (none))) else (spec_OneShot.j2 k x0 x1 x2 x8 x9 x10 false)) else (none)) else (some (strOfNums x8, true))
def spec_OneShot.j2 : Nat → ByteArray → Int → Int → List Int → Int → Int → Bool → Option (ByteArray × Bool)
  | 0, _, _, _, _, _, _, _ => none
  | k + 1, x0, x1, x2, x8, x9, x10, x49 => if x49 = true then ((spec_l07Level.f (decide (x1 > 0))).bind fun t303 => (if x8.length < 140737488355328 then ((spec_l00Max.f 0 (wrap64 (x1 - 1))).bind fun t307 => (spec_OneShot.l0 k x0 x1 x2 (x8 ++ [t303]) t307 (wrap64 (x10 + 1)))) else (none))) else ((spec_l07Level.f (decide (x9 > 0))).bind fun t308 => (if x8.length < 140737488355328 then ((spec_l00Max.f 0 (wrap64 (x9 - 1))).bind fun t312 => (spec_OneShot.l0 k x0 x1 x2 (x8 ++ [t308]) t312 (wrap64 (x10 + 1)))) else (none)))
end
def spec_OneShot.f (k : Nat) (a0 : ByteArray) (a1 : Int) (a2 : Int) : Option (ByteArray × Bool) := (spec_l09Filter.f k a0 a1).bind fun t298 => (if t298 = true then ((spec_l00In.f a2 0 1).bind fun t299 => (spec_OneShot.j0 k a0 a1 a2 (!t299))) else (spec_OneShot.j0 k a0 a1 a2 true))
theorem spec_OneShot.mono_l : ∀ k, (∀ y0 y1 y2 y3, LeO (spec_OneShot.j0 k y0 y1 y2 y3) (spec_OneShot.j0 (k + 1) y0 y1 y2 y3)) ∧ (∀ y0 y1 y2 y3 y4 y5, LeO (spec_OneShot.l0 k y0 y1 y2 y3 y4 y5) (spec_OneShot.l0 (k + 1) y0 y1 y2 y3 y4 y5)) ∧ (∀ y0 y1 y2 y3 y4 y5 y6, LeO (spec_OneShot.j2 k y0 y1 y2 y3 y4 y5 y6) (spec_OneShot.j2 (k + 1) y0 y1 y2 y3 y4 y5 y6))
  | 0 => ⟨fun _ _ _ _ r h => by simp [spec_OneShot.j0] at h, fun _ _ _ _ _ _ r h => by simp [spec_OneShot.l0] at h, fun _ _ _ _ _ _ _ r h => by simp [spec_OneShot.j2] at h⟩
  | k + 1 => by
    obtain ⟨ih0, ih1, ih2⟩ := spec_OneShot.mono_l k
    refine ⟨?_, ?_, ?_⟩
    · intro y0 y1 y2 y3
      unfold spec_OneShot.j0
      repeat' first
      | (with_reducible exact ih0 _ _ _ _)
      | (with_reducible exact ih1 _ _ _ _ _ _)
      | (with_reducible exact ih2 _ _ _ _ _ _ _)
      | (with_reducible exact spec_l09Filter.mono _ _ _)
      | (with_reducible exact LeO.refl _)
      | (with_reducible exact LeO.none _)
      | (with_reducible refine LeO.ite ?_ ?_)
      | (with_reducible refine LeO.bind ?_ (fun _ => ?_))
      | exact ih0 _ _ _ _
      | exact ih1 _ _ _ _ _ _
      | exact ih2 _ _ _ _ _ _ _
      | exact spec_l09Filter.mono _ _ _
      | exact LeO.none _
      | refine LeO.ite ?_ ?_
      | refine LeO.bind ?_ (fun _ => ?_)
    · intro y0 y1 y2 y3 y4 y5
      unfold spec_OneShot.l0
      repeat' first
      | (with_reducible exact ih0 _ _ _ _)
      | (with_reducible exact ih1 _ _ _ _ _ _)
      | (with_reducible exact ih2 _ _ _ _ _ _ _)
      | (with_reducible exact spec_l09Filter.mono _ _ _)
      | (with_reducible exact LeO.refl _)
      | (with_reducible exact LeO.none _)
      | (with_reducible refine LeO.ite ?_ ?_)
      | (with_reducible refine LeO.bind ?_ (fun _ => ?_))
      | exact ih0 _ _ _ _
      | exact ih1 _ _ _ _ _ _
      | exact ih2 _ _ _ _ _ _ _
      | exact spec_l09Filter.mono _ _ _
      | exact LeO.none _
      | refine LeO.ite ?_ ?_
      | refine LeO.bind ?_ (fun _ => ?_)
    · intro y0 y1 y2 y3 y4 y5 y6
      unfold spec_OneShot.j2
      repeat' first
      | (with_reducible exact ih0 _ _ _ _)
      | (with_reducible exact ih1 _ _ _ _ _ _)
      | (with_reducible exact ih2 _ _ _ _ _ _ _)
      | (with_reducible exact spec_l09Filter.mono _ _ _)
      | (with_reducible exact LeO.refl _)
      | (with_reducible exact LeO.none _)
      | (with_reducible refine LeO.ite ?_ ?_)
      | (with_reducible refine LeO.bind ?_ (fun _ => ?_))
      | exact ih0 _ _ _ _
      | exact ih1 _ _ _ _ _ _
      | exact ih2 _ _ _ _ _ _ _
      | exact spec_l09Filter.mono _ _ _
      | exact LeO.none _
      | refine LeO.ite ?_ ?_
      | refine LeO.bind ?_ (fun _ => ?_)
theorem spec_OneShot.mono : ∀ a0 a1 a2 k, LeO (spec_OneShot.f k a0 a1 a2) (spec_OneShot.f (k + 1) a0 a1 a2) := by
  intro a0 a1 a2 k
  obtain ⟨ih0, ih1, ih2⟩ := spec_OneShot.mono_l k
  unfold spec_OneShot.f
  repeat' first
      | (with_reducible exact ih0 _ _ _ _)
      | (with_reducible exact ih1 _ _ _ _ _ _)
      | (with_reducible exact ih2 _ _ _ _ _ _ _)
      | (with_reducible exact spec_l09Filter.mono _ _ _)
      | (with_reducible exact LeO.refl _)
      | (with_reducible exact LeO.none _)
      | (with_reducible refine LeO.ite ?_ ?_)
      | (with_reducible refine LeO.bind ?_ (fun _ => ?_))
      | exact ih0 _ _ _ _
      | exact ih1 _ _ _ _ _ _
      | exact ih2 _ _ _ _ _ _ _
      | exact spec_l09Filter.mono _ _ _
      | exact LeO.none _
      | refine LeO.ite ?_ ?_
      | refine LeO.bind ?_ (fun _ => ?_)
set_option maxHeartbeats 8000000 in
set_option maxRecDepth 100000 in
theorem spec_OneShot.calls (k : Nat) (a0 : ByteArray) (a1 : Int) (a2 : Int) (r1 : ByteArray) (r2 : Bool) (w : World) (h : spec_OneShot.f k a0 a1 a2 = some (r1, r2)) :
    Calls Tryd.prog 18 #[.string a0, .int .i64 a1, .int .i64 a2] w fun e w' => e = .returned (.tuple #[.string r1, .bool r2]) ∧ Below w.heap.size w w' := by
  have HB := Aside0.mk (Below.refl w.heap.size w)
  have H : ((spec_l09Filter.f k a0 a1).bind fun t298 => (if t298 = true then ((spec_l00In.f a2 0 1).bind fun t299 => (spec_OneShot.j0 k a0 a1 a2 (!t299))) else (spec_OneShot.j0 k a0 a1 a2 true))) = some (r1, r2) := h
  clear h
  have HC4 := Aside0.mk H
  clear H
  go_enter Tryd.func18, Tryd.ntmps18
  go_upto_region 1 with (fail)
  go_cut [19] (fun v19 wc => ∃ (kq : Nat) (x19_3 : Bool), v19 = .bool x19_3 ∧ Aside0 (spec_OneShot.j0 kq a0 a1 a2 x19_3 = some (r1, r2)) ∧ Aside0 (kq ≤ k) ∧ Aside0 (Below w.heap.size w wc))
  case first =>
    have H := HC4.out
    clear HC4
    replace H := Option.bind_eq_some_iff.mp H
    obtain ⟨t298, A50, H⟩ := H
    replace H : (if t298 = true then ((spec_l00In.f a2 0 1).bind fun t299 => (spec_OneShot.j0 k a0 a1 a2 (!t299))) else (spec_OneShot.j0 k a0 a1 a2 true)) = some (r1, r2) := H
    have A5 := Aside0.mk A50
    clear A50
    by_cases c6 : t298 = true
    · subst c6
      have H1 : ((spec_l00In.f a2 0 1).bind fun t299 => (spec_OneShot.j0 k a0 a1 a2 (!t299))) = some (r1, r2) := by rw [if_pos rfl] at H; exact H
      clear H
      have H := H1
      clear H1
      replace H := Option.bind_eq_some_iff.mp H
      obtain ⟨t299, A70, H⟩ := H
      replace H : (spec_OneShot.j0 k a0 a1 a2 (!t299)) = some (r1, r2) := H
      have A7 := Aside0.mk A70
      clear A70
      have H' := Aside0.mk H
      clear H
      go_wp2_with (first | ((with_reducible refine gate_callee (f := 40) rfl ?_); refine goesL_ (some 13) rfl rfl Tryd.func40 (by kernel_rfl) rfl #[.string a0, .int .i64 a1] rfl (by (try simp only [List.map_toArray, List.map_cons, List.map_nil]); first | done | rfl | (simp only [List.length_drop, List.length_take]; rfl)) ?_; (with_reducible refine (spec_l09Filter.calls k a0 a1 true _ A5.out).mono ?_); rintro e w' ⟨rfl, ⟨nd, rfl⟩⟩; refine ⟨_, rfl, ?_⟩) | (go_at_call 44; (with_reducible refine (spec_l00In.calls a2 0 1 t299 _ A7.out).mono ?_); rintro e w' ⟨rfl, ⟨nd, rfl⟩⟩))
      go_meet
      case rel => exact ⟨_, (!t299), (by first | rfl | (simp; done) | (simp [*]; done)), H', ⟨by first | omega | exact Nat.le_refl _⟩, ⟨by repeat (first | (with_reducible first | exact HB.out | apply below_alloc | apply pw_below_drewN | apply below_drew1) | exact HB.out)⟩⟩
    · replace c6 := Bool.eq_false_iff.mpr c6
      subst c6
      have H1 : (spec_OneShot.j0 k a0 a1 a2 true) = some (r1, r2) := by rw [if_neg (show ¬ (false = true) by decide)] at H; exact H
      clear H
      have H := H1
      clear H1
      have H' := Aside0.mk H
      clear H
      go_wp2_with (first | ((with_reducible refine gate_callee (f := 40) rfl ?_); refine goesL_ (some 13) rfl rfl Tryd.func40 (by kernel_rfl) rfl #[.string a0, .int .i64 a1] rfl (by (try simp only [List.map_toArray, List.map_cons, List.map_nil]); first | done | rfl | (simp only [List.length_drop, List.length_take]; rfl)) ?_; (with_reducible refine (spec_l09Filter.calls k a0 a1 false _ A5.out).mono ?_); rintro e w' ⟨rfl, ⟨nd, rfl⟩⟩; refine ⟨_, rfl, ?_⟩))
      go_meet
      case rel => exact ⟨_, (true), (by first | rfl | (simp; done) | (simp [*]; done)), H', ⟨by first | omega | exact Nat.le_refl _⟩, ⟨by repeat (first | (with_reducible first | exact HB.out | apply below_alloc | apply pw_below_drewN | apply below_drew1) | exact HB.out)⟩⟩
  case rest =>
    clear HC4
    try clear c1
    try clear p2
    try clear c4
    try clear c6
    obtain ⟨kq, x19_3, rfl, HA, HJ3, HB⟩ := hcut
    cases kq with
    | zero => exact absurd HA.out (by simp [spec_OneShot.j0])
    | succ kj3 =>
      have H := HA.out
      clear HA
      simp only [spec_OneShot.j0] at H
      by_cases c8 : x19_3 = true
      · subst c8
        have H1 : (some ((⟨#[]⟩ : ByteArray), false)) = some (r1, r2) := by rw [if_pos rfl] at H; exact H
        clear H
        have H := H1
        clear H1
        simp only [Option.some.injEq, Prod.mk.injEq] at H
        obtain ⟨rfl, rfl⟩ := H
        go_wp2
        go_ret2
        exact ⟨by first | rfl | (simp [errW_none, errW_some] <;> rfl) | (simp [*, errW_none, errW_some] <;> rfl), by repeat (first | (with_reducible first | exact HB.out | apply below_alloc | apply pw_below_drewN | apply below_drew1) | exact HB.out)⟩
      · replace c8 := Bool.eq_false_iff.mpr c8
        subst c8
        have H1 : (spec_OneShot.l0 kj3 a0 a1 a2 (([] : List Int)) 0 0) = some (r1, r2) := by rw [if_neg (show ¬ (false = true) by decide)] at H; exact H
        clear H
        have H := H1
        clear H1
        obtain ⟨y300, hy300⟩ : ∃ y_ : List Int, y_ = (([] : List Int)) := ⟨_, rfl⟩
        replace H : (spec_OneShot.l0 kj3 a0 a1 a2 y300 0 0) = some (r1, r2) := by first | (rw [hy300]; with_reducible exact H) | (have H2_ := (Option.bind_some _ _).symm.trans H; rw [hy300]; with_reducible exact H2_) | (have H2_ := (Option.bind_some _ _).symm.trans H; with_reducible exact H2_) | with_reducible exact H | (rw [hy300]; exact H) | exact H
        have Ny300 := Aside0.mk hy300
        clear hy300
        have H' := Aside0.mk H
        clear H
        go_wp2_with (first | ((with_reducible refine gate_dst (N := 20) rfl ?_); refine Kd.R_lit (Kd.int .u8) _ 5 ?hg (N := 20) ?hd (xs := ([] : List Int)) (inner := []) (ok := fun _ => True) (okp := fun _ => True) ?hr ?hp (fun _ hk => hk) trivial (Below.refl _ _) (Nat.le_refl _) (by simp) ?_; (case hd => rfl); (case hg => rfl); (case hr => first | (go_simp; done) | (go_simp; rfl)); (case hp => exact (Reps.none _ _)); intro v301 w9 ho10 hb hg_ hnew_; clear hg_ hnew_; (first | rw [← Ny300.out] at ho10 | (simp only [Int.reduceToNat] at ho10; rw [← Ny300.out] at ho10)); have n0_ := Aside0.mk (Kd.R_lower ho10 (below_size (by repeat (first | (with_reducible first | exact HB.out | apply below_alloc | apply pw_below_drewN | apply below_drew1) | exact HB.out)))); have n1_ := Aside0.mk (below_step (by repeat (first | (with_reducible first | exact HB.out | apply below_alloc | apply pw_below_drewN | apply below_drew1) | exact HB.out)) hb); clear HB; have HO302 := n0_; have HB := n1_; clear n0_ n1_; clear hb ho10))
        go_loopg [8, 9, 10] kj3 (fun kq v8 v9 v10 w' => ∃ (x8_2 : List Int) (x9_2 : Int) (x10_2 : Int), v9 = .int .i64 x9_2 ∧ v10 = .int .i64 x10_2 ∧ Aside0 (spec_OneShot.l0 kq a0 a1 a2 x8_2 x9_2 x10_2 = some (r1, r2)) ∧ Aside0 (kq ≤ kj3) ∧ Aside0 (Kd.R (Kd.int .u8) 5 w' w.heap.size (fun _ => True) v8 x8_2) ∧ Aside0 (Below w.heap.size w w'))
        case atStart => exact ⟨(y300), (0), (0), (by first | rfl | (simp; done) | (simp [*]; done)), (by first | rfl | (simp; done) | (simp [*]; done)), H', ⟨Nat.le_refl _⟩, ⟨by (with_reducible repeat (first | apply Kd.R_alloc | apply Kd.R_drewN | apply Kd.R_drew)); exact HO302.out⟩, ⟨by repeat (first | (with_reducible first | exact HB.out | apply below_alloc | apply pw_below_drewN | apply below_drew1) | exact HB.out)⟩⟩
        case round =>
          clear H'
          try clear c1
          try clear p2
          try clear c4
          try clear c6
          try clear c8
          try clear p2
          obtain ⟨x8_2, x9_2, x10_2, rfl, rfl, HA, HK2, HO_8, HB⟩ := hrel
          cases gk with
          | zero => exact absurd HA.out (by simp [spec_OneShot.l0])
          | succ k2 =>
            have H := HA.out
            clear HA
            simp only [spec_OneShot.l0] at H
            by_cases c11 : x10_2 < (a0.size : Int)
            · rw [if_pos c11] at H
              have c11b0 : decide (x10_2 < (a0.size : Int)) = true := decide_eq_true c11
              clear c11
              have HC12 := Aside0.mk H
              clear H
              go_upto_region 8 with (fail)
              go_cut [49] (fun v49 wc => ∃ (kq : Nat) (x49_11 : Bool), v49 = .bool x49_11 ∧ Aside0 (spec_OneShot.j2 kq a0 a1 a2 x8_2 x9_2 x10_2 x49_11 = some (r1, r2)) ∧ Aside0 (kq ≤ k2) ∧ Aside0 (Kd.R (Kd.int .u8) 5 wc w.heap.size (fun _ => True) u8 x8_2) ∧ Aside0 (Below w.heap.size w wc))
              case first =>
                have H := HC12.out
                clear HC12
                by_cases c13 : 0 ≤ x10_2
                · rw [if_pos c13] at H
                  have c13b0 : decide (0 ≤ x10_2) = true := decide_eq_true c13
                  clear c13
                  (first | rw [c13b0] | (simp only [i64_w, i32_w]; rw [c13b0]) | skip)
                  by_cases c15 : (bt a0 x10_2) = 49
                  · rw [if_pos c15] at H
                    have c15b0 : ((bt a0 x10_2) == 49) = true := beq_iff_eq.mpr c15
                    have c15b1 : ((bt a0 x10_2) != 49) = false := bne_eq_false_iff_eq.mpr c15
                    clear c15
                    by_cases c16 : x10_2 = 0
                    · rw [if_pos c16] at H
                      have c16b0 : (x10_2 == 0) = true := beq_iff_eq.mpr c16
                      have c16b1 : (x10_2 != 0) = false := bne_eq_false_iff_eq.mpr c16
                      clear c16
                      by_cases c17 : a2 = 1
                      · rw [if_pos c17] at H
                        have c17b0 : (a2 == 1) = true := beq_iff_eq.mpr c17
                        have c17b1 : (a2 != 1) = false := bne_eq_false_iff_eq.mpr c17
                        clear c17
                        have H' := Aside0.mk H
                        clear H
                        have p14 : 0 ≤ (x10_2 : Int) := of_decide_eq_true (by first | (with_reducible assumption) | assumption)
                        have q14 : x10_2 < (a0.size : Int) := of_decide_eq_true (by first | (with_reducible assumption) | assumption)
                        have hx14 := bt_at a0 x10_2
                        replace p14 := eq_true p14
                        replace q14 := eq_true q14
                        go_wp2
                        go_meet
                        case rel => exact ⟨_, (true), (by first | rfl | (simp; done) | (simp [*]; done)), H', ⟨by have := HJ3.out; have := HK2.out; first | omega | exact Nat.le_refl _⟩, ⟨by (with_reducible repeat (first | apply Kd.R_alloc | apply Kd.R_drewN | apply Kd.R_drew)); exact HO_8.out⟩, ⟨by repeat (first | (with_reducible first | exact HB.out | apply below_alloc | apply pw_below_drewN | apply below_drew1) | exact HB.out)⟩⟩
                      · rw [if_neg c17] at H
                        have c17b0 : (a2 == 1) = false := beq_eq_false_iff_ne.mpr c17
                        have c17b1 : (a2 != 1) = true := bne_iff_ne.mpr c17
                        have H' := Aside0.mk H
                        clear H
                        have p14 : 0 ≤ (x10_2 : Int) := of_decide_eq_true (by first | (with_reducible assumption) | assumption)
                        have q14 : x10_2 < (a0.size : Int) := of_decide_eq_true (by first | (with_reducible assumption) | assumption)
                        have hx14 := bt_at a0 x10_2
                        replace p14 := eq_true p14
                        replace q14 := eq_true q14
                        go_wp2
                        go_meet
                        case rel => exact ⟨_, ((x9_2 == 0)), (by first | rfl | (simp; done) | (simp [*]; done)), H', ⟨by have := HJ3.out; have := HK2.out; first | omega | exact Nat.le_refl _⟩, ⟨by (with_reducible repeat (first | apply Kd.R_alloc | apply Kd.R_drewN | apply Kd.R_drew)); exact HO_8.out⟩, ⟨by repeat (first | (with_reducible first | exact HB.out | apply below_alloc | apply pw_below_drewN | apply below_drew1) | exact HB.out)⟩⟩
                    · rw [if_neg c16] at H
                      have c16b0 : (x10_2 == 0) = false := beq_eq_false_iff_ne.mpr c16
                      have c16b1 : (x10_2 != 0) = true := bne_iff_ne.mpr c16
                      obtain ⟨ji18, hji18⟩ : ∃ j_ : Int, (wrap64 (x10_2 - 1)) = j_ := ⟨_, rfl⟩
                      replace H : (if 0 ≤ (ji18) then (if (ji18) < (a0.size : Int) then (if (bt a0 (ji18)) = 48 then (if a2 = 1 then (spec_OneShot.j2 k2 a0 a1 a2 x8_2 x9_2 x10_2 true) else (spec_OneShot.j2 k2 a0 a1 a2 x8_2 x9_2 x10_2 (x9_2 == 0))) else (spec_OneShot.j2 k2 a0 a1 a2 x8_2 x9_2 x10_2 false)) else (none)) else (none)) = some (r1, r2) := by first | (rw [hji18] at H; exact H) | (simp only [hji18] at H ⊢; exact H)
                      have hji18w : (IntKind.i64.wrap (x10_2 - 1)) = ji18 := (i64_w _).trans hji18
                      by_cases c19 : 0 ≤ (ji18)
                      · rw [if_pos c19] at H
                        have c19b0 : decide (0 ≤ (ji18)) = true := decide_eq_true c19
                        clear c19
                        by_cases c20 : (ji18) < (a0.size : Int)
                        · rw [if_pos c20] at H
                          have c20b0 : decide ((ji18) < (a0.size : Int)) = true := decide_eq_true c20
                          clear c20
                          by_cases c22 : (bt a0 (ji18)) = 48
                          · rw [if_pos c22] at H
                            have c22b0 : ((bt a0 (ji18)) == 48) = true := beq_iff_eq.mpr c22
                            have c22b1 : ((bt a0 (ji18)) != 48) = false := bne_eq_false_iff_eq.mpr c22
                            clear c22
                            by_cases c23 : a2 = 1
                            · rw [if_pos c23] at H
                              have c23b0 : (a2 == 1) = true := beq_iff_eq.mpr c23
                              have c23b1 : (a2 != 1) = false := bne_eq_false_iff_eq.mpr c23
                              clear c23
                              have H' := Aside0.mk H
                              clear H
                              have p14 : 0 ≤ (x10_2 : Int) := of_decide_eq_true (by first | (with_reducible assumption) | assumption)
                              have q14 : x10_2 < (a0.size : Int) := of_decide_eq_true (by first | (with_reducible assumption) | assumption)
                              have hx14 := bt_at a0 x10_2
                              replace p14 := eq_true p14
                              replace q14 := eq_true q14
                              have p21 : 0 ≤ ((ji18) : Int) := of_decide_eq_true (by first | (with_reducible assumption) | assumption)
                              have q21 : (ji18) < (a0.size : Int) := of_decide_eq_true (by first | (with_reducible assumption) | assumption)
                              have hx21 := bt_at a0 (ji18)
                              replace p21 := eq_true p21
                              replace q21 := eq_true q21
                              go_wp2
                              go_meet
                              case rel => exact ⟨_, (true), (by first | rfl | (simp; done) | (simp [*]; done)), H', ⟨by have := HJ3.out; have := HK2.out; first | omega | exact Nat.le_refl _⟩, ⟨by (with_reducible repeat (first | apply Kd.R_alloc | apply Kd.R_drewN | apply Kd.R_drew)); exact HO_8.out⟩, ⟨by repeat (first | (with_reducible first | exact HB.out | apply below_alloc | apply pw_below_drewN | apply below_drew1) | exact HB.out)⟩⟩
                            · rw [if_neg c23] at H
                              have c23b0 : (a2 == 1) = false := beq_eq_false_iff_ne.mpr c23
                              have c23b1 : (a2 != 1) = true := bne_iff_ne.mpr c23
                              have H' := Aside0.mk H
                              clear H
                              have p14 : 0 ≤ (x10_2 : Int) := of_decide_eq_true (by first | (with_reducible assumption) | assumption)
                              have q14 : x10_2 < (a0.size : Int) := of_decide_eq_true (by first | (with_reducible assumption) | assumption)
                              have hx14 := bt_at a0 x10_2
                              replace p14 := eq_true p14
                              replace q14 := eq_true q14
                              have p21 : 0 ≤ ((ji18) : Int) := of_decide_eq_true (by first | (with_reducible assumption) | assumption)
                              have q21 : (ji18) < (a0.size : Int) := of_decide_eq_true (by first | (with_reducible assumption) | assumption)
                              have hx21 := bt_at a0 (ji18)
                              replace p21 := eq_true p21
                              replace q21 := eq_true q21
                              go_wp2
                              go_meet
                              case rel => exact ⟨_, ((x9_2 == 0)), (by first | rfl | (simp; done) | (simp [*]; done)), H', ⟨by have := HJ3.out; have := HK2.out; first | omega | exact Nat.le_refl _⟩, ⟨by (with_reducible repeat (first | apply Kd.R_alloc | apply Kd.R_drewN | apply Kd.R_drew)); exact HO_8.out⟩, ⟨by repeat (first | (with_reducible first | exact HB.out | apply below_alloc | apply pw_below_drewN | apply below_drew1) | exact HB.out)⟩⟩
                          · rw [if_neg c22] at H
                            have c22b0 : ((bt a0 (ji18)) == 48) = false := beq_eq_false_iff_ne.mpr c22
                            have c22b1 : ((bt a0 (ji18)) != 48) = true := bne_iff_ne.mpr c22
                            have H' := Aside0.mk H
                            clear H
                            have p14 : 0 ≤ (x10_2 : Int) := of_decide_eq_true (by first | (with_reducible assumption) | assumption)
                            have q14 : x10_2 < (a0.size : Int) := of_decide_eq_true (by first | (with_reducible assumption) | assumption)
                            have hx14 := bt_at a0 x10_2
                            replace p14 := eq_true p14
                            replace q14 := eq_true q14
                            have p21 : 0 ≤ ((ji18) : Int) := of_decide_eq_true (by first | (with_reducible assumption) | assumption)
                            have q21 : (ji18) < (a0.size : Int) := of_decide_eq_true (by first | (with_reducible assumption) | assumption)
                            have hx21 := bt_at a0 (ji18)
                            replace p21 := eq_true p21
                            replace q21 := eq_true q21
                            go_wp2
                            go_meet
                            case rel => exact ⟨_, (false), (by first | rfl | (simp; done) | (simp [*]; done)), H', ⟨by have := HJ3.out; have := HK2.out; first | omega | exact Nat.le_refl _⟩, ⟨by (with_reducible repeat (first | apply Kd.R_alloc | apply Kd.R_drewN | apply Kd.R_drew)); exact HO_8.out⟩, ⟨by repeat (first | (with_reducible first | exact HB.out | apply below_alloc | apply pw_below_drewN | apply below_drew1) | exact HB.out)⟩⟩
                        · rw [if_neg c20] at H
                          exact absurd H (by simp)
                      · rw [if_neg c19] at H
                        exact absurd H (by simp)
                  · rw [if_neg c15] at H
                    have c15b0 : ((bt a0 x10_2) == 49) = false := beq_eq_false_iff_ne.mpr c15
                    have c15b1 : ((bt a0 x10_2) != 49) = true := bne_iff_ne.mpr c15
                    have H' := Aside0.mk H
                    clear H
                    have p14 : 0 ≤ (x10_2 : Int) := of_decide_eq_true (by first | (with_reducible assumption) | assumption)
                    have q14 : x10_2 < (a0.size : Int) := of_decide_eq_true (by first | (with_reducible assumption) | assumption)
                    have hx14 := bt_at a0 x10_2
                    replace p14 := eq_true p14
                    replace q14 := eq_true q14
                    go_wp2
                    go_meet
                    case rel => exact ⟨_, (false), (by first | rfl | (simp; done) | (simp [*]; done)), H', ⟨by have := HJ3.out; have := HK2.out; first | omega | exact Nat.le_refl _⟩, ⟨by (with_reducible repeat (first | apply Kd.R_alloc | apply Kd.R_drewN | apply Kd.R_drew)); exact HO_8.out⟩, ⟨by repeat (first | (with_reducible first | exact HB.out | apply below_alloc | apply pw_below_drewN | apply below_drew1) | exact HB.out)⟩⟩
                · rw [if_neg c13] at H
                  exact absurd H (by simp)
              case rest =>
                clear HC12
                try clear c1
                try clear p1
                try clear q1
                try clear hx1
                try clear c2
                try clear p2
                try clear q2
                try clear hx2
                try clear c4
                try clear c6
                try clear p6
                try clear c8
                try clear c11
                try clear c11b0
                try clear c13
                try clear c13b0
                try clear p14
                try clear q14
                try clear hx14
                try clear c15
                try clear c15b0
                try clear c15b1
                try clear c16
                try clear c16b0
                try clear c16b1
                try clear c17
                try clear c17b0
                try clear c17b1
                try clear c18
                try clear c19
                try clear c19b0
                try clear c20
                try clear c20b0
                try clear p21
                try clear q21
                try clear hx21
                try clear c22
                try clear c22b0
                try clear c22b1
                try clear c23
                try clear c23b0
                try clear c23b1
                try clear p14
                try clear p2
                try clear p21
                try clear q14
                try clear q21
                obtain ⟨kq, x49_11, rfl, HA, HJ11, HO_8, HB⟩ := hcut
                cases kq with
                | zero => exact absurd HA.out (by simp [spec_OneShot.j2])
                | succ kj11 =>
                  have H := HA.out
                  clear HA
                  simp only [spec_OneShot.j2] at H
                  by_cases c24 : x49_11 = true
                  · subst c24
                    have H1 : ((spec_l07Level.f (decide (a1 > 0))).bind fun t303 => (if x8_2.length < 140737488355328 then ((spec_l00Max.f 0 (wrap64 (a1 - 1))).bind fun t307 => (spec_OneShot.l0 kj11 a0 a1 a2 (x8_2 ++ [t303]) t307 (wrap64 (x10_2 + 1)))) else (none))) = some (r1, r2) := by rw [if_pos rfl] at H; exact H
                    clear H
                    have H := H1
                    clear H1
                    replace H := Option.bind_eq_some_iff.mp H
                    obtain ⟨t303, A250, H⟩ := H
                    replace H : (if x8_2.length < 140737488355328 then ((spec_l00Max.f 0 (wrap64 (a1 - 1))).bind fun t307 => (spec_OneShot.l0 kj11 a0 a1 a2 (x8_2 ++ [t303]) t307 (wrap64 (x10_2 + 1)))) else (none)) = some (r1, r2) := H
                    have A25 := Aside0.mk A250
                    clear A250
                    by_cases c26 : x8_2.length < 140737488355328
                    · rw [if_pos c26] at H
                      have LMc26 := Aside0.mk c26
                      clear c26
                      obtain ⟨y304, hy304⟩ : ∃ y_ : List Int, y_ = (x8_2 ++ [t303]) := ⟨_, rfl⟩
                      replace H : ((spec_l00Max.f 0 (wrap64 (a1 - 1))).bind fun t307 => (spec_OneShot.l0 kj11 a0 a1 a2 y304 t307 (wrap64 (x10_2 + 1)))) = some (r1, r2) := by first | (rw [hy304]; with_reducible exact H) | (have H2_ := (Option.bind_some _ _).symm.trans H; rw [hy304]; with_reducible exact H2_) | (have H2_ := (Option.bind_some _ _).symm.trans H; with_reducible exact H2_) | with_reducible exact H | (rw [hy304]; exact H) | exact H
                      have Ny304 := Aside0.mk hy304
                      clear hy304
                      replace H := Option.bind_eq_some_iff.mp H
                      obtain ⟨t307, A270, H⟩ := H
                      replace H : (spec_OneShot.l0 kj11 a0 a1 a2 y304 t307 (wrap64 (x10_2 + 1))) = some (r1, r2) := H
                      have A27 := Aside0.mk A270
                      clear A270
                      have H' := Aside0.mk H
                      clear H
                      go_wp2_with (first | ((with_reducible refine gate_callee (f := 45) rfl ?_); refine goesL_ (some 54) rfl rfl Tryd.func45 (by kernel_rfl) rfl #[.bool (decide (a1 > 0))] rfl (by (try simp only [List.map_toArray, List.map_cons, List.map_nil]); first | done | rfl | (simp only [List.length_drop, List.length_take]; rfl)) ?_; (with_reducible refine (spec_l07Level.calls (decide (a1 > 0)) t303 _ A25.out).mono ?_); rintro e w' ⟨rfl, ⟨nd, rfl⟩⟩; refine ⟨_, rfl, ?_⟩) | ((with_reducible refine gate_builtin (b := .append) (xs := #[.tmp 51, .tmp 55]) rfl ?_); at_builtin; refine Kd.R_append (Kd.int .u8) (w0 := w) w.heap.size rfl (.tmp 51) (.tmp 55) 34 5 (.int .u8 0) 1 rfl Tryd.underlying34 info5 rfl (by decide) (by omega) u8 x8_2 t303 [.int .u8 t303] (fun _ => True) (fun _ => False) rfl rfl ?aP (fun _ hk => hk.elim) ?aF ?aO ?aB ?aS ?aL ?_; (case aP => exact rfl); (case aB => exact (by repeat (first | (with_reducible first | exact HB.out | apply below_alloc | apply pw_below_drewN | apply below_drew1) | exact HB.out))); (case aF => exact (fun _ _ => trivial)); (case aO => exact (by (with_reducible repeat (first | apply Kd.R_alloc | apply Kd.R_drewN | apply Kd.R_drew)); exact HO_8.out)); (case aS => exact (below_size (by repeat (first | (with_reducible first | exact HB.out | apply below_alloc | apply pw_below_drewN | apply below_drew1) | exact HB.out)))); (case aL => have := LMc26.out; omega); intro v305 w28 ho hb hg hat; rw [← Ny304.out] at ho; have n0_ := Aside0.mk (hb); have n1_ := Aside0.mk (ho); clear HB; clear HO_8; have HB := n0_; have HO306 := n1_; clear n0_ n1_; clear ho hb hg hat) | ((with_reducible refine gate_callee (f := 46) rfl ?_); refine goesL_ (some 59) rfl rfl Tryd.func46 (by kernel_rfl) rfl #[.int .i64 0, .int .i64 (wrap64 (a1 - 1))] rfl (by (try simp only [List.map_toArray, List.map_cons, List.map_nil]); first | done | rfl | (simp only [List.length_drop, List.length_take]; rfl)) ?_; (with_reducible refine (spec_l00Max.calls 0 (wrap64 (a1 - 1)) t307 _ A27.out).mono ?_); rintro e w' ⟨rfl, ⟨nd, rfl⟩⟩; refine ⟨_, rfl, ?_⟩))
                      go_roundg kj11
                      case measure => have := HJ3.out; have := HK2.out; have := HJ11.out; omega
                      case rel => exact ⟨(y304), (t307), (wrap64 (x10_2 + 1)), (by first | rfl | (simp; done) | (simp [*]; done)), (by first | rfl | (simp; done) | (simp [*]; done)), H', ⟨by have := HJ3.out; have := HK2.out; have := HJ11.out; omega⟩, ⟨by (with_reducible repeat (first | apply Kd.R_alloc | apply Kd.R_drewN | apply Kd.R_drew)); exact HO306.out⟩, ⟨by repeat (first | (with_reducible first | exact HB.out | apply below_alloc | apply pw_below_drewN | apply below_drew1) | exact HB.out)⟩⟩
                    · rw [if_neg c26] at H
                      exact absurd H (by simp)
                  · replace c24 := Bool.eq_false_iff.mpr c24
                    subst c24
                    have H1 : ((spec_l07Level.f (decide (x9_2 > 0))).bind fun t308 => (if x8_2.length < 140737488355328 then ((spec_l00Max.f 0 (wrap64 (x9_2 - 1))).bind fun t312 => (spec_OneShot.l0 kj11 a0 a1 a2 (x8_2 ++ [t308]) t312 (wrap64 (x10_2 + 1)))) else (none))) = some (r1, r2) := by rw [if_neg (show ¬ (false = true) by decide)] at H; exact H
                    clear H
                    have H := H1
                    clear H1
                    replace H := Option.bind_eq_some_iff.mp H
                    obtain ⟨t308, A290, H⟩ := H
                    replace H : (if x8_2.length < 140737488355328 then ((spec_l00Max.f 0 (wrap64 (x9_2 - 1))).bind fun t312 => (spec_OneShot.l0 kj11 a0 a1 a2 (x8_2 ++ [t308]) t312 (wrap64 (x10_2 + 1)))) else (none)) = some (r1, r2) := H
                    have A29 := Aside0.mk A290
                    clear A290
                    by_cases c30 : x8_2.length < 140737488355328
                    · rw [if_pos c30] at H
                      have LMc30 := Aside0.mk c30
                      clear c30
                      obtain ⟨y309, hy309⟩ : ∃ y_ : List Int, y_ = (x8_2 ++ [t308]) := ⟨_, rfl⟩
                      replace H : ((spec_l00Max.f 0 (wrap64 (x9_2 - 1))).bind fun t312 => (spec_OneShot.l0 kj11 a0 a1 a2 y309 t312 (wrap64 (x10_2 + 1)))) = some (r1, r2) := by first | (rw [hy309]; with_reducible exact H) | (have H2_ := (Option.bind_some _ _).symm.trans H; rw [hy309]; with_reducible exact H2_) | (have H2_ := (Option.bind_some _ _).symm.trans H; with_reducible exact H2_) | with_reducible exact H | (rw [hy309]; exact H) | exact H
                      have Ny309 := Aside0.mk hy309
                      clear hy309
                      replace H := Option.bind_eq_some_iff.mp H
                      obtain ⟨t312, A310, H⟩ := H
                      replace H : (spec_OneShot.l0 kj11 a0 a1 a2 y309 t312 (wrap64 (x10_2 + 1))) = some (r1, r2) := H
                      have A31 := Aside0.mk A310
                      clear A310
                      have H' := Aside0.mk H
                      clear H
                      go_wp2_with (first | ((with_reducible refine gate_callee (f := 45) rfl ?_); refine goesL_ (some 54) rfl rfl Tryd.func45 (by kernel_rfl) rfl #[.bool (decide (x9_2 > 0))] rfl (by (try simp only [List.map_toArray, List.map_cons, List.map_nil]); first | done | rfl | (simp only [List.length_drop, List.length_take]; rfl)) ?_; (with_reducible refine (spec_l07Level.calls (decide (x9_2 > 0)) t308 _ A29.out).mono ?_); rintro e w' ⟨rfl, ⟨nd, rfl⟩⟩; refine ⟨_, rfl, ?_⟩) | ((with_reducible refine gate_builtin (b := .append) (xs := #[.tmp 51, .tmp 55]) rfl ?_); at_builtin; refine Kd.R_append (Kd.int .u8) (w0 := w) w.heap.size rfl (.tmp 51) (.tmp 55) 34 5 (.int .u8 0) 1 rfl Tryd.underlying34 info5 rfl (by decide) (by omega) u8 x8_2 t308 [.int .u8 t308] (fun _ => True) (fun _ => False) rfl rfl ?aP (fun _ hk => hk.elim) ?aF ?aO ?aB ?aS ?aL ?_; (case aP => exact rfl); (case aB => exact (by repeat (first | (with_reducible first | exact HB.out | apply below_alloc | apply pw_below_drewN | apply below_drew1) | exact HB.out))); (case aF => exact (fun _ _ => trivial)); (case aO => exact (by (with_reducible repeat (first | apply Kd.R_alloc | apply Kd.R_drewN | apply Kd.R_drew)); exact HO_8.out)); (case aS => exact (below_size (by repeat (first | (with_reducible first | exact HB.out | apply below_alloc | apply pw_below_drewN | apply below_drew1) | exact HB.out)))); (case aL => have := LMc30.out; omega); intro v310 w32 ho hb hg hat; rw [← Ny309.out] at ho; have n0_ := Aside0.mk (hb); have n1_ := Aside0.mk (ho); clear HB; clear HO_8; have HB := n0_; have HO311 := n1_; clear n0_ n1_; clear ho hb hg hat) | ((with_reducible refine gate_callee (f := 46) rfl ?_); refine goesL_ (some 59) rfl rfl Tryd.func46 (by kernel_rfl) rfl #[.int .i64 0, .int .i64 (wrap64 (x9_2 - 1))] rfl (by (try simp only [List.map_toArray, List.map_cons, List.map_nil]); first | done | rfl | (simp only [List.length_drop, List.length_take]; rfl)) ?_; (with_reducible refine (spec_l00Max.calls 0 (wrap64 (x9_2 - 1)) t312 _ A31.out).mono ?_); rintro e w' ⟨rfl, ⟨nd, rfl⟩⟩; refine ⟨_, rfl, ?_⟩))
                      go_roundg kj11
                      case measure => have := HJ3.out; have := HK2.out; have := HJ11.out; omega
                      case rel => exact ⟨(y309), (t312), (wrap64 (x10_2 + 1)), (by first | rfl | (simp; done) | (simp [*]; done)), (by first | rfl | (simp; done) | (simp [*]; done)), H', ⟨by have := HJ3.out; have := HK2.out; have := HJ11.out; omega⟩, ⟨by (with_reducible repeat (first | apply Kd.R_alloc | apply Kd.R_drewN | apply Kd.R_drew)); exact HO311.out⟩, ⟨by repeat (first | (with_reducible first | exact HB.out | apply below_alloc | apply pw_below_drewN | apply below_drew1) | exact HB.out)⟩⟩
                    · rw [if_neg c30] at H
                      exact absurd H (by simp)
            · rw [if_neg c11] at H
              have c11b0 : decide (x10_2 < (a0.size : Int)) = false := decide_eq_false c11
              clear c11
              simp only [Option.some.injEq, Prod.mk.injEq] at H
              obtain ⟨rfl, rfl⟩ := H
              have hcv33 := own_string (P := Tryd.prog) Tryd.underlying34 Tryd.underlying5 Tryd.underlying9 (Kd.own_of_R HO_8.out)
              go_wp2
              go_ret2
              exact ⟨by first | rfl | (simp [errW_none, errW_some] <;> rfl) | (simp [*, errW_none, errW_some] <;> rfl), by repeat (first | (with_reducible first | exact HB.out | apply below_alloc | apply pw_below_drewN | apply below_drew1) | exact HB.out)⟩

end Go.Proofs.YtcpfkfaiakpfjaaDoor.X

/- The program's waveOf, over whatever closure: the wave of the levels that the closure tells tick by tick. Conditions: as the lemma says (what the closure's calls leave). -/
namespace Go.Proofs.YtcpfkfaiakpfjaaDoor.X
open Go.RowKit Go.Proofs.YtcpfkfaiakpfjaaDoorW.PrintWords Go.Proofs.YtcpfkfaiakpfjaaDoorW.PrintLast Go.Proofs.YtcpfkfaiakpfjaaDoorW.PrintMore

/-- The bytes of a wave whose levels are told. -/
def lvs (lv : Nat → Bool) (n : Nat) : List Int := (List.range n).map fun i => if lv i = true then 49 else 48
theorem lvs_len (lv : Nat → Bool) (n : Nat) : (lvs lv n).length = n := by simp [lvs]
theorem lvs_one (lv : Nat → Bool) (n : Nat) (h : lv n = true) : lvs lv (n + 1) = lvs lv n ++ [49] := by simp [lvs, List.range_succ, h]
theorem lvs_zero (lv : Nat → Bool) (n : Nat) (h : lv n = false) : lvs lv (n + 1) = lvs lv n ++ [48] := by simp [lvs, List.range_succ, h]
theorem waveInfo : (Tryd.prog.info? 5).map (fun i => (i.zero, i.size, i.bytes)) = some (some (.int .u8 0), 1, 1) := by kernel_rfl

def Same (H : Nat) (wa wb : World) : Prop := ∀ k, k < H → wb.heap[k]? = wa.heap[k]?
def Stable (Inv : Nat → World → Prop) (H : Nat) : Prop := ∀ i wa wb, Inv i wa → Same H wa wb → Inv i wb
/-- What a closure's call at a tick leaves. -/
def Clo (f : Nat) (caps : Array Value) (lv : Nat → Bool) (Inv : Nat → World → Prop) (B0 : Nat) (S : Nat → Prop) (H n : Nat) : Prop :=
  ∀ i, i < n → ∀ wr, Inv i wr → H ≤ wr.heap.size → Calls Tryd.prog f (#[.int .i64 i] ++ caps) wr fun e w' => e = .returned (.bool (lv i)) ∧ Inv (i + 1) w' ∧ Below B0 wr w' ∧ Kept wr w' S

set_option maxHeartbeats 4000000 in
set_option maxRecDepth 100000 in
theorem waveOf_any (n : Nat) (hn : n ≤ 1000000) (f : Nat) (fn : Func) (caps : Array Value) (lv : Nat → Bool) (Inv : Nat → World → Prop) (B0 : Nat) (S : Nat → Prop) (w : World)
    (hf : Tryd.prog.funcs[f]? = some fn) (hname : (fn.name == "runtime.NumGoroutine") = false) (hb : fn.body.isSome = true)
    (h0 : Inv 0 w) (hB0 : B0 ≤ w.heap.size) (hS : ∀ k, S k → k < w.heap.size) (hst : Stable Inv w.heap.size) (hcl : Clo f caps lv Inv B0 S w.heap.size n) :
    Calls Tryd.prog 49 #[.int .i64 n, .func (.func f) #[] caps] w fun e w' => e = .returned (.string (strOfNums (lvs lv n))) ∧ Inv n w' ∧ Below B0 w w' ∧ Kept w w' S := by
  have HF := Aside0.mk hf
  have HN := Aside0.mk hname
  have HBD := Aside0.mk hb
  have HI := Aside0.mk h0
  have HS := Aside0.mk hS
  have HST := Aside0.mk hst
  have HCL := Aside0.mk hcl
  clear hf hname hb h0 hS hst hcl
  go_enter Tryd.func49, Tryd.ntmps49
  have HB0 := Aside0.mk (Below.refl B0 w)
  have HK0 := Aside0.mk (Kept.refl w S)
  go_wp2_with (((with_reducible refine gate_dst (N := 7) rfl ?_); refine Kd.R_lit (Kd.int .u8) w.heap.size 5 ?hg (N := 7) ?hd (xs := ([] : List Int)) (inner := []) (ok := fun k => w.heap.size ≤ k) (okp := fun _ => False) ?hr ?hp (fun _ hk => hk.elim) (Nat.le_refl _) (Below.refl _ _) (Nat.le_refl _) (by simp) ?_; (case hd => rfl); (case hg => rfl); (case hr => first | (go_simp; done) | (go_simp; rfl)); (case hp => exact (Reps.none _ _)); intro v1 w1 ho1 hb1 hg_ hnew_; clear hg_ hnew_; have HO := Aside0.mk ho1; have HBL := Aside0.mk hb1; clear ho1 hb1))
  go_loopg [5, 9] n (fun kq v5 v9 w' => ∃ i : Nat, v9 = .int .i64 i ∧ Aside0 (i + kq = n) ∧ Aside0 (Kd.R (Kd.int .u8) 5 w' w.heap.size (fun k => w.heap.size ≤ k) v5 (lvs lv i)) ∧ Aside0 (Inv i w') ∧ Aside0 (Below B0 w w') ∧ Aside0 (Kept w w' S))
  case atStart => exact ⟨0, by first | rfl | (simp; done), ⟨by omega⟩, ⟨HO.out⟩, ⟨HST.out 0 _ _ HI.out HBL.out.block⟩, ⟨HBL.out.mono hB0⟩, ⟨HK0.out.below HBL.out⟩⟩
  case round =>
    clear HO HBL HI HB0 HK0
    obtain ⟨i, rfl, HE, HO, HI, HB, HK⟩ := hrel
    by_cases hlt : i < n
    · cases gk with
      | zero => have := HE.out; omega
      | succ g1 =>
      rcases hl : lv i with _ | _
      · have HL := Aside0.mk hl
        have HC := Aside0.mk (HCL.out i hlt wr HI.out HK.out.1)
        rw [hl] at HC
        clear hl
        go_wp2_with (first | ((with_reducible refine gate_dst (N := 14) rfl ?_); refine goesV_ (some 14) rfl rfl HF.out HN.out HBD.out #[.int .i64 i] rfl rfl (by (try simp only [List.map_toArray, List.map_cons, List.map_nil]); first | done | rfl) ?_; refine HC.out.mono ?_; rintro e w2 ⟨rfl, hI, hB, hK⟩; refine ⟨_, rfl, ?_⟩; have n0_ := Aside0.mk (Kd.R_kept HO.out hK (fun k hk hs => by have := HS.out k hs; omega)); have n1_ := Aside0.mk hI; have n2_ := Aside0.mk (HB.out.trans hB); have n3_ := Aside0.mk (HK.out.then_ hK (fun _ hs => .inl hs)); clear HO HI HB HK HC hI hB hK; have HO := n0_; have HI := n1_; have HB := n2_; have HK := n3_; clear n0_ n1_ n2_ n3_) | ((with_reducible refine gate_builtin (b := .append) (xs := #[.tmp 18, .tmp 19]) rfl ?_); at_builtin; refine Kd.R_append (Kd.int .u8) (w0 := w2) w.heap.size rfl (.tmp 18) (.tmp 19) 34 5 (.int .u8 0) 1 rfl Tryd.underlying34 waveInfo rfl (by decide) (by omega) u5 (lvs lv i) 48 [.int .u8 48] (fun k => w.heap.size ≤ k) (fun _ => False) rfl rfl ?aP (fun _ hk => hk.elim) ?aF ?aO ?aB ?aS ?aL ?_; (case aP => exact rfl); (case aB => exact Below.refl _ _); (case aF => exact (fun _ hk => Nat.le_trans HK.out.1 hk)); (case aO => exact HO.out); (case aS => exact HK.out.1); (case aL => rw [lvs_len]; omega); intro v3 w3 ho hb hg hat; rw [← lvs_zero lv i HL.out] at ho; have n0_ := Aside0.mk ho; have n1_ := Aside0.mk (HST.out (i + 1) _ _ HI.out hb.block); have n2_ := Aside0.mk (HB.out.trans (hb.mono hB0)); have n3_ := Aside0.mk (HK.out.of_grown hg (fun k hk => .inr (HO.out.1 k hk))); clear HO HI HB HK; have HO := n0_; have HI := n1_; have HB := n2_; have HK := n3_; clear n0_ n1_ n2_ n3_; clear ho hb hg hat))
        go_roundg g1
        case measure => omega
        case rel => exact ⟨i + 1, by go_num, ⟨by have := HE.out; omega⟩, HO, HI, HB, HK⟩
      · have HL := Aside0.mk hl
        have HC := Aside0.mk (HCL.out i hlt wr HI.out HK.out.1)
        rw [hl] at HC
        clear hl
        go_wp2_with (first | ((with_reducible refine gate_dst (N := 14) rfl ?_); refine goesV_ (some 14) rfl rfl HF.out HN.out HBD.out #[.int .i64 i] rfl rfl (by (try simp only [List.map_toArray, List.map_cons, List.map_nil]); first | done | rfl) ?_; refine HC.out.mono ?_; rintro e w2 ⟨rfl, hI, hB, hK⟩; refine ⟨_, rfl, ?_⟩; have n0_ := Aside0.mk (Kd.R_kept HO.out hK (fun k hk hs => by have := HS.out k hs; omega)); have n1_ := Aside0.mk hI; have n2_ := Aside0.mk (HB.out.trans hB); have n3_ := Aside0.mk (HK.out.then_ hK (fun _ hs => .inl hs)); clear HO HI HB HK HC hI hB hK; have HO := n0_; have HI := n1_; have HB := n2_; have HK := n3_; clear n0_ n1_ n2_ n3_) | ((with_reducible refine gate_builtin (b := .append) (xs := #[.tmp 15, .tmp 16]) rfl ?_); at_builtin; refine Kd.R_append (Kd.int .u8) (w0 := w2) w.heap.size rfl (.tmp 15) (.tmp 16) 34 5 (.int .u8 0) 1 rfl Tryd.underlying34 waveInfo rfl (by decide) (by omega) u5 (lvs lv i) 49 [.int .u8 49] (fun k => w.heap.size ≤ k) (fun _ => False) rfl rfl ?aP (fun _ hk => hk.elim) ?aF ?aO ?aB ?aS ?aL ?_; (case aP => exact rfl); (case aB => exact Below.refl _ _); (case aF => exact (fun _ hk => Nat.le_trans HK.out.1 hk)); (case aO => exact HO.out); (case aS => exact HK.out.1); (case aL => rw [lvs_len]; omega); intro v3 w3 ho hb hg hat; rw [← lvs_one lv i HL.out] at ho; have n0_ := Aside0.mk ho; have n1_ := Aside0.mk (HST.out (i + 1) _ _ HI.out hb.block); have n2_ := Aside0.mk (HB.out.trans (hb.mono hB0)); have n3_ := Aside0.mk (HK.out.of_grown hg (fun k hk => .inr (HO.out.1 k hk))); clear HO HI HB HK; have HO := n0_; have HI := n1_; have HB := n2_; have HK := n3_; clear n0_ n1_ n2_ n3_; clear ho hb hg hat))
        go_roundg g1
        case measure => omega
        case rel => exact ⟨i + 1, by go_num, ⟨by have := HE.out; omega⟩, HO, HI, HB, HK⟩
    · have e : i = n := by have := HE.out; omega
      subst e
      have hcv := own_string (P := Tryd.prog) Tryd.underlying34 Tryd.underlying5 Tryd.underlying9 (Kd.own_of_R HO.out)
      go_wp2
      go_ret
      exact ⟨rfl, HI.out, HB.out, HK.out⟩
end Go.Proofs.YtcpfkfaiakpfjaaDoor.X

/- OneShot's closure: what it tells of a tick, and what it leaves. Conditions: as the lemma says. -/
namespace Go.Proofs.YtcpfkfaiakpfjaaDoor.X
open Go.RowKit Go.Proofs.YtcpfkfaiakpfjaaDoorW.PrintWords Go.Proofs.YtcpfkfaiakpfjaaDoorW.PrintLast Go.Proofs.YtcpfkfaiakpfjaaDoorW.PrintMore
attribute [local go_sem] max2_int min2_int max_two min_two max_three min_three max_four min_four
set_option linter.unusedVariables false
set_option linter.unusedSimpArgs false
set_option maxHeartbeats 4000000 in
set_option maxRecDepth 100000 in
theorem ShotClo (l : List Int) (A : Option Addr) (cc : Nat) (again t L i : Int) (k : Nat) (c : Bool) (g1 g2 g3 g4 B0 : Nat) (w : World) (h1 : w.heap[g1]? = some (.cells #[.slice A l.length cc] 29 (0, 0))) (h2 : w.heap[g2]? = some (.cells #[.int .i64 again] 2 (0, 0))) (h3 : w.heap[g3]? = some (.cells #[.int .i64 L] 2 (0, 0))) (h4 : w.heap[g4]? = some (.cells #[.int .i64 t] 2 (0, 0)))
    (n23 : g2 ≠ g3) (n43 : g4 ≠ g3) (hr : Kd.C (Kd.int .i64) w A l.length l) (hc : l.length ≤ cc) (hf : slices_Contains_int64_int64.f k l i = some c) (hL : 0 ≤ L) (hL' : L ≤ 1000) (ht : 1 ≤ t) (ht' : t ≤ 1000) (hB : B0 ≤ g3) (L1 L2 : Int) (hL1 : L1 = if c = true ∧ (again = 1 ∨ L = 0) then t else L) (hL2 : L2 = if L1 - 1 < 0 then 0 else L1 - 1) :
    Calls Tryd.prog 50 #[.int .i64 i, .pointer (some ⟨g1, 0, none⟩), .pointer (some ⟨g2, 0, none⟩), .pointer (some ⟨g3, 0, none⟩), .pointer (some ⟨g4, 0, none⟩)] w fun e w' => e = .returned (.bool (decide (L1 > 0))) ∧ w'.heap[g3]? = some (.cells #[.int .i64 L2] 2 (0, 0)) ∧ Below B0 w w' ∧ Kept w w' (· = g3) := by
  have n13 : g1 ≠ g3 := blk_ne h1 h3 (by decide)
  have hB0 : B0 ≤ w.heap.size := Nat.le_trans hB (Nat.le_of_lt (blk_lt h3))
  have c1 : w.cell? ⟨g1, 0, none⟩ = some (.slice A l.length cc) := (blk_cell h1 0).trans rfl
  have B2 := Aside0.mk h2
  have B3 := Aside0.mk h3
  have B4 := Aside0.mk h4
  have HR := Aside0.mk hr
  have HC := Aside0.mk hc
  have HF := Aside0.mk hf
  have HBB := Aside0.mk hB
  have G0 : Aside0 (∀ W : World, Below w.heap.size w W → W.heap[g3]? = some (.cells #[.int .i64 L] 2 (0, 0)) ∧ Below B0 w W ∧ Kept w W (· = g3)) := ⟨fun W hW => ⟨blk_below h3 hW, hW.mono hB0, Kept.of_below hW _⟩⟩
  have G1 : Aside0 (∀ (W : World) (x u : Int), (W.heap[g3]? = some (.cells #[.int .i64 x] 2 (0, 0)) ∧ Below B0 w W ∧ Kept w W (· = g3)) → (W.setCell ⟨g3, 0, none⟩ (.int .i64 u)).heap[g3]? = some (.cells #[.int .i64 u] 2 (0, 0)) ∧ Below B0 w (W.setCell ⟨g3, 0, none⟩ (.int .i64 u)) ∧ Kept w (W.setCell ⟨g3, 0, none⟩ (.int .i64 u)) (· = g3)) :=
    ⟨fun W x u h => ⟨blk_put h.1 0 _ rfl, h.2.1.setCell hB _, Kept.setCell (p := ⟨g3, 0, none⟩) h.2.2 (.inl rfl) (.int .i64 u)⟩⟩
  clear h1 h2 h3 h4 hr hc hf hB hB0
  have K1 := Aside0.mk hL1
  have K2 := Aside0.mk hL2
  clear hL1 hL2
  cases c with
  | false =>
    have e0 : L1 = L := K1.out.trans (if_neg (by simp))
    have w1 : IntKind.i64.wrap (L - 1) = L - 1 := IntWalk.i64_in _ ⟨by omega, by omega⟩
    by_cases hp : 0 < L
    · have e1 : Aside0 (decide (L1 > 0) = true) := ⟨decide_eq_true (by omega)⟩
      have e2 : Aside0 (L2 = L - 1) := ⟨by rw [K2.out, e0, if_neg (by omega)]⟩
      have m2 : (0 < L) = True := eq_true (by omega)
      have m3 : (0 ≤ L - 1) = True := eq_true (by omega)
      have m5 : max 0 (L - 1) = L - 1 := by omega
      clear e0 K1 K2
      go_enter Tryd.func50, Tryd.ntmps50
      go_wp2_with (first
        | (go_at_call 51; (with_reducible refine (slices_Contains_int64_int64.calls k A cc l i false _ HR.out HC.out HF.out).mono ?_); rintro e wn ⟨rfl, hb0⟩; have hb := to_below_d hb0; clear hb0; have z3 := blk_frozen (blk_below B3.out hb) 0; have c2 : wn.cell? ⟨g2, 0, none⟩ = some (.int .i64 again) := (blk_cell (blk_below B2.out hb) 0).trans rfl; have c3 : wn.cell? ⟨g3, 0, none⟩ = some (.int .i64 L) := (blk_cell (blk_below B3.out hb) 0).trans rfl; have c4 : wn.cell? ⟨g4, 0, none⟩ = some (.int .i64 t) := (blk_cell (blk_below B4.out hb) 0).trans rfl; have HG := Aside0.mk (G0.out _ hb); clear hb))
      all_goals (go_ret; exact ⟨by rw [e1.out]; first | rfl | (simp; done), by first | (rw [e2.out]; exact G1.out _ _ _ HG.out) | (rw [show L2 = 0 by have := e2.out; omega]; exact G1.out _ _ _ HG.out)⟩)
    · obtain rfl : L = 0 := by omega
      have e1 : Aside0 (decide (L1 > 0) = false) := ⟨decide_eq_false (by omega)⟩
      have e2 : Aside0 (L2 = 0) := ⟨by rw [K2.out, e0]; rfl⟩
      clear e0 K1 K2 hp
      go_enter Tryd.func50, Tryd.ntmps50
      go_wp2_with (first
        | (go_at_call 51; (with_reducible refine (slices_Contains_int64_int64.calls k A cc l i false _ HR.out HC.out HF.out).mono ?_); rintro e wn ⟨rfl, hb0⟩; have hb := to_below_d hb0; clear hb0; have z3 := blk_frozen (blk_below B3.out hb) 0; have c2 : wn.cell? ⟨g2, 0, none⟩ = some (.int .i64 again) := (blk_cell (blk_below B2.out hb) 0).trans rfl; have c3 : wn.cell? ⟨g3, 0, none⟩ = some (.int .i64 0) := (blk_cell (blk_below B3.out hb) 0).trans rfl; have c4 : wn.cell? ⟨g4, 0, none⟩ = some (.int .i64 t) := (blk_cell (blk_below B4.out hb) 0).trans rfl; have HG := Aside0.mk (G0.out _ hb); clear hb))
      all_goals (go_ret; exact ⟨by rw [e1.out]; first | rfl | (simp; done), by first | (rw [e2.out]; exact G1.out _ _ _ HG.out) | (rw [show L2 = 0 by have := e2.out; omega]; exact G1.out _ _ _ HG.out)⟩)
  | true =>
    by_cases ha : again = 1
    · subst ha
      have e0 : L1 = t := K1.out.trans (if_pos ⟨rfl, .inl rfl⟩)
      have w1 : IntKind.i64.wrap (t - 1) = t - 1 := IntWalk.i64_in _ ⟨by omega, by omega⟩
      have e1 : Aside0 (decide (L1 > 0) = true) := ⟨decide_eq_true (by omega)⟩
      have e2 : Aside0 (L2 = t - 1) := ⟨by rw [K2.out, e0, if_neg (by omega)]⟩
      have m1 : (t > 0) = True := eq_true (by omega)
      have m2 : (0 < t) = True := eq_true (by omega)
      have m3 : (0 ≤ t - 1) = True := eq_true (by omega)
      have m4 : (t - 1 > 0) = (0 < t - 1) := rfl
      have m5 : max 0 (t - 1) = t - 1 := by omega
      clear e0 K1 K2
      go_enter Tryd.func50, Tryd.ntmps50
      go_wp2_with (first
        | (go_at_call 51; (with_reducible refine (slices_Contains_int64_int64.calls k A cc l i true _ HR.out HC.out HF.out).mono ?_); rintro e wn ⟨rfl, hb0⟩; have hb := to_below_d hb0; clear hb0; have z3 := blk_frozen (blk_below B3.out hb) 0; have c2 : wn.cell? ⟨g2, 0, none⟩ = some (.int .i64 1) := (blk_cell (blk_below B2.out hb) 0).trans rfl; have c3 : wn.cell? ⟨g3, 0, none⟩ = some (.int .i64 L) := (blk_cell (blk_below B3.out hb) 0).trans rfl; have c4 : wn.cell? ⟨g4, 0, none⟩ = some (.int .i64 t) := (blk_cell (blk_below B4.out hb) 0).trans rfl; have HG := Aside0.mk (G0.out _ hb); clear hb))
      all_goals (go_ret; exact ⟨by rw [e1.out]; first | rfl | (simp; done), by first | (rw [e2.out]; exact G1.out _ _ _ (G1.out _ _ t HG.out)) | (rw [show L2 = 0 by have := e2.out; omega]; exact G1.out _ _ _ (G1.out _ _ t HG.out))⟩)
    · have a0 : (again = 1) = False := eq_false ha
      have a1 : (again == 1) = false := beq_eq_false_iff_ne.mpr ha
      by_cases hz : L = 0
      · subst hz
        have e0 : L1 = t := K1.out.trans (if_pos ⟨rfl, .inr rfl⟩)
        clear ha
        have w1 : IntKind.i64.wrap (t - 1) = t - 1 := IntWalk.i64_in _ ⟨by omega, by omega⟩
        have e1 : Aside0 (decide (L1 > 0) = true) := ⟨decide_eq_true (by omega)⟩
        have e2 : Aside0 (L2 = t - 1) := ⟨by rw [K2.out, e0, if_neg (by omega)]⟩
        have m1 : (t > 0) = True := eq_true (by omega)
        have m2 : (0 < t) = True := eq_true (by omega)
        have m3 : (0 ≤ t - 1) = True := eq_true (by omega)
        have m4 : (t - 1 > 0) = (0 < t - 1) := rfl
        have m5 : max 0 (t - 1) = t - 1 := by omega
        clear e0 K1 K2
        go_enter Tryd.func50, Tryd.ntmps50
        go_wp2_with (first
          | (go_at_call 51; (with_reducible refine (slices_Contains_int64_int64.calls k A cc l i true _ HR.out HC.out HF.out).mono ?_); rintro e wn ⟨rfl, hb0⟩; have hb := to_below_d hb0; clear hb0; have z3 := blk_frozen (blk_below B3.out hb) 0; have c2 : wn.cell? ⟨g2, 0, none⟩ = some (.int .i64 again) := (blk_cell (blk_below B2.out hb) 0).trans rfl; have c3 : wn.cell? ⟨g3, 0, none⟩ = some (.int .i64 0) := (blk_cell (blk_below B3.out hb) 0).trans rfl; have c4 : wn.cell? ⟨g4, 0, none⟩ = some (.int .i64 t) := (blk_cell (blk_below B4.out hb) 0).trans rfl; have HG := Aside0.mk (G0.out _ hb); clear hb))
        all_goals (go_ret; exact ⟨by rw [e1.out]; first | rfl | (simp; done), by first | (rw [e2.out]; exact G1.out _ _ _ (G1.out _ _ t HG.out)) | (rw [show L2 = 0 by have := e2.out; omega]; exact G1.out _ _ _ (G1.out _ _ t HG.out))⟩)
      · have b0 : (L = 0) = False := eq_false hz
        have b1 : (L == 0) = false := beq_eq_false_iff_ne.mpr hz
        have e0 : L1 = L := K1.out.trans (if_neg (fun h => h.2.elim ha hz))
        clear ha hz
        have w1 : IntKind.i64.wrap (L - 1) = L - 1 := IntWalk.i64_in _ ⟨by omega, by omega⟩
        by_cases hp : 0 < L
        · have e1 : Aside0 (decide (L1 > 0) = true) := ⟨decide_eq_true (by omega)⟩
          have e2 : Aside0 (L2 = L - 1) := ⟨by rw [K2.out, e0, if_neg (by omega)]⟩
          have m2 : (0 < L) = True := eq_true (by omega)
          have m3 : (0 ≤ L - 1) = True := eq_true (by omega)
          have m5 : max 0 (L - 1) = L - 1 := by omega
          clear e0 K1 K2
          go_enter Tryd.func50, Tryd.ntmps50
          go_wp2_with (first
            | (go_at_call 51; (with_reducible refine (slices_Contains_int64_int64.calls k A cc l i true _ HR.out HC.out HF.out).mono ?_); rintro e wn ⟨rfl, hb0⟩; have hb := to_below_d hb0; clear hb0; have z3 := blk_frozen (blk_below B3.out hb) 0; have c2 : wn.cell? ⟨g2, 0, none⟩ = some (.int .i64 again) := (blk_cell (blk_below B2.out hb) 0).trans rfl; have c3 : wn.cell? ⟨g3, 0, none⟩ = some (.int .i64 L) := (blk_cell (blk_below B3.out hb) 0).trans rfl; have c4 : wn.cell? ⟨g4, 0, none⟩ = some (.int .i64 t) := (blk_cell (blk_below B4.out hb) 0).trans rfl; have HG := Aside0.mk (G0.out _ hb); clear hb))
          all_goals (go_ret; exact ⟨by rw [e1.out]; first | rfl | (simp; done), by first | (rw [e2.out]; exact G1.out _ _ _ HG.out) | (rw [show L2 = 0 by have := e2.out; omega]; exact G1.out _ _ _ HG.out)⟩)
        · obtain rfl : L = 0 := by omega
          simp at b0
end Go.Proofs.YtcpfkfaiakpfjaaDoor.X

/- Whether a text and ticks are those of a filter: what the program and the reference say. Conditions: as each lemma says. -/
namespace Go.Proofs.YtcpfkfaiakpfjaaDoor.X
open Go.RowKit Go.Proofs.YtcpfkfaiakpfjaaDoorW.PrintWords Go.Proofs.YtcpfkfaiakpfjaaDoorW.PrintLast Go.Proofs.YtcpfkfaiakpfjaaDoorW.PrintMore
set_option linter.unusedVariables false
set_option linter.unusedSimpArgs false
theorem isFilter_true {s : ByteArray} {a : Int} (h : impl_isFilter.f s a = some true) : s.size ≤ 400 ∧ Lev s ∧ 1 ≤ a ∧ a ≤ 50 := by
  unfold impl_isFilter.f impl_IsWave.f at h
  by_cases hs : s.size ≤ 9223372036854775807
  · rw [if_pos (by omega), Option.bind_some] at h
    cases hw : isW s
    · rw [hw, if_neg (by decide)] at h; cases h
    · rw [hw, if_pos rfl, within_eq, Option.bind_some] at h
      have h2 := of_decide_eq_true (Option.some.inj h)
      exact ⟨((isW_iff s).1 hw).1, ((isW_iff s).1 hw).2, h2⟩
  · rw [if_neg (by omega)] at h; cases h
end Go.Proofs.YtcpfkfaiakpfjaaDoor.X

/- Whether a tick is one of a list's: what slices.Contains tells. Conditions: as each lemma says. -/
namespace Go.Proofs.YtcpfkfaiakpfjaaDoor.X
open Go.RowKit Go.Proofs.YtcpfkfaiakpfjaaDoorW.PrintWords Go.Proofs.YtcpfkfaiakpfjaaDoorW.PrintLast Go.Proofs.YtcpfkfaiakpfjaaDoorW.PrintMore
set_option linter.unusedVariables false
set_option linter.unusedSimpArgs false
theorem index_loop2 (l : List Int) (a : Int) (hl : l.length ≤ 100000) : ∀ (d k i : Nat), i + d = l.length → d < k →
    ∃ v : Int, slices_Index_int64_int64.l0 k l a l.length i = some v ∧ (v ≥ 0 ↔ a ∈ l.drop i)
  | 0, k, i, hi, hk => by
    cases k with
    | zero => omega
    | succ k =>
      refine ⟨-1, by rw [slices_Index_int64_int64.l0, if_neg (by omega)], ?_⟩
      rw [List.drop_eq_nil_of_le (by omega)]; simp
  | d + 1, k, i, hi, hk => by
    cases k with
    | zero => omega
    | succ k =>
      obtain ⟨v, hv, hm⟩ := index_loop2 l a hl d k (i + 1) (by omega) (by omega)
      have hi2 : i < l.length := by omega
      rw [slices_Index_int64_int64.l0, if_pos (by omega), if_pos (by omega), if_pos (by omega), w64 (by omega) (by omega), rd_nat l i hi2]
      rw [Int.natCast_add, Int.natCast_one] at hv
      by_cases h : a = l[i]
      · rw [if_pos h]; exact ⟨i, rfl, by rw [List.drop_eq_getElem_cons hi2, List.mem_cons]; exact ⟨fun _ => .inl h, fun _ => by omega⟩⟩
      · rw [if_neg h]; exact ⟨v, hv, by rw [hm, List.drop_eq_getElem_cons hi2, List.mem_cons]; exact ⟨.inr, fun h3 => h3.resolve_left h⟩⟩
theorem contains_eq2 (k : Nat) (l : List Int) (a : Int) (hl : l.length ≤ 100000) (hk : l.length < k) : slices_Contains_int64_int64.f k l a = some (decide (a ∈ l)) := by
  unfold slices_Contains_int64_int64.f slices_Index_int64_int64.f
  obtain ⟨v, hv, hm⟩ := index_loop2 l a hl l.length k 0 (by omega) hk
  rw [Int.natCast_zero] at hv
  rw [hv, Option.bind_some]
  congr 1
  rw [decide_eq_decide, hm]; simp
theorem edge_in (k : Nat) (s : ByteArray) (hs : s.size ≤ 400) (i : Nat) (hi : i < s.size) (hk : 400 < k) : slices_Contains_int64_int64.f k (edg s 49 s.size) i = some (isE s 49 i) := by
  have hl := edg_len s 49 s.size
  rw [contains_eq2 k _ _ (by omega) (by omega)]
  congr 1
  rw [Bool.eq_iff_iff, decide_eq_true_eq, edg_mem]
  constructor
  · rintro ⟨j, _, h2, h3⟩
    have : i = j := by omega
    subst this; exact h2
  · intro h2; exact ⟨i, hi, h2, rfl⟩
end Go.Proofs.YtcpfkfaiakpfjaaDoor.X

/- The program's OneShot: what it answers. Conditions: none. -/
namespace Go.Proofs.YtcpfkfaiakpfjaaDoor.X
open Go.RowKit Go.Proofs.YtcpfkfaiakpfjaaDoorW.PrintWords Go.Proofs.YtcpfkfaiakpfjaaDoorW.PrintLast Go.Proofs.YtcpfkfaiakpfjaaDoorW.PrintMore
set_option linter.unusedVariables false
set_option linter.unusedSimpArgs false
/-- What is left of a shot behind the begin of a tick, and ahead of it. -/
def shot1 (s : ByteArray) (t again L : Int) (i : Nat) : Int := if isE s 49 i = true ∧ (again = 1 ∨ L = 0) then t else L
def shotL (s : ByteArray) (t again : Int) : Nat → Int
  | 0 => 0
  | i + 1 => if shot1 s t again (shotL s t again i) i - 1 < 0 then 0 else shot1 s t again (shotL s t again i) i - 1
theorem shotL_rng (s : ByteArray) (t again : Int) (h1 : 1 ≤ t) (h2 : t ≤ 50) : ∀ i : Nat, 0 ≤ shotL s t again i ∧ shotL s t again i ≤ 50
  | 0 => by simp [shotL]
  | i + 1 => by
    have := shotL_rng s t again h1 h2 i
    unfold shotL shot1
    split <;> split <;> omega
set_option maxHeartbeats 4000000 in
set_option maxRecDepth 100000 in
theorem OneShot_no1 (s : ByteArray) (t ag : Int) (w : World) (h1 : impl_isFilter.f s t = some false) :
    Calls Tryd.prog 19 #[.string s, .int .i64 t, .int .i64 ag] w fun e w' => e = .returned (.tuple #[.string ⟨#[]⟩, .bool false]) ∧ Below w.heap.size w w' := by
  have Hh1 := Aside0.mk h1
  clear h1
  have HB := Aside0.mk (Below.refl w.heap.size w)
  go_enter Tryd.func19, Tryd.ntmps19
  go_wp2_with (first
    | ((with_reducible refine gate_dst (N := 4) rfl ?_); refine box_event ?hg (N := 4) ?hd (cs := #[.int .i64 t]) (t := 2) ?hr ?_; (case hd => rfl); (case hg => rfl); (case hr => first | (go_simp; done) | (go_simp; rfl)); intro g4 hg wn hbox hb; have GE4 := Aside0.mk (by rw [hg]; exact below_size HB.out : w.heap.size ≤ g4); clear hg; have BK40 := Aside0.mk hbox; clear hbox; have n0_ := Aside0.mk (below_step HB.out hb); clear HB  hb; have HB := n0_; clear n0_ ; have BK4 := BK40; clear BK40; have c4_0 : wn.cell? ⟨g4, 0, none⟩ = some (.int .i64 t) := (blk_cell BK4.out 0).trans rfl)
    | ((with_reducible refine gate_dst (N := 5) rfl ?_); refine box_event ?hg (N := 5) ?hd (cs := #[.int .i64 ag]) (t := 2) ?hr ?_; (case hd => rfl); (case hg => rfl); (case hr => first | (go_simp; done) | (go_simp; rfl)); intro g5 hg wn hbox hb; have GE5 := Aside0.mk (by rw [hg]; exact below_size HB.out : w.heap.size ≤ g5); have NE4_5 := Aside0.mk (show g4 ≠ g5 by have := blk_lt BK4.out; omega); clear hg; have BK50 := Aside0.mk hbox; clear hbox; have n0_ := Aside0.mk (below_step HB.out hb); have m4_ := Aside0.mk (blk_below BK4.out hb); clear HB BK4 hb; have HB := n0_; have BK4 := m4_; clear n0_ m4_; have c4_0 : wn.cell? ⟨g4, 0, none⟩ = some (.int .i64 t) := (blk_cell BK4.out 0).trans rfl; have BK5 := BK50; clear BK50; have c5_0 : wn.cell? ⟨g5, 0, none⟩ = some (.int .i64 ag) := (blk_cell BK5.out 0).trans rfl)
    | (go_at_call 42; (with_reducible refine (impl_isFilter.calls s t false _ Hh1.out).mono ?_); rintro e wn ⟨rfl, hb0⟩; (first | have hb := to_below_d hb0 | have hb := to_below_b hb0); clear hb0; have n0_ := Aside0.mk (below_step HB.out hb); have m4_ := Aside0.mk (blk_below BK4.out hb); have m5_ := Aside0.mk (blk_below BK5.out hb); clear HB BK4 BK5 hb; have HB := n0_; have BK4 := m4_; have BK5 := m5_; clear n0_ m4_ m5_; have c4_0 : wn.cell? ⟨g4, 0, none⟩ = some (.int .i64 t) := (blk_cell BK4.out 0).trans rfl; have c5_0 : wn.cell? ⟨g5, 0, none⟩ = some (.int .i64 ag) := (blk_cell BK5.out 0).trans rfl))
  go_ret2
  exact ⟨rfl, HB.out⟩
set_option maxHeartbeats 4000000 in
set_option maxRecDepth 100000 in
theorem OneShot_no2 (s : ByteArray) (t ag : Int) (w : World) (h1 : impl_isFilter.f s t = some true) (h2 : impl_within.f ag 0 1 = some false) :
    Calls Tryd.prog 19 #[.string s, .int .i64 t, .int .i64 ag] w fun e w' => e = .returned (.tuple #[.string ⟨#[]⟩, .bool false]) ∧ Below w.heap.size w w' := by
  have Hh1 := Aside0.mk h1
  have Hh2 := Aside0.mk h2
  clear h1 h2
  have HB := Aside0.mk (Below.refl w.heap.size w)
  go_enter Tryd.func19, Tryd.ntmps19
  go_wp2_with (first
    | ((with_reducible refine gate_dst (N := 4) rfl ?_); refine box_event ?hg (N := 4) ?hd (cs := #[.int .i64 t]) (t := 2) ?hr ?_; (case hd => rfl); (case hg => rfl); (case hr => first | (go_simp; done) | (go_simp; rfl)); intro g4 hg wn hbox hb; have GE4 := Aside0.mk (by rw [hg]; exact below_size HB.out : w.heap.size ≤ g4); clear hg; have BK40 := Aside0.mk hbox; clear hbox; have n0_ := Aside0.mk (below_step HB.out hb); clear HB  hb; have HB := n0_; clear n0_ ; have BK4 := BK40; clear BK40; have c4_0 : wn.cell? ⟨g4, 0, none⟩ = some (.int .i64 t) := (blk_cell BK4.out 0).trans rfl)
    | ((with_reducible refine gate_dst (N := 5) rfl ?_); refine box_event ?hg (N := 5) ?hd (cs := #[.int .i64 ag]) (t := 2) ?hr ?_; (case hd => rfl); (case hg => rfl); (case hr => first | (go_simp; done) | (go_simp; rfl)); intro g5 hg wn hbox hb; have GE5 := Aside0.mk (by rw [hg]; exact below_size HB.out : w.heap.size ≤ g5); have NE4_5 := Aside0.mk (show g4 ≠ g5 by have := blk_lt BK4.out; omega); clear hg; have BK50 := Aside0.mk hbox; clear hbox; have n0_ := Aside0.mk (below_step HB.out hb); have m4_ := Aside0.mk (blk_below BK4.out hb); clear HB BK4 hb; have HB := n0_; have BK4 := m4_; clear n0_ m4_; have c4_0 : wn.cell? ⟨g4, 0, none⟩ = some (.int .i64 t) := (blk_cell BK4.out 0).trans rfl; have BK5 := BK50; clear BK50; have c5_0 : wn.cell? ⟨g5, 0, none⟩ = some (.int .i64 ag) := (blk_cell BK5.out 0).trans rfl)
    | (go_at_call 42; (with_reducible refine (impl_isFilter.calls s t true _ Hh1.out).mono ?_); rintro e wn ⟨rfl, hb0⟩; (first | have hb := to_below_d hb0 | have hb := to_below_b hb0); clear hb0; have n0_ := Aside0.mk (below_step HB.out hb); have m4_ := Aside0.mk (blk_below BK4.out hb); have m5_ := Aside0.mk (blk_below BK5.out hb); clear HB BK4 BK5 hb; have HB := n0_; have BK4 := m4_; have BK5 := m5_; clear n0_ m4_ m5_; have c4_0 : wn.cell? ⟨g4, 0, none⟩ = some (.int .i64 t) := (blk_cell BK4.out 0).trans rfl; have c5_0 : wn.cell? ⟨g5, 0, none⟩ = some (.int .i64 ag) := (blk_cell BK5.out 0).trans rfl)
    | (go_at_call 47; (with_reducible refine (impl_within.calls ag 0 1 false _ Hh2.out).mono ?_); rintro e wn ⟨rfl, hb0⟩; (first | have hb := to_below_d hb0 | have hb := to_below_b hb0); clear hb0; have n0_ := Aside0.mk (below_step HB.out hb); have m4_ := Aside0.mk (blk_below BK4.out hb); have m5_ := Aside0.mk (blk_below BK5.out hb); clear HB BK4 BK5 hb; have HB := n0_; have BK4 := m4_; have BK5 := m5_; clear n0_ m4_ m5_; have c4_0 : wn.cell? ⟨g4, 0, none⟩ = some (.int .i64 t) := (blk_cell BK4.out 0).trans rfl; have c5_0 : wn.cell? ⟨g5, 0, none⟩ = some (.int .i64 ag) := (blk_cell BK5.out 0).trans rfl))
  go_ret2
  exact ⟨rfl, HB.out⟩
set_option maxHeartbeats 4000000 in
set_option maxRecDepth 100000 in
theorem OneShot_yes (s : ByteArray) (t ag : Int) (w : World) (h1 : impl_isFilter.f s t = some true) (h2 : impl_within.f ag 0 1 = some true) :
    Calls Tryd.prog 19 #[.string s, .int .i64 t, .int .i64 ag] w fun e w' => e = .returned (.tuple #[.string (strOfNums (lvs (fun i => decide (shot1 s t ag (shotL s t ag i) i > 0)) s.size)), .bool true]) ∧ Below w.heap.size w w' := by
  have Hh1 := Aside0.mk h1
  have Hh2 := Aside0.mk h2
  clear h1 h2
  have HB := Aside0.mk (Below.refl w.heap.size w)
  obtain ⟨hs, hL, ht1, ht2⟩ := isFilter_true Hh1.out
  have HCH : Aside0 (impl_changesTo.f 1000 s 49 = some (edg s 49 s.size)) := ⟨changes_eq 1000 s 49 (by omega) (by omega)⟩
  have HCO : Aside0 (∀ i : Nat, i < s.size → slices_Contains_int64_int64.f 1000 (edg s 49 s.size) i = some (isE s 49 i)) := ⟨fun i hi => edge_in 1000 s hs i hi (by omega)⟩
  have HRG : Aside0 (∀ i : Nat, 0 ≤ shotL s t ag i ∧ shotL s t ag i ≤ 50) := ⟨shotL_rng s t ag ht1 ht2⟩
  go_enter Tryd.func19, Tryd.ntmps19
  go_wp2_with (first
    | ((with_reducible refine gate_dst (N := 4) rfl ?_); refine box_event ?hg (N := 4) ?hd (cs := #[.int .i64 t]) (t := 2) ?hr ?_; (case hd => rfl); (case hg => rfl); (case hr => first | (go_simp; done) | (go_simp; rfl)); intro g4 hg wn hbox hb; have GE4 := Aside0.mk (by rw [hg]; exact below_size HB.out : w.heap.size ≤ g4); clear hg; have BK40 := Aside0.mk hbox; clear hbox; have n0_ := Aside0.mk (below_step HB.out hb); clear HB  hb; have HB := n0_; clear n0_ ; have BK4 := BK40; clear BK40; have c4_0 : wn.cell? ⟨g4, 0, none⟩ = some (.int .i64 t) := (blk_cell BK4.out 0).trans rfl)
    | ((with_reducible refine gate_dst (N := 5) rfl ?_); refine box_event ?hg (N := 5) ?hd (cs := #[.int .i64 ag]) (t := 2) ?hr ?_; (case hd => rfl); (case hg => rfl); (case hr => first | (go_simp; done) | (go_simp; rfl)); intro g5 hg wn hbox hb; have GE5 := Aside0.mk (by rw [hg]; exact below_size HB.out : w.heap.size ≤ g5); have NE4_5 := Aside0.mk (show g4 ≠ g5 by have := blk_lt BK4.out; omega); clear hg; have BK50 := Aside0.mk hbox; clear hbox; have n0_ := Aside0.mk (below_step HB.out hb); have m4_ := Aside0.mk (blk_below BK4.out hb); clear HB BK4 hb; have HB := n0_; have BK4 := m4_; clear n0_ m4_; have c4_0 : wn.cell? ⟨g4, 0, none⟩ = some (.int .i64 t) := (blk_cell BK4.out 0).trans rfl; have BK5 := BK50; clear BK50; have c5_0 : wn.cell? ⟨g5, 0, none⟩ = some (.int .i64 ag) := (blk_cell BK5.out 0).trans rfl)
    | (go_at_call 42; (with_reducible refine (impl_isFilter.calls s t true _ Hh1.out).mono ?_); rintro e wn ⟨rfl, hb0⟩; (first | have hb := to_below_d hb0 | have hb := to_below_b hb0); clear hb0; have n0_ := Aside0.mk (below_step HB.out hb); have m4_ := Aside0.mk (blk_below BK4.out hb); have m5_ := Aside0.mk (blk_below BK5.out hb); clear HB BK4 BK5 hb; have HB := n0_; have BK4 := m4_; have BK5 := m5_; clear n0_ m4_ m5_; have c4_0 : wn.cell? ⟨g4, 0, none⟩ = some (.int .i64 t) := (blk_cell BK4.out 0).trans rfl; have c5_0 : wn.cell? ⟨g5, 0, none⟩ = some (.int .i64 ag) := (blk_cell BK5.out 0).trans rfl)
    | (go_at_call 47; (with_reducible refine (impl_within.calls ag 0 1 true _ Hh2.out).mono ?_); rintro e wn ⟨rfl, hb0⟩; (first | have hb := to_below_d hb0 | have hb := to_below_b hb0); clear hb0; have n0_ := Aside0.mk (below_step HB.out hb); have m4_ := Aside0.mk (blk_below BK4.out hb); have m5_ := Aside0.mk (blk_below BK5.out hb); clear HB BK4 BK5 hb; have HB := n0_; have BK4 := m4_; have BK5 := m5_; clear n0_ m4_ m5_; have c4_0 : wn.cell? ⟨g4, 0, none⟩ = some (.int .i64 t) := (blk_cell BK4.out 0).trans rfl; have c5_0 : wn.cell? ⟨g5, 0, none⟩ = some (.int .i64 ag) := (blk_cell BK5.out 0).trans rfl)
    | (go_at_call 48; (with_reducible refine (impl_changesTo.calls 1000 s 49 (edg s 49 s.size) _ HCH.out).mono ?_); rintro e wn ⟨v1, rfl, ho0, hb⟩; have ho1 := Kd.R_mono (ok' := fun k => k < wn.heap.size) (Kd.R_bound (Kd.R_lower ho0 (below_size HB.out))) (fun _ hk => hk.2.2.1); clear ho0; obtain ⟨M, hM⟩ : ∃ M, M = wn.heap.size := ⟨_, rfl⟩; rw [← hM] at ho1; have HM := Aside0.mk (Nat.le_of_eq hM); clear hM; obtain ⟨Ao, co, eo⟩ := Kd.R_slice ho1; subst eo; have HO := Aside0.mk ho1; clear ho1; have n0_ := Aside0.mk (below_step HB.out hb); have m4_ := Aside0.mk (blk_below BK4.out hb); have m5_ := Aside0.mk (blk_below BK5.out hb); clear HB BK4 BK5 hb; have HB := n0_; have BK4 := m4_; have BK5 := m5_; clear n0_ m4_ m5_; have c4_0 : wn.cell? ⟨g4, 0, none⟩ = some (.int .i64 t) := (blk_cell BK4.out 0).trans rfl; have c5_0 : wn.cell? ⟨g5, 0, none⟩ = some (.int .i64 ag) := (blk_cell BK5.out 0).trans rfl)
    | ((with_reducible refine gate_dst (N := 8) rfl ?_); refine box_event ?hg (N := 8) ?hd (cs := #[.slice none 0 0]) (t := 29) ?hr ?_; (case hd => rfl); (case hg => rfl); (case hr => first | (go_simp; done) | (go_simp; rfl)); intro g8 hg wn hbox hb; have GM8 := Aside0.mk (show M ≤ g8 by rw [hg]; exact HM.out); have GE8 := Aside0.mk (by rw [hg]; exact below_size HB.out : w.heap.size ≤ g8); have NE4_8 := Aside0.mk (show g4 ≠ g8 by have := blk_lt BK4.out; omega); have NE5_8 := Aside0.mk (show g5 ≠ g8 by have := blk_lt BK5.out; omega); clear hg; have BK80 := Aside0.mk hbox; clear hbox; have o_ := Aside0.mk (Kd.R_below HO.out hb); have o2_ := Aside0.mk (Nat.le_trans HM.out hb.size); clear HO HM; have HO := o_; have HM := o2_; clear o_ o2_; have n0_ := Aside0.mk (below_step HB.out hb); have m4_ := Aside0.mk (blk_below BK4.out hb); have m5_ := Aside0.mk (blk_below BK5.out hb); clear HB BK4 BK5 hb; have HB := n0_; have BK4 := m4_; have BK5 := m5_; clear n0_ m4_ m5_; have c4_0 : wn.cell? ⟨g4, 0, none⟩ = some (.int .i64 t) := (blk_cell BK4.out 0).trans rfl; have c5_0 : wn.cell? ⟨g5, 0, none⟩ = some (.int .i64 ag) := (blk_cell BK5.out 0).trans rfl; have BK8 := BK80; clear BK80; have c8_0 : wn.cell? ⟨g8, 0, none⟩ = some (.slice none 0 0) := (blk_cell BK8.out 0).trans rfl)
    | ((with_reducible refine gate_dst (N := 9) rfl ?_); refine box_event ?hg (N := 9) ?hd (cs := #[.int .i64 0]) (t := 2) ?hr ?_; (case hd => rfl); (case hg => rfl); (case hr => first | (go_simp; done) | (go_simp; rfl)); intro g9 hg wn hbox hb; have GM9 := Aside0.mk (show M ≤ g9 by rw [hg]; exact HM.out); have GE9 := Aside0.mk (by rw [hg]; exact below_size HB.out : w.heap.size ≤ g9); have NE4_9 := Aside0.mk (show g4 ≠ g9 by have := blk_lt BK4.out; omega); have NE5_9 := Aside0.mk (show g5 ≠ g9 by have := blk_lt BK5.out; omega); have NE8_9 := Aside0.mk (show g8 ≠ g9 by have := blk_lt BK8.out; omega); clear hg; have BK90 := Aside0.mk hbox; clear hbox; have o_ := Aside0.mk (Kd.R_below HO.out hb); have o2_ := Aside0.mk (Nat.le_trans HM.out hb.size); clear HO HM; have HO := o_; have HM := o2_; clear o_ o2_; have n0_ := Aside0.mk (below_step HB.out hb); have m4_ := Aside0.mk (blk_below BK4.out hb); have m5_ := Aside0.mk (blk_below BK5.out hb); have m8_ := Aside0.mk (blk_below BK8.out hb); clear HB BK4 BK5 BK8 hb; have HB := n0_; have BK4 := m4_; have BK5 := m5_; have BK8 := m8_; clear n0_ m4_ m5_ m8_; have c4_0 : wn.cell? ⟨g4, 0, none⟩ = some (.int .i64 t) := (blk_cell BK4.out 0).trans rfl; have c5_0 : wn.cell? ⟨g5, 0, none⟩ = some (.int .i64 ag) := (blk_cell BK5.out 0).trans rfl; have c8_0 : wn.cell? ⟨g8, 0, none⟩ = some (.slice none 0 0) := (blk_cell BK8.out 0).trans rfl; have BK9 := BK90; clear BK90; have c9_0 : wn.cell? ⟨g9, 0, none⟩ = some (.int .i64 0) := (blk_cell BK9.out 0).trans rfl; have z8_0 := blk_frozen BK8.out 0; have z9_0 := blk_frozen BK9.out 0; have c9s : ∀ v, (wn.setCell ⟨g8, 0, none⟩ v).cell? ⟨g9, 0, none⟩ = some (.int .i64 0) := fun v => (blk_cell (blk_far BK9.out (p := ⟨g8, 0, none⟩) (Ne.symm NE8_9.out) v) 0).trans rfl; have z9s : ∀ v, (wn.setCell ⟨g8, 0, none⟩ v).frozen? ⟨g9, 0, none⟩ = false := fun v => blk_frozen (blk_far BK9.out (p := ⟨g8, 0, none⟩) (Ne.symm NE8_9.out) v) 0)
    | (go_at_call 49; have p4 := blk_far (blk_far BK4.out (p := ⟨g8, 0, none⟩) NE4_8.out (.slice Ao (edg s 49 s.size).length co)) (p := ⟨g9, 0, none⟩) NE4_9.out (.int .i64 0); have p5 := blk_far (blk_far BK5.out (p := ⟨g8, 0, none⟩) NE5_8.out (.slice Ao (edg s 49 s.size).length co)) (p := ⟨g9, 0, none⟩) NE5_9.out (.int .i64 0); have p8 := blk_far (blk_put BK8.out 0 (.slice Ao (edg s 49 s.size).length co) (cs' := #[.slice Ao (edg s 49 s.size).length co]) rfl) (p := ⟨g9, 0, none⟩) NE8_9.out (.int .i64 0); have p9 := blk_put (blk_far BK9.out (p := ⟨g8, 0, none⟩) (Ne.symm NE8_9.out) (.slice Ao (edg s 49 s.size).length co)) 0 (.int .i64 0) (cs' := #[.int .i64 (shotL s t ag 0)]) rfl; have pb := below_set (j := 0) (v := .int .i64 0) (below_set (j := 0) (v := .slice Ao (edg s 49 s.size).length co) HB.out GE8.out) GE9.out; have pr := Kd.R_far (p := ⟨g9, 0, none⟩) (Kd.R_far (p := ⟨g8, 0, none⟩) HO.out (fun k hk => Nat.ne_of_lt (Nat.lt_of_lt_of_le hk GM8.out)) (.slice Ao (edg s 49 s.size).length co)) (fun k hk => Nat.ne_of_lt (Nat.lt_of_lt_of_le hk GM9.out)) (.int .i64 0); (with_reducible refine (waveOf_any s.size (by omega) 50 Tryd.f50 #[.pointer (some ⟨g8, 0, none⟩), .pointer (some ⟨g5, 0, none⟩), .pointer (some ⟨g9, 0, none⟩), .pointer (some ⟨g4, 0, none⟩)] (fun i => decide (shot1 s t ag (shotL s t ag i) i > 0)) (fun i W => W.heap[g4]? = some (.cells #[.int .i64 t] 2 (0, 0)) ∧ W.heap[g5]? = some (.cells #[.int .i64 ag] 2 (0, 0)) ∧ W.heap[g8]? = some (.cells #[.slice Ao (edg s 49 s.size).length co] 29 (0, 0)) ∧ W.heap[g9]? = some (.cells #[.int .i64 (shotL s t ag i)] 2 (0, 0)) ∧ Kd.R (Kd.int .i64) 2 W w.heap.size (fun k => k < M) (.slice Ao (edg s 49 s.size).length co) (edg s 49 s.size)) w.heap.size ((· = g9)) _ Tryd.func50 rfl (by kernel_rfl) ⟨p4, p5, p8, p9, pr⟩ (below_size pb) (by rintro _ rfl; exact blk_lt p9) ?st ?cl).mono ?_); (case st => exact fun i wa wb hI hs => ⟨(hs g4 (blk_lt p4)).trans hI.1, (hs g5 (blk_lt p5)).trans hI.2.1, (hs g8 (blk_lt p8)).trans hI.2.2.1, (hs g9 (blk_lt p9)).trans hI.2.2.2.1, Kd.R_step hI.2.2.2.2 (fun k hk _ => hs k (Nat.lt_trans (Nat.lt_of_lt_of_le hk GM9.out) (blk_lt p9)))⟩); (case cl => exact fun i hi wr hI hsz => (ShotClo (edg s 49 s.size) Ao co ag t (shotL s t ag i) i 1000 (isE s 49 i) g8 g5 g9 g4 w.heap.size wr hI.2.2.1 hI.2.1 hI.2.2.2.1 hI.1 NE5_9.out NE4_9.out (Kd.R_reads' hI.2.2.2.2).2.2 (Kd.R_reads' hI.2.2.2.2).2.1 (HCO.out i hi) (HRG.out i).1 (by have := (HRG.out i).2; omega) ht1 (by omega) GE9.out (shot1 s t ag (shotL s t ag i) i) (shotL s t ag (i + 1)) rfl rfl).mono fun e w' ⟨h1, h3, h4, h5⟩ => ⟨h1, ⟨blk_kept hI.1 h5 NE4_9.out, blk_kept hI.2.1 h5 NE5_9.out, blk_kept hI.2.2.1 h5 NE8_9.out, h3, Kd.R_kept hI.2.2.2.2 h5 (fun k hk he => Nat.ne_of_lt (Nat.lt_of_lt_of_le hk GM9.out) he)⟩, h4, h5⟩); rintro e wn ⟨rfl, hI, hb, hk⟩; have n0_ := Aside0.mk (pb.trans hb); clear HB hb hI hk; have HB := n0_; clear n0_))
  go_ret2
  exact ⟨rfl, HB.out⟩
def impl_OneShot.f (a0 : ByteArray) (a1 : Int) (a2 : Int) : Option (ByteArray × Bool) :=
  (impl_isFilter.f a0 a1).bind fun t => if t = true then (impl_within.f a2 0 1).bind fun u => if u = true then some (strOfNums (lvs (fun i => decide (shot1 a0 a1 a2 (shotL a0 a1 a2 i) i > 0)) a0.size), true) else some (⟨#[]⟩, false) else some (⟨#[]⟩, false)
theorem impl_OneShot.calls (a0 : ByteArray) (a1 : Int) (a2 : Int) (r1 : ByteArray) (r2 : Bool) (w : World) (h : impl_OneShot.f a0 a1 a2 = some (r1, r2)) :
    Calls Tryd.prog 19 #[.string a0, .int .i64 a1, .int .i64 a2] w fun e w' => e = .returned (.tuple #[.string r1, .bool r2]) ∧ Below w.heap.size w w' := by
  unfold impl_OneShot.f at h
  obtain ⟨t, ht, h⟩ := Option.bind_eq_some_iff.mp h
  cases t with
  | false =>
    rw [if_neg (by simp)] at h
    simp only [Option.some.injEq, Prod.mk.injEq] at h
    obtain ⟨rfl, rfl⟩ := h
    exact OneShot_no1 a0 a1 a2 w ht
  | true =>
    rw [if_pos rfl] at h
    obtain ⟨u, hu, h⟩ := Option.bind_eq_some_iff.mp h
    cases u with
    | false =>
      rw [if_neg (by simp)] at h
      simp only [Option.some.injEq, Prod.mk.injEq] at h
      obtain ⟨rfl, rfl⟩ := h
      exact OneShot_no2 a0 a1 a2 w ht hu
    | true =>
      rw [if_pos rfl] at h
      simp only [Option.some.injEq, Prod.mk.injEq] at h
      obtain ⟨rfl, rfl⟩ := h
      exact OneShot_yes a0 a1 a2 w ht hu
end Go.Proofs.YtcpfkfaiakpfjaaDoor.X

-- Written by a program of this session out of the kit's print of the loaded functions: a plain function of a Go function, and its contract.
namespace Go.Proofs.YtcpfkfaiakpfjaaDoor.X
open Go.RowKit Go.Proofs.YtcpfkfaiakpfjaaDoorW.PrintWords Go.Proofs.YtcpfkfaiakpfjaaDoorW.PrintLast Go.Proofs.YtcpfkfaiakpfjaaDoorW.PrintMore
attribute [local go_sem] max2_int min2_int max_two min_two max_three min_three max_four min_four   -- for this text's walks alone
set_option linter.unusedVariables false
set_option linter.unusedSimpArgs false

/-! ### laws_FnExactOneShot: function 5 -/
def laws_FnExactOneShot.f (k : Nat) (a0 : ByteArray) (a1 : Int) (a2 : Int) : Option (Bool) := if (a0.size : Int) > 1048576 then (some true) else ((spec_OneShot.f k a0 a1 a2).bind fun bt313 => ((impl_OneShot.f a0 a1 a2).bind fun bt315 => (if bt315.1.toList = bt313.1.toList then (if (bt315.2 != bt313.2) = true then (some false) else (some true)) else (some false))))
theorem laws_FnExactOneShot.mono : ∀ a0 a1 a2 k, LeO (laws_FnExactOneShot.f k a0 a1 a2) (laws_FnExactOneShot.f (k + 1) a0 a1 a2) := by
  intro a0 a1 a2 k
  unfold laws_FnExactOneShot.f
  repeat' first
      | (with_reducible exact spec_OneShot.mono _ _ _ _)
      | (with_reducible exact LeO.refl _)
      | (with_reducible exact LeO.none _)
      | (with_reducible refine LeO.ite ?_ ?_)
      | (with_reducible refine LeO.bind ?_ (fun _ => ?_))
      | exact spec_OneShot.mono _ _ _ _
      | exact LeO.none _
      | refine LeO.ite ?_ ?_
      | refine LeO.bind ?_ (fun _ => ?_)
set_option maxHeartbeats 8000000 in
set_option maxRecDepth 100000 in
theorem laws_FnExactOneShot.calls (k : Nat) (a0 : ByteArray) (a1 : Int) (a2 : Int) (r : Bool) (w : World) (h : laws_FnExactOneShot.f k a0 a1 a2 = some r) :
    Calls Tryd.prog 5 #[.string a0, .int .i64 a1, .int .i64 a2] w fun e w' => e = .returned (.bool r) ∧ Below w.heap.size w w' := by
  have HB := Aside0.mk (Below.refl w.heap.size w)
  have H : (if (a0.size : Int) > 1048576 then (some true) else ((spec_OneShot.f k a0 a1 a2).bind fun bt313 => ((impl_OneShot.f a0 a1 a2).bind fun bt315 => (if bt315.1.toList = bt313.1.toList then (if (bt315.2 != bt313.2) = true then (some false) else (some true)) else (some false))))) = some r := h
  clear h
  by_cases c4 : (a0.size : Int) > 1048576
  · rw [if_pos c4] at H
    have c4b0 : decide (1048576 < (a0.size : Int)) = true := decide_eq_true c4
    have c4b1 : decide (1048576 < a0.size) = true := decide_eq_true (by omega)
    clear c4
    obtain rfl := Option.some.inj H
    go_enter Tryd.func5, Tryd.ntmps5
    go_wp2
    go_ret
    exact ⟨by first | rfl | (simp [errW_none, errW_some] <;> rfl) | (simp [*, errW_none, errW_some] <;> rfl), by repeat (first | (with_reducible first | exact HB.out | apply below_alloc | apply pw_below_drewN | apply below_drew1) | exact HB.out)⟩
  · rw [if_neg c4] at H
    have c4b0 : decide (1048576 < (a0.size : Int)) = false := decide_eq_false c4
    have c4b1 : decide (1048576 < a0.size) = false := decide_eq_false (by omega)
    clear c4
    replace H := Option.bind_eq_some_iff.mp H
    obtain ⟨⟨t313, t314⟩, A50, H⟩ := H
    replace H : ((impl_OneShot.f a0 a1 a2).bind fun bt315 => (if bt315.1.toList = t313.toList then (if (bt315.2 != t314) = true then (some false) else (some true)) else (some false))) = some r := H
    have A5 := Aside0.mk A50
    clear A50
    replace H := Option.bind_eq_some_iff.mp H
    obtain ⟨⟨t315, t316⟩, A60, H⟩ := H
    replace H : (if t315.toList = t313.toList then (if (t316 != t314) = true then (some false) else (some true)) else (some false)) = some r := H
    have A6 := Aside0.mk A60
    clear A60
    by_cases c7 : t315.toList = t313.toList
    · rw [if_pos c7] at H
      have c7b0 : (t315.toList == t313.toList) = true := beq_iff_eq.mpr c7
      have c7b1 : (t315.toList != t313.toList) = false := bne_eq_false_iff_eq.mpr c7
      clear c7
      by_cases c8 : (t316 != t314) = true
      · rw [if_pos c8] at H
        have c8b0 : (t316 != t314) = true := c8
        (try (have c8b1 : decide (t316 = t314) = false := by simpa using c8))
        (try (have c8b2 : (t316 == t314) = false := by simpa using c8))
        (try (have c8b3 : ¬ (t316 = t314) := by simpa using c8))
        clear c8
        obtain rfl := Option.some.inj H
        go_enter Tryd.func5, Tryd.ntmps5
        go_wp2_with (first | ((with_reducible refine gate_callee (f := 18) rfl ?_); refine goesL_ (some 18) rfl rfl Tryd.func18 (by kernel_rfl) rfl #[.string a0, .int .i64 a1, .int .i64 a2] rfl (by (try simp only [List.map_toArray, List.map_cons, List.map_nil]); first | done | rfl | (simp only [List.length_drop, List.length_take]; rfl)) ?_; (with_reducible refine (spec_OneShot.calls k a0 a1 a2 t313 t314 _ A5.out).mono ?_); rintro e w9 ⟨rfl, hb⟩; refine ⟨_, rfl, ?_⟩; have n0_ := Aside0.mk (below_step (by repeat (first | (with_reducible first | exact HB.out | apply below_alloc | apply pw_below_drewN | apply below_drew1) | exact HB.out)) hb); clear HB; have HB := n0_; clear n0_; (try clear hb); (try clear hb2); (try clear hk); (try clear hi)) | ((with_reducible refine gate_callee (f := 19) rfl ?_); refine goesL_ (some 25) rfl rfl Tryd.func19 (by kernel_rfl) rfl #[.string a0, .int .i64 a1, .int .i64 a2] rfl (by (try simp only [List.map_toArray, List.map_cons, List.map_nil]); first | done | rfl | (simp only [List.length_drop, List.length_take]; rfl)) ?_; (with_reducible refine (impl_OneShot.calls a0 a1 a2 t315 t316 _ A6.out).mono ?_); rintro e w10 ⟨rfl, hb⟩; refine ⟨_, rfl, ?_⟩; have n0_ := Aside0.mk (below_step (by repeat (first | (with_reducible first | exact HB.out | apply below_alloc | apply pw_below_drewN | apply below_drew1) | exact HB.out)) hb); clear HB; have HB := n0_; clear n0_; (try clear hb); (try clear hb2); (try clear hk); (try clear hi)))
        go_ret
        exact ⟨by first | rfl | (simp [errW_none, errW_some] <;> rfl) | (simp [*, errW_none, errW_some] <;> rfl), by repeat (first | (with_reducible first | exact HB.out | apply below_alloc | apply pw_below_drewN | apply below_drew1) | exact HB.out)⟩
      · rw [if_neg c8] at H
        have c8b0 : (t316 != t314) = false := by simpa using c8
        (try (have c8b1 : decide (t316 = t314) = true := by simpa using c8))
        (try (have c8b2 : (t316 == t314) = true := by simpa using c8))
        clear c8
        obtain rfl := Option.some.inj H
        go_enter Tryd.func5, Tryd.ntmps5
        go_wp2_with (first | ((with_reducible refine gate_callee (f := 18) rfl ?_); refine goesL_ (some 18) rfl rfl Tryd.func18 (by kernel_rfl) rfl #[.string a0, .int .i64 a1, .int .i64 a2] rfl (by (try simp only [List.map_toArray, List.map_cons, List.map_nil]); first | done | rfl | (simp only [List.length_drop, List.length_take]; rfl)) ?_; (with_reducible refine (spec_OneShot.calls k a0 a1 a2 t313 t314 _ A5.out).mono ?_); rintro e w11 ⟨rfl, hb⟩; refine ⟨_, rfl, ?_⟩; have n0_ := Aside0.mk (below_step (by repeat (first | (with_reducible first | exact HB.out | apply below_alloc | apply pw_below_drewN | apply below_drew1) | exact HB.out)) hb); clear HB; have HB := n0_; clear n0_; (try clear hb); (try clear hb2); (try clear hk); (try clear hi)) | ((with_reducible refine gate_callee (f := 19) rfl ?_); refine goesL_ (some 25) rfl rfl Tryd.func19 (by kernel_rfl) rfl #[.string a0, .int .i64 a1, .int .i64 a2] rfl (by (try simp only [List.map_toArray, List.map_cons, List.map_nil]); first | done | rfl | (simp only [List.length_drop, List.length_take]; rfl)) ?_; (with_reducible refine (impl_OneShot.calls a0 a1 a2 t315 t316 _ A6.out).mono ?_); rintro e w12 ⟨rfl, hb⟩; refine ⟨_, rfl, ?_⟩; have n0_ := Aside0.mk (below_step (by repeat (first | (with_reducible first | exact HB.out | apply below_alloc | apply pw_below_drewN | apply below_drew1) | exact HB.out)) hb); clear HB; have HB := n0_; clear n0_; (try clear hb); (try clear hb2); (try clear hk); (try clear hi)))
        go_ret
        exact ⟨by first | rfl | (simp [errW_none, errW_some] <;> rfl) | (simp [*, errW_none, errW_some] <;> rfl), by repeat (first | (with_reducible first | exact HB.out | apply below_alloc | apply pw_below_drewN | apply below_drew1) | exact HB.out)⟩
    · rw [if_neg c7] at H
      have c7b0 : (t315.toList == t313.toList) = false := beq_eq_false_iff_ne.mpr c7
      have c7b1 : (t315.toList != t313.toList) = true := bne_iff_ne.mpr c7
      obtain rfl := Option.some.inj H
      go_enter Tryd.func5, Tryd.ntmps5
      go_wp2_with (first | ((with_reducible refine gate_callee (f := 18) rfl ?_); refine goesL_ (some 18) rfl rfl Tryd.func18 (by kernel_rfl) rfl #[.string a0, .int .i64 a1, .int .i64 a2] rfl (by (try simp only [List.map_toArray, List.map_cons, List.map_nil]); first | done | rfl | (simp only [List.length_drop, List.length_take]; rfl)) ?_; (with_reducible refine (spec_OneShot.calls k a0 a1 a2 t313 t314 _ A5.out).mono ?_); rintro e w13 ⟨rfl, hb⟩; refine ⟨_, rfl, ?_⟩; have n0_ := Aside0.mk (below_step (by repeat (first | (with_reducible first | exact HB.out | apply below_alloc | apply pw_below_drewN | apply below_drew1) | exact HB.out)) hb); clear HB; have HB := n0_; clear n0_; (try clear hb); (try clear hb2); (try clear hk); (try clear hi)) | ((with_reducible refine gate_callee (f := 19) rfl ?_); refine goesL_ (some 25) rfl rfl Tryd.func19 (by kernel_rfl) rfl #[.string a0, .int .i64 a1, .int .i64 a2] rfl (by (try simp only [List.map_toArray, List.map_cons, List.map_nil]); first | done | rfl | (simp only [List.length_drop, List.length_take]; rfl)) ?_; (with_reducible refine (impl_OneShot.calls a0 a1 a2 t315 t316 _ A6.out).mono ?_); rintro e w14 ⟨rfl, hb⟩; refine ⟨_, rfl, ?_⟩; have n0_ := Aside0.mk (below_step (by repeat (first | (with_reducible first | exact HB.out | apply below_alloc | apply pw_below_drewN | apply below_drew1) | exact HB.out)) hb); clear HB; have HB := n0_; clear n0_; (try clear hb); (try clear hb2); (try clear hk); (try clear hi)))
      go_ret
      exact ⟨by first | rfl | (simp [errW_none, errW_some] <;> rfl) | (simp [*, errW_none, errW_some] <;> rfl), by repeat (first | (with_reducible first | exact HB.out | apply below_alloc | apply pw_below_drewN | apply below_drew1) | exact HB.out)⟩

/-- THE ONE PURE STATEMENT of laws_FnExactOneShot: yours. -/
def laws_FnExactOneShot.Pure : Prop := ∀ (a0 : ByteArray) (a1 : Int) (a2 : Int), a0.size ≤ 140737488351232 → (Lit.int .i64 a1).wf = true → (Lit.int .i64 a2).wf = true → ∃ k, laws_FnExactOneShot.f k a0 a1 a2 = some true
theorem laws_FnExactOneShot.walk (P : laws_FnExactOneShot.Pure) (a0 : ByteArray) (a1 : Int) (a2 : Int) (w : World) (w0 : a0.size ≤ 140737488351232) (w1 : (Lit.int .i64 a1).wf = true) (w2 : (Lit.int .i64 a2).wf = true) :
    Calls Tryd.prog 5 #[.string a0, .int .i64 a1, .int .i64 a2] w fun e w' => e = .returned (.bool true) ∧ Below w.heap.size w w' := by
  obtain ⟨k, h⟩ := P a0 a1 a2 w0 w1 w2
  refine (laws_FnExactOneShot.calls k a0 a1 a2 true w h).mono ?_
  rintro e w' ⟨rfl, hd⟩
  exact ⟨rfl, hd⟩

end Go.Proofs.YtcpfkfaiakpfjaaDoor.X

-- Written by a program of this session out of the kit's print of the loaded functions: a plain function of a Go function, and its contract.
namespace Go.Proofs.YtcpfkfaiakpfjaaDoor.X
open Go.RowKit Go.Proofs.YtcpfkfaiakpfjaaDoorW.PrintWords Go.Proofs.YtcpfkfaiakpfjaaDoorW.PrintLast Go.Proofs.YtcpfkfaiakpfjaaDoorW.PrintMore
attribute [local go_sem] max2_int min2_int max_two min_two max_three min_three max_four min_four   -- for this text's walks alone
set_option linter.unusedVariables false
set_option linter.unusedSimpArgs false

/-! ### spec_l01Ones: function 72 -/
def spec_l01Ones.l0 : Nat → ByteArray → Int → Int → Option (Int)
  | 0, _, _, _ => none
  | k + 1, x0, x3, x4 => if x4 < (x0.size : Int) then (if 0 ≤ x4 then (spec_l01Ones.l0 k x0 (wrap64 (x3 + (((bt x0 x4) - 48) % 256))) (wrap64 (x4 + 1))) else (none)) else (some x3)
def spec_l01Ones.f (k : Nat) (a0 : ByteArray) : Option (Int) := spec_l01Ones.l0 k a0 0 0
theorem spec_l01Ones.mono_l : ∀ k, (∀ y0 y1 y2, LeO (spec_l01Ones.l0 k y0 y1 y2) (spec_l01Ones.l0 (k + 1) y0 y1 y2))
  | 0 => fun _ _ _ r h => by simp [spec_l01Ones.l0] at h
  | k + 1 => by
    have ih0 := spec_l01Ones.mono_l k
    · intro y0 y1 y2
      unfold spec_l01Ones.l0
      repeat' first
      | (with_reducible exact ih0 _ _ _)
      | (with_reducible exact LeO.refl _)
      | (with_reducible exact LeO.none _)
      | (with_reducible refine LeO.ite ?_ ?_)
      | (with_reducible refine LeO.bind ?_ (fun _ => ?_))
      | exact ih0 _ _ _
      | exact LeO.none _
      | refine LeO.ite ?_ ?_
      | refine LeO.bind ?_ (fun _ => ?_)
theorem spec_l01Ones.mono : ∀ a0 k, LeO (spec_l01Ones.f k a0) (spec_l01Ones.f (k + 1) a0) := by
  intro a0 k
  have ih0 := spec_l01Ones.mono_l k
  unfold spec_l01Ones.f
  repeat' first
      | (with_reducible exact ih0 _ _ _)
      | (with_reducible exact LeO.refl _)
      | (with_reducible exact LeO.none _)
      | (with_reducible refine LeO.ite ?_ ?_)
      | (with_reducible refine LeO.bind ?_ (fun _ => ?_))
      | exact ih0 _ _ _
      | exact LeO.none _
      | refine LeO.ite ?_ ?_
      | refine LeO.bind ?_ (fun _ => ?_)
set_option maxHeartbeats 8000000 in
set_option maxRecDepth 100000 in
theorem spec_l01Ones.calls (k : Nat) (a0 : ByteArray) (r : Int) (w : World) (h : spec_l01Ones.f k a0 = some r) :
    Calls Tryd.prog 72 #[.string a0] w fun e w' => e = .returned (.int .i64 r) ∧ Drawn0 w w' := by
  have H : (spec_l01Ones.l0 k a0 0 0) = some r := h
  clear h
  have H' := Aside0.mk H
  clear H
  go_enter Tryd.func72, Tryd.ntmps72
  go_wp2
  go_loopg [3, 4] k (fun kq v3 v4 w' => ∃ (x3_1 : Int) (x4_1 : Int), v3 = .int .i64 x3_1 ∧ v4 = .int .i64 x4_1 ∧ Aside0 (spec_l01Ones.l0 kq a0 x3_1 x4_1 = some r) ∧ Aside0 (kq ≤ k) ∧ Drawn0 w w')
  case atStart => exact ⟨(0), (0), (by first | rfl | (simp; done) | (simp [*]; done)), (by first | rfl | (simp; done) | (simp [*]; done)), H', ⟨Nat.le_refl _⟩, by repeat (first | exact Drawn0.refl _ | apply Drawn0.step)⟩
  case round =>
    clear H'
    obtain ⟨x3_1, x4_1, rfl, rfl, HA, HK1, ⟨m1, rfl⟩⟩ := hrel
    cases gk with
    | zero => exact absurd HA.out (by simp [spec_l01Ones.l0])
    | succ k1 =>
      have H := HA.out
      clear HA
      simp only [spec_l01Ones.l0] at H
      by_cases c2 : x4_1 < (a0.size : Int)
      · rw [if_pos c2] at H
        have c2b0 : decide (x4_1 < (a0.size : Int)) = true := decide_eq_true c2
        clear c2
        by_cases c3 : 0 ≤ x4_1
        · rw [if_pos c3] at H
          have c3b0 : decide (0 ≤ x4_1) = true := decide_eq_true c3
          clear c3
          have H' := Aside0.mk H
          clear H
          have p4 : 0 ≤ (x4_1 : Int) := of_decide_eq_true (by first | (with_reducible assumption) | assumption)
          have q4 : x4_1 < (a0.size : Int) := of_decide_eq_true (by first | (with_reducible assumption) | assumption)
          have hx4 := bt_at a0 x4_1
          replace p4 := eq_true p4
          replace q4 := eq_true q4
          go_wp2
          go_roundg k1
          case measure => have := HK1.out; omega
          case rel => exact ⟨(wrap64 (x3_1 + (((bt a0 x4_1) - 48) % 256))), (wrap64 (x4_1 + 1)), (by first | rfl | (simp; done) | (simp [*]; done)), (by first | rfl | (simp; done) | (simp [*]; done)), H', ⟨by have := HK1.out; omega⟩, by repeat (first | exact Drawn0.refl _ | apply Drawn0.step)⟩
        · rw [if_neg c3] at H
          exact absurd H (by simp)
      · rw [if_neg c2] at H
        have c2b0 : decide (x4_1 < (a0.size : Int)) = false := decide_eq_false c2
        clear c2
        obtain rfl := Option.some.inj H
        go_wp2
        go_ret
        exact ⟨by first | rfl | (simp; done) | (simp [*]; done), by repeat (first | exact Drawn0.refl _ | apply Drawn0.step)⟩

end Go.Proofs.YtcpfkfaiakpfjaaDoor.X

-- Written by a program of this session out of the kit's print of the loaded functions: a plain function of a Go function, and its contract.
namespace Go.Proofs.YtcpfkfaiakpfjaaDoor.X
open Go.RowKit Go.Proofs.YtcpfkfaiakpfjaaDoorW.PrintWords Go.Proofs.YtcpfkfaiakpfjaaDoorW.PrintLast Go.Proofs.YtcpfkfaiakpfjaaDoorW.PrintMore
attribute [local go_sem] max2_int min2_int max_two min_two max_three min_three max_four min_four   -- for this text's walks alone
set_option linter.unusedVariables false
set_option linter.unusedSimpArgs false

/-! ### spec_l09Last: function 59 -/
def spec_l09Last.f (k : Nat) (a0 : ByteArray) (a1 : Int) (a2 : Int) : Option (Int) := (spec_l00Max.f 0 (wrap64 ((wrap64 (a1 + 1)) - a2))).bind fun t317 => (if 0 ≤ t317 then (if t317 ≤ (wrap64 (a1 + 1)) then (if (wrap64 (a1 + 1)) ≤ (a0.size : Int) then ((spec_l01Ones.f k (a0.extract (t317 : Int).toNat ((wrap64 (a1 + 1)) : Int).toNat)).bind fun t318 => (some t318)) else (none)) else (none)) else (none))
theorem spec_l09Last.mono : ∀ a0 a1 a2 k, LeO (spec_l09Last.f k a0 a1 a2) (spec_l09Last.f (k + 1) a0 a1 a2) := by
  intro a0 a1 a2 k
  unfold spec_l09Last.f
  repeat' first
      | (with_reducible exact spec_l01Ones.mono _ _)
      | (with_reducible exact LeO.refl _)
      | (with_reducible exact LeO.none _)
      | (with_reducible refine LeO.ite ?_ ?_)
      | (with_reducible refine LeO.bind ?_ (fun _ => ?_))
      | exact spec_l01Ones.mono _ _
      | exact LeO.none _
      | refine LeO.ite ?_ ?_
      | refine LeO.bind ?_ (fun _ => ?_)
set_option maxHeartbeats 8000000 in
set_option maxRecDepth 100000 in
theorem spec_l09Last.calls (k : Nat) (a0 : ByteArray) (a1 : Int) (a2 : Int) (r : Int) (w : World) (h : spec_l09Last.f k a0 a1 a2 = some r) :
    Calls Tryd.prog 59 #[.string a0, .int .i64 a1, .int .i64 a2] w fun e w' => e = .returned (.int .i64 r) ∧ Drawn0 w w' := by
  have H : ((spec_l00Max.f 0 (wrap64 ((wrap64 (a1 + 1)) - a2))).bind fun t317 => (if 0 ≤ t317 then (if t317 ≤ (wrap64 (a1 + 1)) then (if (wrap64 (a1 + 1)) ≤ (a0.size : Int) then ((spec_l01Ones.f k (a0.extract (t317 : Int).toNat ((wrap64 (a1 + 1)) : Int).toNat)).bind fun t318 => (some t318)) else (none)) else (none)) else (none))) = some r := h
  clear h
  replace H := Option.bind_eq_some_iff.mp H
  obtain ⟨t317, A40, H⟩ := H
  replace H : (if 0 ≤ t317 then (if t317 ≤ (wrap64 (a1 + 1)) then (if (wrap64 (a1 + 1)) ≤ (a0.size : Int) then ((spec_l01Ones.f k (a0.extract (t317 : Int).toNat ((wrap64 (a1 + 1)) : Int).toNat)).bind fun t318 => (some t318)) else (none)) else (none)) else (none)) = some r := H
  have A4 := Aside0.mk A40
  clear A40
  by_cases c5 : 0 ≤ t317
  · rw [if_pos c5] at H
    have c5b0 := eq_true c5
    have c5b1 : decide (0 ≤ t317) = true := decide_eq_true c5
    clear c5
    by_cases c6 : t317 ≤ (wrap64 (a1 + 1))
    · rw [if_pos c6] at H
      have c6b0 := eq_true c6
      have c6b1 : decide (t317 ≤ (wrap64 (a1 + 1))) = true := decide_eq_true c6
      by_cases c7 : (wrap64 (a1 + 1)) ≤ (a0.size : Int)
      · rw [if_pos c7] at H
        have c7b0 := eq_true c7
        have c7b1 : decide ((wrap64 (a1 + 1)) ≤ (a0.size : Int)) = true := decide_eq_true c7
        replace H := Option.bind_eq_some_iff.mp H
        obtain ⟨t318, A80, H⟩ := H
        replace H : (some t318) = some r := H
        have A8 := Aside0.mk A80
        clear A80
        obtain rfl := Option.some.inj H
        go_enter Tryd.func59, Tryd.ntmps59
        go_wp2_with (first | ((with_reducible refine gate_callee (f := 46) rfl ?_); refine goesL_ (some 12) rfl rfl Tryd.func46 (by kernel_rfl) rfl #[.int .i64 0, .int .i64 (wrap64 ((wrap64 (a1 + 1)) - a2))] rfl (by (try simp only [List.map_toArray, List.map_cons, List.map_nil]); first | done | rfl | (simp only [List.length_drop, List.length_take]; rfl)) ?_; (with_reducible refine (spec_l00Max.calls 0 (wrap64 ((wrap64 (a1 + 1)) - a2)) t317 _ A4.out).mono ?_); rintro e w' ⟨rfl, ⟨nd, rfl⟩⟩; refine ⟨_, rfl, ?_⟩) | ((with_reducible refine gate_callee (f := 72) rfl ?_); refine goesL_ (some 18) rfl rfl Tryd.func72 (by kernel_rfl) rfl #[.string (a0.extract (t317 : Int).toNat ((wrap64 (a1 + 1)) : Int).toNat)] rfl (by (try simp only [List.map_toArray, List.map_cons, List.map_nil]); first | done | rfl | (simp only [List.length_drop, List.length_take]; rfl)) ?_; (with_reducible refine (spec_l01Ones.calls k (a0.extract (t317 : Int).toNat ((wrap64 (a1 + 1)) : Int).toNat) t318 _ A8.out).mono ?_); rintro e w' ⟨rfl, ⟨nd, rfl⟩⟩; refine ⟨_, rfl, ?_⟩))
        go_ret
        exact ⟨by first | rfl | (simp; done) | (simp [*]; done), by repeat (first | exact Drawn0.refl _ | apply Drawn0.step)⟩
      · rw [if_neg c7] at H
        exact absurd H (by simp)
    · rw [if_neg c6] at H
      exact absurd H (by simp)
  · rw [if_neg c5] at H
    exact absurd H (by simp)

end Go.Proofs.YtcpfkfaiakpfjaaDoor.X

-- Written by a program of this session out of the kit's print of the loaded functions: a plain function of a Go function, and its contract.
namespace Go.Proofs.YtcpfkfaiakpfjaaDoor.X
open Go.RowKit Go.Proofs.YtcpfkfaiakpfjaaDoorW.PrintWords Go.Proofs.YtcpfkfaiakpfjaaDoorW.PrintLast Go.Proofs.YtcpfkfaiakpfjaaDoorW.PrintMore
attribute [local go_sem] max2_int min2_int max_two min_two max_three min_three max_four min_four   -- for this text's walks alone
set_option linter.unusedVariables false
set_option linter.unusedSimpArgs false

/-! ### spec_StretchPulses: function 34 -/
def spec_StretchPulses.l0 : Nat → ByteArray → Int → List Int → Int → Option (ByteArray × Bool)
  | 0, _, _, _, _ => none
  | k + 1, x0, x1, x6, x7 => if x7 < (x0.size : Int) then ((spec_l09Last.f k x0 x7 x1).bind fun t323 => ((spec_l07Level.f (decide (t323 > 0))).bind fun t324 => (if x6.length < 140737488355328 then (spec_StretchPulses.l0 k x0 x1 (x6 ++ [t324]) (wrap64 (x7 + 1))) else (none)))) else (some (strOfNums x6, true))
def spec_StretchPulses.f (k : Nat) (a0 : ByteArray) (a1 : Int) : Option (ByteArray × Bool) := (spec_l09Filter.f k a0 a1).bind fun t319 => (if t319 = true then (spec_StretchPulses.l0 k a0 a1 (([] : List Int)) 0) else (some ((⟨#[]⟩ : ByteArray), false)))
theorem spec_StretchPulses.mono_l : ∀ k, (∀ y0 y1 y2 y3, LeO (spec_StretchPulses.l0 k y0 y1 y2 y3) (spec_StretchPulses.l0 (k + 1) y0 y1 y2 y3))
  | 0 => fun _ _ _ _ r h => by simp [spec_StretchPulses.l0] at h
  | k + 1 => by
    have ih0 := spec_StretchPulses.mono_l k
    · intro y0 y1 y2 y3
      unfold spec_StretchPulses.l0
      repeat' first
      | (with_reducible exact ih0 _ _ _ _)
      | (with_reducible exact spec_l09Filter.mono _ _ _)
      | (with_reducible exact spec_l09Last.mono _ _ _ _)
      | (with_reducible exact LeO.refl _)
      | (with_reducible exact LeO.none _)
      | (with_reducible refine LeO.ite ?_ ?_)
      | (with_reducible refine LeO.bind ?_ (fun _ => ?_))
      | exact ih0 _ _ _ _
      | exact spec_l09Filter.mono _ _ _
      | exact spec_l09Last.mono _ _ _ _
      | exact LeO.none _
      | refine LeO.ite ?_ ?_
      | refine LeO.bind ?_ (fun _ => ?_)
theorem spec_StretchPulses.mono : ∀ a0 a1 k, LeO (spec_StretchPulses.f k a0 a1) (spec_StretchPulses.f (k + 1) a0 a1) := by
  intro a0 a1 k
  have ih0 := spec_StretchPulses.mono_l k
  unfold spec_StretchPulses.f
  repeat' first
      | (with_reducible exact ih0 _ _ _ _)
      | (with_reducible exact spec_l09Filter.mono _ _ _)
      | (with_reducible exact spec_l09Last.mono _ _ _ _)
      | (with_reducible exact LeO.refl _)
      | (with_reducible exact LeO.none _)
      | (with_reducible refine LeO.ite ?_ ?_)
      | (with_reducible refine LeO.bind ?_ (fun _ => ?_))
      | exact ih0 _ _ _ _
      | exact spec_l09Filter.mono _ _ _
      | exact spec_l09Last.mono _ _ _ _
      | exact LeO.none _
      | refine LeO.ite ?_ ?_
      | refine LeO.bind ?_ (fun _ => ?_)
set_option maxHeartbeats 8000000 in
set_option maxRecDepth 100000 in
theorem spec_StretchPulses.calls (k : Nat) (a0 : ByteArray) (a1 : Int) (r1 : ByteArray) (r2 : Bool) (w : World) (h : spec_StretchPulses.f k a0 a1 = some (r1, r2)) :
    Calls Tryd.prog 34 #[.string a0, .int .i64 a1] w fun e w' => e = .returned (.tuple #[.string r1, .bool r2]) ∧ Below w.heap.size w w' := by
  have HB := Aside0.mk (Below.refl w.heap.size w)
  have H : ((spec_l09Filter.f k a0 a1).bind fun t319 => (if t319 = true then (spec_StretchPulses.l0 k a0 a1 (([] : List Int)) 0) else (some ((⟨#[]⟩ : ByteArray), false)))) = some (r1, r2) := h
  clear h
  replace H := Option.bind_eq_some_iff.mp H
  obtain ⟨t319, A30, H⟩ := H
  replace H : (if t319 = true then (spec_StretchPulses.l0 k a0 a1 (([] : List Int)) 0) else (some ((⟨#[]⟩ : ByteArray), false))) = some (r1, r2) := H
  have A3 := Aside0.mk A30
  clear A30
  by_cases c4 : t319 = true
  · subst c4
    have H1 : (spec_StretchPulses.l0 k a0 a1 (([] : List Int)) 0) = some (r1, r2) := by rw [if_pos rfl] at H; exact H
    clear H
    have H := H1
    clear H1
    obtain ⟨y320, hy320⟩ : ∃ y_ : List Int, y_ = (([] : List Int)) := ⟨_, rfl⟩
    replace H : (spec_StretchPulses.l0 k a0 a1 y320 0) = some (r1, r2) := by first | (rw [hy320]; with_reducible exact H) | (have H2_ := (Option.bind_some _ _).symm.trans H; rw [hy320]; with_reducible exact H2_) | (have H2_ := (Option.bind_some _ _).symm.trans H; with_reducible exact H2_) | with_reducible exact H | (rw [hy320]; exact H) | exact H
    have Ny320 := Aside0.mk hy320
    clear hy320
    have H' := Aside0.mk H
    clear H
    go_enter Tryd.func34, Tryd.ntmps34
    go_wp2_with (first | ((with_reducible refine gate_callee (f := 40) rfl ?_); refine goesL_ (some 10) rfl rfl Tryd.func40 (by kernel_rfl) rfl #[.string a0, .int .i64 a1] rfl (by (try simp only [List.map_toArray, List.map_cons, List.map_nil]); first | done | rfl | (simp only [List.length_drop, List.length_take]; rfl)) ?_; (with_reducible refine (spec_l09Filter.calls k a0 a1 true _ A3.out).mono ?_); rintro e w' ⟨rfl, ⟨nd, rfl⟩⟩; refine ⟨_, rfl, ?_⟩) | ((with_reducible refine gate_dst (N := 12) rfl ?_); refine Kd.R_lit (Kd.int .u8) _ 5 ?hg (N := 12) ?hd (xs := ([] : List Int)) (inner := []) (ok := fun _ => True) (okp := fun _ => True) ?hr ?hp (fun _ hk => hk) trivial (Below.refl _ _) (Nat.le_refl _) (by simp) ?_; (case hd => rfl); (case hg => rfl); (case hr => first | (go_simp; done) | (go_simp; rfl)); (case hp => exact (Reps.none _ _)); intro v321 w5 ho6 hb hg_ hnew_; clear hg_ hnew_; (first | rw [← Ny320.out] at ho6 | (simp only [Int.reduceToNat] at ho6; rw [← Ny320.out] at ho6)); have n0_ := Aside0.mk (Kd.R_lower ho6 (below_size (by repeat (first | (with_reducible first | exact HB.out | apply below_alloc | apply pw_below_drewN | apply below_drew1) | exact HB.out)))); have n1_ := Aside0.mk (below_step (by repeat (first | (with_reducible first | exact HB.out | apply below_alloc | apply pw_below_drewN | apply below_drew1) | exact HB.out)) hb); clear HB; have HO322 := n0_; have HB := n1_; clear n0_ n1_; clear hb ho6))
    go_loopg [6, 7] k (fun kq v6 v7 w' => ∃ (x6_1 : List Int) (x7_1 : Int), v7 = .int .i64 x7_1 ∧ Aside0 (spec_StretchPulses.l0 kq a0 a1 x6_1 x7_1 = some (r1, r2)) ∧ Aside0 (kq ≤ k) ∧ Aside0 (Kd.R (Kd.int .u8) 5 w' w.heap.size (fun _ => True) v6 x6_1) ∧ Aside0 (Below w.heap.size w w'))
    case atStart => exact ⟨(y320), (0), (by first | rfl | (simp; done) | (simp [*]; done)), H', ⟨Nat.le_refl _⟩, ⟨by (with_reducible repeat (first | apply Kd.R_alloc | apply Kd.R_drewN | apply Kd.R_drew)); exact HO322.out⟩, ⟨by repeat (first | (with_reducible first | exact HB.out | apply below_alloc | apply pw_below_drewN | apply below_drew1) | exact HB.out)⟩⟩
    case round =>
      clear H'
      try clear p2
      try clear c3
      try clear c4
      obtain ⟨x6_1, x7_1, rfl, HA, HK1, HO_6, HB⟩ := hrel
      cases gk with
      | zero => exact absurd HA.out (by simp [spec_StretchPulses.l0])
      | succ k1 =>
        have H := HA.out
        clear HA
        simp only [spec_StretchPulses.l0] at H
        by_cases c7 : x7_1 < (a0.size : Int)
        · rw [if_pos c7] at H
          have c7b0 : decide (x7_1 < (a0.size : Int)) = true := decide_eq_true c7
          clear c7
          replace H := Option.bind_eq_some_iff.mp H
          obtain ⟨t323, A80, H⟩ := H
          replace H : ((spec_l07Level.f (decide (t323 > 0))).bind fun t324 => (if x6_1.length < 140737488355328 then (spec_StretchPulses.l0 k1 a0 a1 (x6_1 ++ [t324]) (wrap64 (x7_1 + 1))) else (none))) = some (r1, r2) := H
          have A8 := Aside0.mk A80
          clear A80
          replace H := Option.bind_eq_some_iff.mp H
          obtain ⟨t324, A90, H⟩ := H
          replace H : (if x6_1.length < 140737488355328 then (spec_StretchPulses.l0 k1 a0 a1 (x6_1 ++ [t324]) (wrap64 (x7_1 + 1))) else (none)) = some (r1, r2) := H
          have A9 := Aside0.mk A90
          clear A90
          by_cases c10 : x6_1.length < 140737488355328
          · rw [if_pos c10] at H
            have LMc10 := Aside0.mk c10
            clear c10
            obtain ⟨y325, hy325⟩ : ∃ y_ : List Int, y_ = (x6_1 ++ [t324]) := ⟨_, rfl⟩
            replace H : (spec_StretchPulses.l0 k1 a0 a1 y325 (wrap64 (x7_1 + 1))) = some (r1, r2) := by first | (rw [hy325]; with_reducible exact H) | (have H2_ := (Option.bind_some _ _).symm.trans H; rw [hy325]; with_reducible exact H2_) | (have H2_ := (Option.bind_some _ _).symm.trans H; with_reducible exact H2_) | with_reducible exact H | (rw [hy325]; exact H) | exact H
            have Ny325 := Aside0.mk hy325
            clear hy325
            have H' := Aside0.mk H
            clear H
            go_wp2_with (first | ((with_reducible refine gate_callee (f := 59) rfl ?_); refine goesL_ (some 23) rfl rfl Tryd.func59 (by kernel_rfl) rfl #[.string a0, .int .i64 x7_1, .int .i64 a1] rfl (by (try simp only [List.map_toArray, List.map_cons, List.map_nil]); first | done | rfl | (simp only [List.length_drop, List.length_take]; rfl)) ?_; (with_reducible refine (spec_l09Last.calls k1 a0 x7_1 a1 t323 _ A8.out).mono ?_); rintro e w' ⟨rfl, ⟨nd, rfl⟩⟩; refine ⟨_, rfl, ?_⟩) | ((with_reducible refine gate_callee (f := 45) rfl ?_); refine goesL_ (some 25) rfl rfl Tryd.func45 (by kernel_rfl) rfl #[.bool (decide (t323 > 0))] rfl (by (try simp only [List.map_toArray, List.map_cons, List.map_nil]); first | done | rfl | (simp only [List.length_drop, List.length_take]; rfl)) ?_; (with_reducible refine (spec_l07Level.calls (decide (t323 > 0)) t324 _ A9.out).mono ?_); rintro e w' ⟨rfl, ⟨nd, rfl⟩⟩; refine ⟨_, rfl, ?_⟩) | ((with_reducible refine gate_builtin (b := .append) (xs := #[.tmp 19, .tmp 26]) rfl ?_); at_builtin; refine Kd.R_append (Kd.int .u8) (w0 := w) w.heap.size rfl (.tmp 19) (.tmp 26) 34 5 (.int .u8 0) 1 rfl Tryd.underlying34 info5 rfl (by decide) (by omega) u6 x6_1 t324 [.int .u8 t324] (fun _ => True) (fun _ => False) rfl rfl ?aP (fun _ hk => hk.elim) ?aF ?aO ?aB ?aS ?aL ?_; (case aP => exact rfl); (case aB => exact (by repeat (first | (with_reducible first | exact HB.out | apply below_alloc | apply pw_below_drewN | apply below_drew1) | exact HB.out))); (case aF => exact (fun _ _ => trivial)); (case aO => exact (by (with_reducible repeat (first | apply Kd.R_alloc | apply Kd.R_drewN | apply Kd.R_drew)); exact HO_6.out)); (case aS => exact (below_size (by repeat (first | (with_reducible first | exact HB.out | apply below_alloc | apply pw_below_drewN | apply below_drew1) | exact HB.out)))); (case aL => have := LMc10.out; omega); intro v326 w11 ho hb hg hat; rw [← Ny325.out] at ho; have n0_ := Aside0.mk (hb); have n1_ := Aside0.mk (ho); clear HB; clear HO_6; have HB := n0_; have HO327 := n1_; clear n0_ n1_; clear ho hb hg hat))
            go_roundg k1
            case measure => have := HK1.out; omega
            case rel => exact ⟨(y325), (wrap64 (x7_1 + 1)), (by first | rfl | (simp; done) | (simp [*]; done)), H', ⟨by have := HK1.out; omega⟩, ⟨by (with_reducible repeat (first | apply Kd.R_alloc | apply Kd.R_drewN | apply Kd.R_drew)); exact HO327.out⟩, ⟨by repeat (first | (with_reducible first | exact HB.out | apply below_alloc | apply pw_below_drewN | apply below_drew1) | exact HB.out)⟩⟩
          · rw [if_neg c10] at H
            exact absurd H (by simp)
        · rw [if_neg c7] at H
          have c7b0 : decide (x7_1 < (a0.size : Int)) = false := decide_eq_false c7
          clear c7
          simp only [Option.some.injEq, Prod.mk.injEq] at H
          obtain ⟨rfl, rfl⟩ := H
          have hcv12 := own_string (P := Tryd.prog) Tryd.underlying34 Tryd.underlying5 Tryd.underlying9 (Kd.own_of_R HO_6.out)
          go_wp2
          go_ret2
          exact ⟨by first | rfl | (simp [errW_none, errW_some] <;> rfl) | (simp [*, errW_none, errW_some] <;> rfl), by repeat (first | (with_reducible first | exact HB.out | apply below_alloc | apply pw_below_drewN | apply below_drew1) | exact HB.out)⟩
  · replace c4 := Bool.eq_false_iff.mpr c4
    subst c4
    have H1 : (some ((⟨#[]⟩ : ByteArray), false)) = some (r1, r2) := by rw [if_neg (show ¬ (false = true) by decide)] at H; exact H
    clear H
    have H := H1
    clear H1
    simp only [Option.some.injEq, Prod.mk.injEq] at H
    obtain ⟨rfl, rfl⟩ := H
    go_enter Tryd.func34, Tryd.ntmps34
    go_wp2_with (first | ((with_reducible refine gate_callee (f := 40) rfl ?_); refine goesL_ (some 10) rfl rfl Tryd.func40 (by kernel_rfl) rfl #[.string a0, .int .i64 a1] rfl (by (try simp only [List.map_toArray, List.map_cons, List.map_nil]); first | done | rfl | (simp only [List.length_drop, List.length_take]; rfl)) ?_; (with_reducible refine (spec_l09Filter.calls k a0 a1 false _ A3.out).mono ?_); rintro e w' ⟨rfl, ⟨nd, rfl⟩⟩; refine ⟨_, rfl, ?_⟩))
    go_ret2
    exact ⟨by first | rfl | (simp [errW_none, errW_some] <;> rfl) | (simp [*, errW_none, errW_some] <;> rfl), by repeat (first | (with_reducible first | exact HB.out | apply below_alloc | apply pw_below_drewN | apply below_drew1) | exact HB.out)⟩

end Go.Proofs.YtcpfkfaiakpfjaaDoor.X

/- strings.Repeat in the form of the print's contracts. Conditions: a small count of a small text. -/
namespace Go.Proofs.YtcpfkfaiakpfjaaDoor.X
open Go.RowKit Go.Proofs.YtcpfkfaiakpfjaaDoorW.PrintWords Go.Proofs.YtcpfkfaiakpfjaaDoorW.PrintLast Go.Proofs.YtcpfkfaiakpfjaaDoorW.PrintMore
set_option linter.unusedVariables false
def repS (s : ByteArray) (c : Nat) : ByteArray := ⟨(Go.Lib.repeatL s.data.toList c).toArray⟩
def strings_Repeat.f (a0 : ByteArray) (a1 : Int) : Option ByteArray := if 0 ≤ a1 ∧ a1 ≤ 1000 ∧ a0.size ≤ 1000 then some (repS a0 a1.toNat) else none
theorem strings_Repeat.calls (a0 : ByteArray) (a1 : Int) (r1 : ByteArray) (w : World) (h : strings_Repeat.f a0 a1 = some r1) :
    Calls Tryd.prog 74 #[.string a0, .int .i64 a1] w fun e w' => e = .returned (.string r1) ∧ Below w.heap.size w w' := by
  unfold strings_Repeat.f at h
  by_cases hc : 0 ≤ a1 ∧ a1 ≤ 1000 ∧ a0.size ≤ 1000
  · rw [if_pos hc] at h
    obtain rfl := Option.some.inj h
    have hn : ((a1.toNat : Nat) : Int) = a1 := by omega
    have hm : a0.size * a1.toNat ≤ 1000 * 1000 := Nat.mul_le_mul hc.2.2 (by omega)
    have := Tryd.strings_Repeat a0 a1.toNat w (by omega) (by omega)
    rw [hn] at this
    exact this
  · rw [if_neg hc] at h; cases h
end Go.Proofs.YtcpfkfaiakpfjaaDoor.X

-- Written by a program of this session out of the kit's print of the loaded functions: a plain function of a Go function, and its contract.
namespace Go.Proofs.YtcpfkfaiakpfjaaDoor.X
open Go.RowKit Go.Proofs.YtcpfkfaiakpfjaaDoorW.PrintWords Go.Proofs.YtcpfkfaiakpfjaaDoorW.PrintLast Go.Proofs.YtcpfkfaiakpfjaaDoorW.PrintMore
attribute [local go_sem] max2_int min2_int max_two min_two max_three min_three max_four min_four   -- for this text's walks alone
set_option linter.unusedVariables false
set_option linter.unusedSimpArgs false

/-! ### impl_levelsBack: function 62 -/
def impl_levelsBack.f (a0 : ByteArray) (a1 : Int) (a2 : Int) : Option (ByteArray) := (strings_Repeat.f (⟨#[48]⟩ : ByteArray) a2).bind fun t446 => (if t446.size + a0.size ≤ 9223372036854775807 then (if 0 ≤ (wrap64 (a1 + 1)) then (if (wrap64 (a1 + 1)) ≤ (wrap64 ((wrap64 (a1 + 1)) + a2)) then (if (wrap64 ((wrap64 (a1 + 1)) + a2)) ≤ ((t446 ++ a0).size : Int) then (some ((t446 ++ a0).extract ((wrap64 (a1 + 1)) : Int).toNat ((wrap64 ((wrap64 (a1 + 1)) + a2)) : Int).toNat)) else (none)) else (none)) else (none)) else (none))
set_option maxHeartbeats 8000000 in
set_option maxRecDepth 100000 in
theorem impl_levelsBack.calls (a0 : ByteArray) (a1 : Int) (a2 : Int) (r : ByteArray) (w : World) (h : impl_levelsBack.f a0 a1 a2 = some r) :
    Calls Tryd.prog 62 #[.string a0, .int .i64 a1, .int .i64 a2] w fun e w' => e = .returned (.string r) ∧ Below w.heap.size w w' := by
  have HB := Aside0.mk (Below.refl w.heap.size w)
  have H : ((strings_Repeat.f (⟨#[48]⟩ : ByteArray) a2).bind fun t446 => (if t446.size + a0.size ≤ 9223372036854775807 then (if 0 ≤ (wrap64 (a1 + 1)) then (if (wrap64 (a1 + 1)) ≤ (wrap64 ((wrap64 (a1 + 1)) + a2)) then (if (wrap64 ((wrap64 (a1 + 1)) + a2)) ≤ ((t446 ++ a0).size : Int) then (some ((t446 ++ a0).extract ((wrap64 (a1 + 1)) : Int).toNat ((wrap64 ((wrap64 (a1 + 1)) + a2)) : Int).toNat)) else (none)) else (none)) else (none)) else (none))) = some r := h
  clear h
  replace H := Option.bind_eq_some_iff.mp H
  obtain ⟨t446, A40, H⟩ := H
  replace H : (if t446.size + a0.size ≤ 9223372036854775807 then (if 0 ≤ (wrap64 (a1 + 1)) then (if (wrap64 (a1 + 1)) ≤ (wrap64 ((wrap64 (a1 + 1)) + a2)) then (if (wrap64 ((wrap64 (a1 + 1)) + a2)) ≤ ((t446 ++ a0).size : Int) then (some ((t446 ++ a0).extract ((wrap64 (a1 + 1)) : Int).toNat ((wrap64 ((wrap64 (a1 + 1)) + a2)) : Int).toNat)) else (none)) else (none)) else (none)) else (none)) = some r := H
  have A4 := Aside0.mk A40
  clear A40
  by_cases c5 : t446.size + a0.size ≤ 9223372036854775807
  · rw [if_pos c5] at H
    have c5b0 := eq_true c5
    have c5b1 : decide (t446.size + a0.size ≤ 9223372036854775807) = true := decide_eq_true c5
    try have c5b2 : (9223372036854775807 < t446.size + a0.size) = False := eq_false (Nat.not_lt.2 c5)
    obtain ⟨ji6, hji6⟩ : ∃ j_ : Int, (wrap64 (a1 + 1)) = j_ := ⟨_, rfl⟩
    replace H : (if 0 ≤ (ji6) then (if (ji6) ≤ (wrap64 ((ji6) + a2)) then (if (wrap64 ((ji6) + a2)) ≤ ((t446 ++ a0).size : Int) then (some ((t446 ++ a0).extract ((ji6) : Int).toNat ((wrap64 ((ji6) + a2)) : Int).toNat)) else (none)) else (none)) else (none)) = some r := by first | (rw [hji6] at H; exact H) | (simp only [hji6] at H ⊢; exact H)
    (try rw [hji6] at A4)
    have hji6w : (IntKind.i64.wrap (a1 + 1)) = ji6 := (i64_w _).trans hji6
    by_cases c7 : 0 ≤ (ji6)
    · rw [if_pos c7] at H
      have c7b0 := eq_true c7
      have c7b1 : decide (0 ≤ (ji6)) = true := decide_eq_true c7
      clear c7
      by_cases c8 : (ji6) ≤ (wrap64 ((ji6) + a2))
      · rw [if_pos c8] at H
        have c8b0 := eq_true c8
        have c8b1 : decide ((ji6) ≤ (wrap64 ((ji6) + a2))) = true := decide_eq_true c8
        by_cases c9 : (wrap64 ((ji6) + a2)) ≤ ((t446 ++ a0).size : Int)
        · rw [if_pos c9] at H
          have c9b0 := eq_true c9
          have c9b1 : decide ((wrap64 ((ji6) + a2)) ≤ ((t446 ++ a0).size : Int)) = true := decide_eq_true c9
          have c9b3 : (wrap64 (ji6 + a2) ≤ ((t446.size + a0.size : Nat) : Int)) = True := eq_true (by rw [ByteArray.size_append] at c9; exact c9)
          have c9b4 : (wrap64 (ji6 + a2) ≤ (t446.size : Int) + (a0.size : Int)) = True := eq_true (by rw [ByteArray.size_append] at c9; rw [← Int.natCast_add]; exact c9)
          have c9b5 : decide (wrap64 (ji6 + a2) ≤ (t446.size : Int) + (a0.size : Int)) = true := decide_eq_true (c9b4 ▸ trivial)
          obtain rfl := Option.some.inj H
          go_enter Tryd.func62, Tryd.ntmps62
          go_wp2_with (first | ((with_reducible refine gate_callee (f := 74) rfl ?_); refine goesL_ (some 8) rfl rfl Tryd.func74 (by kernel_rfl) rfl #[.string (⟨#[48]⟩ : ByteArray), .int .i64 a2] rfl (by (try simp only [List.map_toArray, List.map_cons, List.map_nil]); first | done | rfl | (simp only [List.length_drop, List.length_take]; rfl)) ?_; (with_reducible refine (strings_Repeat.calls (⟨#[48]⟩ : ByteArray) a2 t446 _ A4.out).mono ?_); rintro e w10 ⟨rfl, hb⟩; refine ⟨_, rfl, ?_⟩; have n0_ := Aside0.mk (below_step (by repeat (first | (with_reducible first | exact HB.out | apply below_alloc | apply pw_below_drewN | apply below_drew1) | exact HB.out)) hb); clear HB; have HB := n0_; clear n0_; (try clear hb); (try clear hb2); (try clear hk); (try clear hi)))
          go_ret
          exact ⟨by first | rfl | (simp [errW_none, errW_some] <;> rfl) | (simp only [← hji6]; first | rfl | (simp [errW_none, errW_some] <;> rfl)) | (simp [*, errW_none, errW_some] <;> rfl), by repeat (first | (with_reducible first | exact HB.out | apply below_alloc | apply pw_below_drewN | apply below_drew1) | exact HB.out)⟩
        · rw [if_neg c9] at H
          exact absurd H (by simp)
      · rw [if_neg c8] at H
        exact absurd H (by simp)
    · rw [if_neg c7] at H
      exact absurd H (by simp)
  · rw [if_neg c5] at H
    exact absurd H (by simp)

end Go.Proofs.YtcpfkfaiakpfjaaDoor.X

/- The closures of the filters: what each tells of a tick. Conditions: as each lemma says. -/
namespace Go.Proofs.YtcpfkfaiakpfjaaDoor.X
open Go.RowKit Go.Proofs.YtcpfkfaiakpfjaaDoorW.PrintWords Go.Proofs.YtcpfkfaiakpfjaaDoorW.PrintLast Go.Proofs.YtcpfkfaiakpfjaaDoorW.PrintMore
set_option linter.unusedVariables false
set_option linter.unusedSimpArgs false
set_option maxHeartbeats 4000000 in
set_option maxRecDepth 100000 in
theorem StretchClo (s b : ByteArray) (t i : Int) (g1 g2 : Nat) (w : World) (h1 : w.heap[g1]? = some (.cells #[.string s] 9 (0, 0))) (h2 : w.heap[g2]? = some (.cells #[.int .i64 t] 2 (0, 0))) (hb : impl_levelsBack.f s i t = some b) :
    Calls Tryd.prog 60 #[.int .i64 i, .pointer (some ⟨g1, 0, none⟩), .pointer (some ⟨g2, 0, none⟩)] w fun e w' => e = .returned (.bool (decide (0 ≤ Lib.indexByte b.data.toList 49))) ∧ Below w.heap.size w w' := by
  have c1 : w.cell? ⟨g1, 0, none⟩ = some (.string s) := (blk_cell h1 0).trans rfl
  have c2 : w.cell? ⟨g2, 0, none⟩ = some (.int .i64 t) := (blk_cell h2 0).trans rfl
  have H := Aside0.mk hb
  clear h1 h2 hb
  have HB := Aside0.mk (Below.refl w.heap.size w)
  go_enter Tryd.func60, Tryd.ntmps60
  go_wp2_with (first
    | (go_at_call 62; (with_reducible refine (impl_levelsBack.calls s i t b _ H.out).mono ?_); rintro e wn ⟨rfl, hb⟩; have n0_ := Aside0.mk (below_step HB.out hb); clear HB hb; have HB := n0_; clear n0_)
    | (go_at_call 61; (with_reducible refine (Tryd.strings_Contains_one b 49 _).mono ?_); rintro e wn ⟨rfl, rfl⟩))
  go_ret
  exact ⟨rfl, HB.out⟩
theorem keepS {w0 : World} {g1 g2 : Nat} {v1 v2 : Value} (l1 : g1 < w0.heap.size) (l2 : g2 < w0.heap.size) {W W' : World} (h : W.cell? ⟨g1, 0, none⟩ = some v1 ∧ W.cell? ⟨g2, 0, none⟩ = some v2 ∧ Below w0.heap.size w0 W) (hb : Below W.heap.size W W') :
    W'.cell? ⟨g1, 0, none⟩ = some v1 ∧ W'.cell? ⟨g2, 0, none⟩ = some v2 ∧ Below w0.heap.size w0 W' :=
  have hsz : w0.heap.size ≤ W.heap.size := below_size h.2.2
  ⟨(hb.cell (p := ⟨g1, 0, none⟩) (Nat.lt_of_lt_of_le l1 hsz)).trans h.1, (hb.cell (p := ⟨g2, 0, none⟩) (Nat.lt_of_lt_of_le l2 hsz)).trans h.2.1, below_step h.2.2 hb⟩
set_option maxHeartbeats 4000000 in
set_option maxRecDepth 100000 in
theorem MajorClo (s b : ByteArray) (t i : Int) (g1 g2 : Nat) (w : World) (h1 : w.heap[g1]? = some (.cells #[.string s] 9 (0, 0))) (h2 : w.heap[g2]? = some (.cells #[.int .i64 t] 2 (0, 0))) (hb : impl_levelsBack.f s i t = some b) (n : Nat) (hn : Lib.countByte b.data.toList 49 = n) (hn2 : n ≤ 1000) :
    Calls Tryd.prog 63 #[.int .i64 i, .pointer (some ⟨g1, 0, none⟩), .pointer (some ⟨g2, 0, none⟩)] w fun e w' => e = .returned (.bool (decide (2 * (n : Int) > t))) ∧ Below w.heap.size w w' := by
  have c1 : w.cell? ⟨g1, 0, none⟩ = some (.string s) := (blk_cell h1 0).trans rfl
  have c2 : w.cell? ⟨g2, 0, none⟩ = some (.int .i64 t) := (blk_cell h2 0).trans rfl
  have l1 : g1 < w.heap.size := blk_lt h1
  have l2 : g2 < w.heap.size := blk_lt h2
  have H := Aside0.mk hb
  have HN := Aside0.mk hn
  clear h1 h2 hb hn
  have e1 : IntKind.i64.wrap (2 * (n : Int)) = 2 * (n : Int) := IntWalk.i64_in _ ⟨by omega, by omega⟩
  have hd : ∀ x, x = w.drew → (x.cell? ⟨g1, 0, none⟩ = some (.string s) ∧ x.cell? ⟨g2, 0, none⟩ = some (.int .i64 t) ∧ Below w.heap.size w x) := by
    rintro x rfl
    exact ⟨c1, c2, below_drew1 (Below.refl _ _)⟩
  go_enter Tryd.func63, Tryd.ntmps63
  go_wp2
  go_region_held3 (fun W => W.cell? ⟨g1, 0, none⟩ = some (.string s) ∧ W.cell? ⟨g2, 0, none⟩ = some (.int .i64 t) ∧ Below w.heap.size w W) (first | exact hd _ rfl | assumption | exact keepS l1 l2 ‹_› ‹_›) (first | (go_at_call 62; (with_reducible refine (impl_levelsBack.calls s i t b _ H.out).mono ?_); rintro e wn ⟨rfl, hb⟩) | (go_at_call 64; (with_reducible refine (Tryd.strings_Count_one b 49 _).mono ?_); rintro e wn ⟨he, rfl⟩; rw [HN.out] at he; subst he))
  have HS := ‹_ ∧ _ ∧ Below w.heap.size w _›.2.2
  go_wp2
  go_ret
  exact ⟨rfl, HS⟩
set_option maxHeartbeats 4000000 in
set_option maxRecDepth 100000 in
theorem DebClo (s b : ByteArray) (t i : Int) (lv lw : Bool) (g1 g2 g3 B0 : Nat) (w : World) (h1 : w.heap[g1]? = some (.cells #[.string s] 9 (0, 0))) (h2 : w.heap[g2]? = some (.cells #[.int .i64 t] 2 (0, 0))) (h3 : w.heap[g3]? = some (.cells #[.bool lv] 4 (0, 0))) (hB : B0 ≤ g3) (hb : impl_levelsBack.f s i t = some b) (n : Nat) (hn : Lib.countByte b.data.toList 49 = n) (hn2 : n ≤ 1000) (ht : 1 ≤ t)
    (hlw : lw = if n = 0 then false else if (n : Int) = t then true else lv) :
    Calls Tryd.prog 66 #[.int .i64 i, .pointer (some ⟨g1, 0, none⟩), .pointer (some ⟨g2, 0, none⟩), .pointer (some ⟨g3, 0, none⟩)] w fun e w' => e = .returned (.bool lw) ∧ w'.heap[g3]? = some (.cells #[.bool lw] 4 (0, 0)) ∧ Below B0 w w' ∧ Kept w w' (· = g3) := by
  have n13 : g1 ≠ g3 := blk_ne h1 h3 (by decide)
  have n23 : g2 ≠ g3 := blk_ne h2 h3 (by decide)
  have B3 := Aside0.mk h3
  have hB0 : B0 ≤ w.heap.size := Nat.le_trans hB (Nat.le_of_lt (blk_lt h3))
  have c1 : w.cell? ⟨g1, 0, none⟩ = some (.string s) := (blk_cell h1 0).trans rfl
  have c2 : w.cell? ⟨g2, 0, none⟩ = some (.int .i64 t) := (blk_cell h2 0).trans rfl
  have c3 : w.cell? ⟨g3, 0, none⟩ = some (.bool lv) := (blk_cell h3 0).trans rfl
  have B1 := Aside0.mk h1
  have B2 := Aside0.mk h2
  have H := Aside0.mk hb
  have HN := Aside0.mk hn
  have HLW := Aside0.mk hlw
  have HBB := Aside0.mk hB
  have HBB0 := Aside0.mk hB0
  clear h1 h2 h3 hb hn hlw hB hB0
  have HB := Aside0.mk (Below.refl w.heap.size w)
  have fin : ∀ W : World, Below w.heap.size w W → ∀ u : Bool, (W.setCell ⟨g3, 0, none⟩ (.bool u)).heap[g3]? = some (.cells #[.bool u] 4 (0, 0)) ∧ Below B0 w (W.setCell ⟨g3, 0, none⟩ (.bool u)) ∧ Kept w (W.setCell ⟨g3, 0, none⟩ (.bool u)) (· = g3) := fun W hW u =>
    ⟨blk_put (blk_below B3.out hW) 0 _ rfl, (hW.mono HBB0.out).setCell HBB.out _, Kept.setCell (p := ⟨g3, 0, none⟩) (Kept.of_below hW (· = g3)) (.inl rfl) (.bool u)⟩
  have FIN := Aside0.mk fin
  clear fin
  by_cases hz : n = 0
  · subst hz
    have hv : Aside0 (lw = false) := ⟨HLW.out.trans (if_pos rfl)⟩
    go_enter Tryd.func66, Tryd.ntmps66
    go_wp2_with (first
      | (go_at_call 62; (with_reducible refine (impl_levelsBack.calls s i t b _ H.out).mono ?_); rintro e wn ⟨rfl, hb⟩; have n0_ := Aside0.mk hb; have z3 := blk_frozen (blk_below B3.out hb) 0; have c2 : wn.cell? ⟨g2, 0, none⟩ = some (.int .i64 t) := (blk_cell (blk_below B2.out hb) 0).trans rfl; have c3 : wn.cell? ⟨g3, 0, none⟩ = some (.bool lv) := (blk_cell (blk_below B3.out hb) 0).trans rfl; clear HB hb; have HB := n0_; clear n0_)
      | (go_at_call 64; (with_reducible refine (Tryd.strings_Count_one b 49 _).mono ?_); rintro e wn ⟨he, rfl⟩; rw [HN.out] at he; subst he))
    go_ret
    exact ⟨by rw [hv.out]; rfl, by rw [hv.out]; exact FIN.out _ HB.out false⟩
  · have q0 : ((n : Int) = 0) = False := eq_false (by omega)
    have q1 : ((n : Int) == 0) = false := beq_eq_false_iff_ne.mpr (by omega)
    have q2 : (0 = (n : Int)) = False := eq_false (by omega)
    have q3 : (n = 0) = False := eq_false (by omega)
    by_cases hq : (n : Int) = t
    · subst hq
      have hv : Aside0 (lw = true) := ⟨HLW.out.trans ((if_neg hz).trans (if_pos rfl))⟩
      clear hz HLW
      go_enter Tryd.func66, Tryd.ntmps66
      go_wp2_with (first
        | (go_at_call 62; (with_reducible refine (impl_levelsBack.calls s i n b _ H.out).mono ?_); rintro e wn ⟨rfl, hb⟩; have n0_ := Aside0.mk hb; have z3 := blk_frozen (blk_below B3.out hb) 0; have c2 : wn.cell? ⟨g2, 0, none⟩ = some (.int .i64 n) := (blk_cell (blk_below B2.out hb) 0).trans rfl; have c3 : wn.cell? ⟨g3, 0, none⟩ = some (.bool lv) := (blk_cell (blk_below B3.out hb) 0).trans rfl; clear HB hb; have HB := n0_; clear n0_)
        | (go_at_call 64; (with_reducible refine (Tryd.strings_Count_one b 49 _).mono ?_); rintro e wn ⟨he, rfl⟩; rw [HN.out] at he; subst he))
      go_ret
      exact ⟨by rw [hv.out]; rfl, by rw [hv.out]; exact FIN.out _ HB.out true⟩
    · have hv : Aside0 (lw = lv) := ⟨HLW.out.trans ((if_neg hz).trans (if_neg hq))⟩
      have q4 : ((n : Int) = t) = False := eq_false hq
      have q5 : ((n : Int) == t) = false := beq_eq_false_iff_ne.mpr hq
      have q6 : (t = (n : Int)) = False := eq_false (fun h => hq h.symm)
      clear hz HLW hq
      go_enter Tryd.func66, Tryd.ntmps66
      go_wp2_with (first
        | (go_at_call 62; (with_reducible refine (impl_levelsBack.calls s i t b _ H.out).mono ?_); rintro e wn ⟨rfl, hb⟩; have n0_ := Aside0.mk hb; have z3 := blk_frozen (blk_below B3.out hb) 0; have c2 : wn.cell? ⟨g2, 0, none⟩ = some (.int .i64 t) := (blk_cell (blk_below B2.out hb) 0).trans rfl; have c3 : wn.cell? ⟨g3, 0, none⟩ = some (.bool lv) := (blk_cell (blk_below B3.out hb) 0).trans rfl; clear HB hb; have HB := n0_; clear n0_)
        | (go_at_call 64; (with_reducible refine (Tryd.strings_Count_one b 49 _).mono ?_); rintro e wn ⟨he, rfl⟩; rw [HN.out] at he; subst he))
      go_ret
      exact ⟨by rw [hv.out]; rfl, by rw [hv.out]; exact ⟨blk_below B3.out HB.out, HB.out.mono HBB0.out, Kept.of_below HB.out _⟩⟩
end Go.Proofs.YtcpfkfaiakpfjaaDoor.X

