/- My own texts of this seat and its words, merged: Xp64, Xp28, Xp66, Xp31, CDraws, CClean, CCleanOf, XFun, XShelf, XShelfS, XSplit, XIsWave, XLens, XPulses, CPieces, CReset, Xp25, XWaveLib, XWave, Xp48, XJoin, Xp33, Xp55. Conditions: as each lemma says. -/
import Derived.Test.YthkpnbelbaljdaaDoorM21
import Derived.Test.YthkpnbelbaljdaaDoorM22
import Derived.Shelf.Strings.Builder1
import Derived.Shelf.Strings.Builder2
import Derived.Shelf.Strings.Trim
import Derived.Shelf.Small.Utf8
import Derived.Shelf.Small.Strs
import Derived.Shelf.Strings.BuilderF
import Derived.Shelf.Utf8.RuneCount
import Derived.Shelf.Strings.Search1
import Derived.Shelf.Strings.Search2
import Derived.Shelf.Strings.Search3
import Derived.Shelf.Strings.Count
import Derived.Shelf.LaysM
import Derived.Shelf.Strings.Shaped
import Derived.Shelf.Strings.Prefix
import Derived.Shelf.Strings.Split
import Derived.Shelf.Strings.SplitShaped
import Derived.Shelf.Unicode.Decode
import Derived.Shelf.Strings.Runes
import Derived.Shelf.Strings.RuneCount
import Derived.Shelf.Strings.AsciiSet
import Derived.Shelf.Strings.Explode
import Derived.Shelf.Bits.Mul64
import Derived.Shelf.Strings.Repeat
import Derived.Shelf.Unicode.DecodeSlow
import Derived.Shelf.Unicode.DecodeAny
import Derived.Shelf.Unicode.DecodeLast
import Derived.Test.YthkpnbelbaljdaaDoorProg
import Derived.Lib.Bytealg
import Derived.Lib.Walk
section
-- Written by a program of this session out of the kit's print of the loaded functions: a plain function of a Go function, and its contract.
namespace Go.Proofs.YthkpnbelbaljdaaDoor.X
open Go.RowKit Go.Proofs.YthkpnbelbaljdaaDoorW.PrintWords Go.Proofs.YthkpnbelbaljdaaDoorW.PrintLast Go.Proofs.YthkpnbelbaljdaaDoorW.PrintMore
attribute [local go_sem] max2_int min2_int max_two min_two max_three min_three max_four min_four   -- for this text's walks alone
set_option linter.unusedVariables false
set_option linter.unusedSimpArgs false
/-! ### spec_l07DrawLevels: function 64 -/
def spec_l07DrawLevels.l0 : Nat → Int → List Int → Int → List Int → Int → Int → Option (ByteArray × Int × Int)
  | 0, _, _, _, _, _, _ => none
  | k + 1, x1, x5, x6, x1000, x1001, x1002 => if x1 > 0 then ((spec_l00Src_one.f x1000 x1001 x1002 6).bind fun bt381 => (if bt381.1 = true then (if x5.length < 140737488355328 then (spec_l07DrawLevels.l0 k (wrap64 (x1 - 1)) (x5 ++ [(97 - x6) % 256]) ((97 - x6) % 256) x1000 bt381.2.1 bt381.2.2) else (none)) else (if x5.length < 140737488355328 then (spec_l07DrawLevels.l0 k (wrap64 (x1 - 1)) (x5 ++ [x6]) x6 x1000 bt381.2.1 bt381.2.2) else (none)))) else (some (strOfNums x5, x1001, x1002))
def spec_l07DrawLevels.f (k : Nat) (s0_0 : List Int) (s0_1 : Int) (s0_2 : Int) (a1 : Int) : Option (ByteArray × Int × Int) := (spec_l00Src_pick.f s0_0 s0_1 s0_2 2).bind fun bt378 => (spec_l07DrawLevels.l0 k a1 (([] : List Int)) ((wrap64 (48 + bt378.1)) % 256) s0_0 bt378.2.1 bt378.2.2)
set_option maxHeartbeats 8000000 in
set_option maxRecDepth 100000 in
theorem spec_l07DrawLevels.calls (k : Nat) (g : Nat) (s0_0 : List Int) (s0_1 : Int) (s0_2 : Int) (a1 : Int) (r1 : ByteArray) (r2 : Int) (r3 : Int) (w0 w : World) (hI : IsS106 w0 w g s0_0 s0_1 s0_2) (hB : Below w0.heap.size w0 w) (h : spec_l07DrawLevels.f k s0_0 s0_1 s0_2 a1 = some (r1, r2, r3)) :
    Calls Tryd.prog 64 #[.pointer (some ⟨g, 0, none⟩), .int .i64 a1] w fun e w' => e = .returned (.string r1) ∧ IsS106 w0 w' g s0_0 r2 r3 ∧ Below w0.heap.size w0 w' ∧ KeepBut w w' g none := by
  have HI0 := Aside0.mk hI
  have HK := Aside0.mk (KeepBut.refl w g none)
  have HL := Aside0.mk hB.size
  clear hI
  have HW0 := Aside0.mk hB.size
  have HB := Aside0.mk hB
  clear hB
  have H : ((spec_l00Src_pick.f s0_0 s0_1 s0_2 2).bind fun bt378 => (spec_l07DrawLevels.l0 k a1 (([] : List Int)) ((wrap64 (48 + bt378.1)) % 256) s0_0 bt378.2.1 bt378.2.2)) = some (r1, r2, r3) := h
  clear h
  obtain ⟨y375, hy375⟩ : ∃ y_ : List Int, y_ = (([] : List Int)) := ⟨_, rfl⟩
  replace H : ((spec_l00Src_pick.f s0_0 s0_1 s0_2 2).bind fun bt378 => (spec_l07DrawLevels.l0 k a1 y375 ((wrap64 (48 + bt378.1)) % 256) s0_0 bt378.2.1 bt378.2.2)) = some (r1, r2, r3) := by first | (rw [hy375]; with_reducible exact H) | (have H2_ := (Option.bind_some _ _).symm.trans H; rw [hy375]; with_reducible exact H2_) | (have H2_ := (Option.bind_some _ _).symm.trans H; with_reducible exact H2_) | with_reducible exact H | (rw [hy375]; exact H) | exact H
  have Ny375 := Aside0.mk hy375
  clear hy375
  replace H := Option.bind_eq_some_iff.mp H
  obtain ⟨⟨t378, t379, t380⟩, A30, H⟩ := H
  replace H : (spec_l07DrawLevels.l0 k a1 y375 ((wrap64 (48 + t378)) % 256) s0_0 t379 t380) = some (r1, r2, r3) := H
  have A3 := Aside0.mk A30
  clear A30
  have H' := Aside0.mk H
  clear H
  go_enter Tryd.func64, Tryd.ntmps64
  go_wp2_with (first | ((with_reducible refine gate_dst (N := 7) rfl ?_); refine Kd.R_lit (Kd.int .u8) _ 5 ?hg (N := 7) ?hd (xs := ([] : List Int)) (inner := []) (ok := fun _ => True) (okp := fun _ => True) ?hr ?hp (fun _ hk => hk) trivial (Below.refl _ _) (Nat.le_refl _) (by simp) ?_; (case hd => rfl); (case hg => rfl); (case hr => first | (go_simp; done) | (go_simp; rfl)); (case hp => exact (Reps.none _ _)); intro v376 w4 ho5 hb hg_ hnew_; clear hg_ hnew_; (first | rw [← Ny375.out] at ho5 | (simp only [Int.reduceToNat] at ho5; rw [← Ny375.out] at ho5)); have n0_ := Aside0.mk (Kd.R_lower ho5 (keep_size (w := w) (g := g) (row := none) (by repeat (first | (with_reducible first | exact HK.out | apply KeepBut.set_ | apply keep_drewN | apply keep_drew | apply keep_alloc) | exact HK.out)))); have n1_ := Aside0.mk (IsS106.below (by repeat (first | (with_reducible first | exact HI0.out | apply IsS106.alloc | apply IsS106.drewN | apply IsS106.drew | apply IsS106.set_1 | apply IsS106.set_2) | exact HI0.out)) hb); have n2_ := Aside0.mk (KeepBut.trans (by repeat (first | (with_reducible first | exact HK.out | apply KeepBut.set_ | apply keep_drewN | apply keep_drew | apply keep_alloc) | exact HK.out)) (KeepBut.of_below hb g none) (.inl rfl)); have n3_ := Aside0.mk (below_step (by repeat (first | (with_reducible first | exact HB.out | apply below_alloc | apply pw_below_drewN | apply below_drew1 | refine below_set ?_ (IsS106.ge HI0.out)) | exact HB.out)) hb); clear HI0; clear HK; clear HB; have HO377 := n0_; have HI0 := n1_; have HK := n2_; have HB := n3_; clear n0_ n1_ n2_ n3_; clear hb ho5) | ((with_reducible refine gate_callee (f := 63) rfl ?_); refine goesL_ (some 9) rfl rfl Tryd.func63 (by kernel_rfl) rfl #[.pointer (some ⟨g, 0, none⟩), .int .i64 2] rfl (by (try simp only [List.map_toArray, List.map_cons, List.map_nil]); first | done | rfl | (simp only [List.length_drop, List.length_take]; rfl)) ?_; (with_reducible refine (spec_l00Src_pick.calls g s0_0 s0_1 s0_2 2 t378 t379 t380 w0 _ ?side1 ?side2 A3.out).mono ?_); (case side1 => repeat (first | (with_reducible first | exact HI0.out | apply IsS106.alloc | apply IsS106.drewN | apply IsS106.drew | apply IsS106.set_1 | apply IsS106.set_2) | exact HI0.out)); (case side2 => repeat (first | (with_reducible first | exact HB.out | apply below_alloc | apply pw_below_drewN | apply below_drew1 | refine below_set ?_ (IsS106.ge HI0.out)) | exact HB.out)); rintro e w6 ⟨rfl, hi, hb, hk⟩; refine ⟨_, rfl, ?_⟩; have n0_ := Aside0.mk (Kd.R_mono (Kd.R_keep (IsS106.apart (show IsS106 w0 _ g s0_0 s0_1 s0_2 from by repeat (first | (with_reducible first | exact HI0.out | apply IsS106.alloc | apply IsS106.drewN | apply IsS106.drew | apply IsS106.set_1 | apply IsS106.set_2) | exact HI0.out)) (by (with_reducible repeat (first | apply Kd.R_alloc | apply Kd.R_drewN | apply Kd.R_drew)); exact HO377.out) (by decide)) hk (fun _ h => h.2)) (fun _ h => h.1)); have n1_ := Aside0.mk (KeepBut.trans (by repeat (first | (with_reducible first | exact HK.out | apply KeepBut.set_ | apply keep_drewN | apply keep_drew | apply keep_alloc) | exact HK.out)) hk (.inl rfl)); have n2_ := Aside0.mk (hb); have n3_ := Aside0.mk (hi); clear HO377; clear HK; clear HB; clear HI0; have HO377 := n0_; have HK := n1_; have HB := n2_; have HI0 := n3_; clear n0_ n1_ n2_ n3_; (try clear hb); (try clear hb2); (try clear hk); (try clear hi)))
  go_loopg [1, 5, 6] k (fun kq v1 v5 v6 w' => ∃ (x1_1 : Int) (x5_1 : List Int) (x6_1 : Int) (x1001_1 : Int) (x1002_1 : Int), v1 = .int .i64 x1_1 ∧ v6 = .int .u8 x6_1 ∧ Aside0 (spec_l07DrawLevels.l0 kq x1_1 x5_1 x6_1 s0_0 x1001_1 x1002_1 = some (r1, r2, r3)) ∧ Aside0 (kq ≤ k) ∧ Aside0 (Kd.R (Kd.int .u8) 5 w' w.heap.size (fun _ => True) v5 x5_1) ∧ Aside0 (IsS106 w0 w' g s0_0 x1001_1 x1002_1) ∧ Aside0 (KeepBut w w' g none) ∧ Aside0 (Below w0.heap.size w0 w'))
  case atStart => exact ⟨(a1), (y375), ((wrap64 (48 + t378)) % 256), (t379), (t380), (by first | rfl | (simp; done) | (simp [*]; done)), (by first | rfl | (simp; done) | (simp [*]; done)), H', ⟨Nat.le_refl _⟩, ⟨by (with_reducible repeat (first | apply Kd.R_alloc | apply Kd.R_drewN | apply Kd.R_drew)); exact HO377.out⟩, ⟨by repeat (first | (with_reducible first | exact HI0.out | apply IsS106.alloc | apply IsS106.drewN | apply IsS106.drew | apply IsS106.set_1 | apply IsS106.set_2) | exact HI0.out)⟩, ⟨by repeat (first | (with_reducible first | exact HK.out | apply KeepBut.set_ | apply keep_drewN | apply keep_drew | apply keep_alloc) | exact HK.out)⟩, ⟨by repeat (first | (with_reducible first | exact HB.out | apply below_alloc | apply pw_below_drewN | apply below_drew1 | refine below_set ?_ (IsS106.ge HI0.out)) | exact HB.out)⟩⟩
  case round =>
    clear H'
    try clear p2
    try clear c6
    try clear p6
    obtain ⟨x1_1, x5_1, x6_1, x1001_1, x1002_1, rfl, rfl, HA, HK1, HO_5, HI0, HK, HB⟩ := hrel
    cases gk with
    | zero => exact absurd HA.out (by simp [spec_l07DrawLevels.l0])
    | succ k1 =>
      have H := HA.out
      clear HA
      simp only [spec_l07DrawLevels.l0] at H
      by_cases c7 : x1_1 > 0
      · rw [if_pos c7] at H
        have c7b0 : decide (0 < x1_1) = true := decide_eq_true c7
        clear c7
        replace H := Option.bind_eq_some_iff.mp H
        obtain ⟨⟨t381, t382, t383⟩, A80, H⟩ := H
        replace H : (if t381 = true then (if x5_1.length < 140737488355328 then (spec_l07DrawLevels.l0 k1 (wrap64 (x1_1 - 1)) (x5_1 ++ [(97 - x6_1) % 256]) ((97 - x6_1) % 256) s0_0 t382 t383) else (none)) else (if x5_1.length < 140737488355328 then (spec_l07DrawLevels.l0 k1 (wrap64 (x1_1 - 1)) (x5_1 ++ [x6_1]) x6_1 s0_0 t382 t383) else (none))) = some (r1, r2, r3) := H
        have A8 := Aside0.mk A80
        clear A80
        by_cases c9 : t381 = true
        · subst c9
          have H1 : (if x5_1.length < 140737488355328 then (spec_l07DrawLevels.l0 k1 (wrap64 (x1_1 - 1)) (x5_1 ++ [(97 - x6_1) % 256]) ((97 - x6_1) % 256) s0_0 t382 t383) else (none)) = some (r1, r2, r3) := by rw [if_pos rfl] at H; exact H
          clear H
          have H := H1
          clear H1
          by_cases c10 : x5_1.length < 140737488355328
          · rw [if_pos c10] at H
            have LMc10 := Aside0.mk c10
            clear c10
            obtain ⟨y384, hy384⟩ : ∃ y_ : List Int, y_ = (x5_1 ++ [(97 - x6_1) % 256]) := ⟨_, rfl⟩
            replace H : (spec_l07DrawLevels.l0 k1 (wrap64 (x1_1 - 1)) y384 ((97 - x6_1) % 256) s0_0 t382 t383) = some (r1, r2, r3) := by first | (rw [hy384]; with_reducible exact H) | (have H2_ := (Option.bind_some _ _).symm.trans H; rw [hy384]; with_reducible exact H2_) | (have H2_ := (Option.bind_some _ _).symm.trans H; with_reducible exact H2_) | with_reducible exact H | (rw [hy384]; exact H) | exact H
            have Ny384 := Aside0.mk hy384
            clear hy384
            have H' := Aside0.mk H
            clear H
            go_wp2_with (first | ((with_reducible refine gate_callee (f := 94) rfl ?_); refine goesL_ (some 17) rfl rfl Tryd.func94 (by kernel_rfl) rfl #[.pointer (some ⟨g, 0, none⟩), .int .i64 6] rfl (by (try simp only [List.map_toArray, List.map_cons, List.map_nil]); first | done | rfl | (simp only [List.length_drop, List.length_take]; rfl)) ?_; (with_reducible refine (spec_l00Src_one.calls g s0_0 x1001_1 x1002_1 6 true t382 t383 w0 _ ?side1 ?side2 A8.out).mono ?_); (case side1 => repeat (first | (with_reducible first | exact HI0.out | apply IsS106.alloc | apply IsS106.drewN | apply IsS106.drew | apply IsS106.set_1 | apply IsS106.set_2) | exact HI0.out)); (case side2 => repeat (first | (with_reducible first | exact HB.out | apply below_alloc | apply pw_below_drewN | apply below_drew1 | refine below_set ?_ (IsS106.ge HI0.out)) | exact HB.out)); rintro e w11 ⟨rfl, hi, hb, hk⟩; refine ⟨_, rfl, ?_⟩; have n0_ := Aside0.mk (Kd.R_mono (Kd.R_keep (IsS106.apart (show IsS106 w0 _ g s0_0 x1001_1 x1002_1 from by repeat (first | (with_reducible first | exact HI0.out | apply IsS106.alloc | apply IsS106.drewN | apply IsS106.drew | apply IsS106.set_1 | apply IsS106.set_2) | exact HI0.out)) (by (with_reducible repeat (first | apply Kd.R_alloc | apply Kd.R_drewN | apply Kd.R_drew)); exact HO_5.out) (by decide)) hk (fun _ h => h.2)) (fun _ h => h.1)); have n1_ := Aside0.mk (KeepBut.trans (by repeat (first | (with_reducible first | exact HK.out | apply KeepBut.set_ | apply keep_drewN | apply keep_drew | apply keep_alloc) | exact HK.out)) hk (.inl rfl)); have n2_ := Aside0.mk (hb); have n3_ := Aside0.mk (hi); clear HO_5; clear HK; clear HB; clear HI0; have HO_5 := n0_; have HK := n1_; have HB := n2_; have HI0 := n3_; clear n0_ n1_ n2_ n3_; (try clear hb); (try clear hb2); (try clear hk); (try clear hi)) | ((with_reducible refine gate_builtin (b := .append) (xs := #[.tmp 20, .tmp 22]) rfl ?_); at_builtin; refine Kd.R_append (Kd.int .u8) w.heap.size rfl (.tmp 20) (.tmp 22) 39 5 (.int .u8 0) 1 rfl Tryd.underlying39 info5 rfl (by decide) (by omega) u5 x5_1 ((97 - x6_1) % 256) [.int .u8 ((97 - x6_1) % 256)] (fun _ => True) (fun _ => False) rfl rfl ?aP (fun _ hk => hk.elim) ?aF ?aO (Below.refl _ _) ?aS ?aL ?_; (case aP => exact rfl); (case aF => exact (fun _ _ => trivial)); (case aO => exact (by (with_reducible repeat (first | apply Kd.R_alloc | apply Kd.R_drewN | apply Kd.R_drew)); exact HO_5.out)); (case aS => exact (keep_size (w := w) (g := g) (row := none) (by repeat (first | (with_reducible first | exact HK.out | apply KeepBut.set_ | apply keep_drewN | apply keep_drew | apply keep_alloc) | exact HK.out)))); (case aL => have := LMc10.out; omega); intro v385 w12 ho hb hg hat; rw [← Ny384.out] at ho; have n0_ := Aside0.mk (IsS106.grown (by repeat (first | (with_reducible first | exact HI0.out | apply IsS106.alloc | apply IsS106.drewN | apply IsS106.drew | apply IsS106.set_1 | apply IsS106.set_2) | exact HI0.out)) hg (IsS106.own_ne HI0.out HO_5.out (by decide))); have n1_ := Aside0.mk (below_weaken (by repeat (first | (with_reducible first | exact HB.out | apply below_alloc | apply pw_below_drewN | apply below_drew1 | refine below_set ?_ (IsS106.ge HI0.out)) | exact HB.out)) HL.out hb); have n2_ := Aside0.mk (KeepBut.trans (by repeat (first | (with_reducible first | exact HK.out | apply KeepBut.set_ | apply keep_drewN | apply keep_drew | apply keep_alloc) | exact HK.out)) (KeepBut.of_grown hg g) (Kd.R_base2 HO_5.out)); have n3_ := Aside0.mk (ho); clear HI0; clear HB; clear HK; clear HO_5; have HI0 := n0_; have HB := n1_; have HK := n2_; have HO386 := n3_; clear n0_ n1_ n2_ n3_; clear ho hb hg hat))
            go_roundg k1
            case measure => have := HK1.out; omega
            case rel => exact ⟨(wrap64 (x1_1 - 1)), (y384), ((97 - x6_1) % 256), (t382), (t383), (by first | rfl | (simp; done) | (simp [*]; done)), (by first | rfl | (simp; done) | (simp [*]; done)), H', ⟨by have := HK1.out; omega⟩, ⟨by (with_reducible repeat (first | apply Kd.R_alloc | apply Kd.R_drewN | apply Kd.R_drew)); exact HO386.out⟩, ⟨by repeat (first | (with_reducible first | exact HI0.out | apply IsS106.alloc | apply IsS106.drewN | apply IsS106.drew | apply IsS106.set_1 | apply IsS106.set_2) | exact HI0.out)⟩, ⟨by repeat (first | (with_reducible first | exact HK.out | apply KeepBut.set_ | apply keep_drewN | apply keep_drew | apply keep_alloc) | exact HK.out)⟩, ⟨by repeat (first | (with_reducible first | exact HB.out | apply below_alloc | apply pw_below_drewN | apply below_drew1 | refine below_set ?_ (IsS106.ge HI0.out)) | exact HB.out)⟩⟩
          · rw [if_neg c10] at H
            exact absurd H (by simp)
        · replace c9 := Bool.eq_false_iff.mpr c9
          subst c9
          have H1 : (if x5_1.length < 140737488355328 then (spec_l07DrawLevels.l0 k1 (wrap64 (x1_1 - 1)) (x5_1 ++ [x6_1]) x6_1 s0_0 t382 t383) else (none)) = some (r1, r2, r3) := by rw [if_neg (show ¬ (false = true) by decide)] at H; exact H
          clear H
          have H := H1
          clear H1
          by_cases c13 : x5_1.length < 140737488355328
          · rw [if_pos c13] at H
            have LMc13 := Aside0.mk c13
            clear c13
            obtain ⟨y387, hy387⟩ : ∃ y_ : List Int, y_ = (x5_1 ++ [x6_1]) := ⟨_, rfl⟩
            replace H : (spec_l07DrawLevels.l0 k1 (wrap64 (x1_1 - 1)) y387 x6_1 s0_0 t382 t383) = some (r1, r2, r3) := by first | (rw [hy387]; with_reducible exact H) | (have H2_ := (Option.bind_some _ _).symm.trans H; rw [hy387]; with_reducible exact H2_) | (have H2_ := (Option.bind_some _ _).symm.trans H; with_reducible exact H2_) | with_reducible exact H | (rw [hy387]; exact H) | exact H
            have Ny387 := Aside0.mk hy387
            clear hy387
            have H' := Aside0.mk H
            clear H
            go_wp2_with (first | ((with_reducible refine gate_callee (f := 94) rfl ?_); refine goesL_ (some 17) rfl rfl Tryd.func94 (by kernel_rfl) rfl #[.pointer (some ⟨g, 0, none⟩), .int .i64 6] rfl (by (try simp only [List.map_toArray, List.map_cons, List.map_nil]); first | done | rfl | (simp only [List.length_drop, List.length_take]; rfl)) ?_; (with_reducible refine (spec_l00Src_one.calls g s0_0 x1001_1 x1002_1 6 false t382 t383 w0 _ ?side1 ?side2 A8.out).mono ?_); (case side1 => repeat (first | (with_reducible first | exact HI0.out | apply IsS106.alloc | apply IsS106.drewN | apply IsS106.drew | apply IsS106.set_1 | apply IsS106.set_2) | exact HI0.out)); (case side2 => repeat (first | (with_reducible first | exact HB.out | apply below_alloc | apply pw_below_drewN | apply below_drew1 | refine below_set ?_ (IsS106.ge HI0.out)) | exact HB.out)); rintro e w14 ⟨rfl, hi, hb, hk⟩; refine ⟨_, rfl, ?_⟩; have n0_ := Aside0.mk (Kd.R_mono (Kd.R_keep (IsS106.apart (show IsS106 w0 _ g s0_0 x1001_1 x1002_1 from by repeat (first | (with_reducible first | exact HI0.out | apply IsS106.alloc | apply IsS106.drewN | apply IsS106.drew | apply IsS106.set_1 | apply IsS106.set_2) | exact HI0.out)) (by (with_reducible repeat (first | apply Kd.R_alloc | apply Kd.R_drewN | apply Kd.R_drew)); exact HO_5.out) (by decide)) hk (fun _ h => h.2)) (fun _ h => h.1)); have n1_ := Aside0.mk (KeepBut.trans (by repeat (first | (with_reducible first | exact HK.out | apply KeepBut.set_ | apply keep_drewN | apply keep_drew | apply keep_alloc) | exact HK.out)) hk (.inl rfl)); have n2_ := Aside0.mk (hb); have n3_ := Aside0.mk (hi); clear HO_5; clear HK; clear HB; clear HI0; have HO_5 := n0_; have HK := n1_; have HB := n2_; have HI0 := n3_; clear n0_ n1_ n2_ n3_; (try clear hb); (try clear hb2); (try clear hk); (try clear hi)) | ((with_reducible refine gate_builtin (b := .append) (xs := #[.tmp 20, .tmp 22]) rfl ?_); at_builtin; refine Kd.R_append (Kd.int .u8) w.heap.size rfl (.tmp 20) (.tmp 22) 39 5 (.int .u8 0) 1 rfl Tryd.underlying39 info5 rfl (by decide) (by omega) u5 x5_1 x6_1 [.int .u8 x6_1] (fun _ => True) (fun _ => False) rfl rfl ?aP (fun _ hk => hk.elim) ?aF ?aO (Below.refl _ _) ?aS ?aL ?_; (case aP => exact rfl); (case aF => exact (fun _ _ => trivial)); (case aO => exact (by (with_reducible repeat (first | apply Kd.R_alloc | apply Kd.R_drewN | apply Kd.R_drew)); exact HO_5.out)); (case aS => exact (keep_size (w := w) (g := g) (row := none) (by repeat (first | (with_reducible first | exact HK.out | apply KeepBut.set_ | apply keep_drewN | apply keep_drew | apply keep_alloc) | exact HK.out)))); (case aL => have := LMc13.out; omega); intro v388 w15 ho hb hg hat; rw [← Ny387.out] at ho; have n0_ := Aside0.mk (IsS106.grown (by repeat (first | (with_reducible first | exact HI0.out | apply IsS106.alloc | apply IsS106.drewN | apply IsS106.drew | apply IsS106.set_1 | apply IsS106.set_2) | exact HI0.out)) hg (IsS106.own_ne HI0.out HO_5.out (by decide))); have n1_ := Aside0.mk (below_weaken (by repeat (first | (with_reducible first | exact HB.out | apply below_alloc | apply pw_below_drewN | apply below_drew1 | refine below_set ?_ (IsS106.ge HI0.out)) | exact HB.out)) HL.out hb); have n2_ := Aside0.mk (KeepBut.trans (by repeat (first | (with_reducible first | exact HK.out | apply KeepBut.set_ | apply keep_drewN | apply keep_drew | apply keep_alloc) | exact HK.out)) (KeepBut.of_grown hg g) (Kd.R_base2 HO_5.out)); have n3_ := Aside0.mk (ho); clear HI0; clear HB; clear HK; clear HO_5; have HI0 := n0_; have HB := n1_; have HK := n2_; have HO389 := n3_; clear n0_ n1_ n2_ n3_; clear ho hb hg hat))
            go_roundg k1
            case measure => have := HK1.out; omega
            case rel => exact ⟨(wrap64 (x1_1 - 1)), (y387), (x6_1), (t382), (t383), (by first | rfl | (simp; done) | (simp [*]; done)), (by first | rfl | (simp; done) | (simp [*]; done)), H', ⟨by have := HK1.out; omega⟩, ⟨by (with_reducible repeat (first | apply Kd.R_alloc | apply Kd.R_drewN | apply Kd.R_drew)); exact HO389.out⟩, ⟨by repeat (first | (with_reducible first | exact HI0.out | apply IsS106.alloc | apply IsS106.drewN | apply IsS106.drew | apply IsS106.set_1 | apply IsS106.set_2) | exact HI0.out)⟩, ⟨by repeat (first | (with_reducible first | exact HK.out | apply KeepBut.set_ | apply keep_drewN | apply keep_drew | apply keep_alloc) | exact HK.out)⟩, ⟨by repeat (first | (with_reducible first | exact HB.out | apply below_alloc | apply pw_below_drewN | apply below_drew1 | refine below_set ?_ (IsS106.ge HI0.out)) | exact HB.out)⟩⟩
          · rw [if_neg c13] at H
            exact absurd H (by simp)
      · rw [if_neg c7] at H
        have c7b0 : decide (0 < x1_1) = false := decide_eq_false c7
        clear c7
        simp only [Option.some.injEq, Prod.mk.injEq] at H
        obtain ⟨rfl, rfl, rfl⟩ := H
        have hcv16 := own_string (P := Tryd.prog) Tryd.underlying39 Tryd.underlying5 Tryd.underlying9 (Kd.own_of_R HO_5.out)
        go_wp2
        go_ret
        exact ⟨by first | rfl | (simp [errW_none, errW_some] <;> rfl) | (simp [*, errW_none, errW_some] <;> rfl), by repeat (first | (with_reducible first | exact HI0.out | apply IsS106.alloc | apply IsS106.drewN | apply IsS106.drew | apply IsS106.set_1 | apply IsS106.set_2) | exact HI0.out), by repeat (first | (with_reducible first | exact HB.out | apply below_alloc | apply pw_below_drewN | apply below_drew1 | refine below_set ?_ (IsS106.ge HI0.out)) | exact HB.out), by repeat (first | (with_reducible first | exact HK.out | apply KeepBut.set_ | apply keep_drewN | apply keep_drew | apply keep_alloc) | exact HK.out)⟩
end Go.Proofs.YthkpnbelbaljdaaDoor.X
end
section
-- Written by a program of this session out of the kit's print of the loaded functions: a plain function of a Go function, and its contract.
namespace Go.Proofs.YthkpnbelbaljdaaDoor.X
open Go.RowKit Go.Proofs.YthkpnbelbaljdaaDoorW.PrintWords Go.Proofs.YthkpnbelbaljdaaDoorW.PrintLast Go.Proofs.YthkpnbelbaljdaaDoorW.PrintMore
attribute [local go_sem] max2_int min2_int max_two min_two max_three min_three max_four min_four   -- for this text's walks alone
set_option linter.unusedVariables false
set_option linter.unusedSimpArgs false
/-! ### spec_B10Levels: function 28 -/
def spec_B10Levels.f (k : Nat) (l0 : List Int) (a1 : Int) : Option (ByteArray) := (spec_l00From.f l0).bind fun bt390 => ((spec_l07DrawLevels.f k bt390.1 bt390.2.1 bt390.2.2 a1).bind fun bt394 => (some bt394.1))
set_option maxHeartbeats 8000000 in
set_option maxRecDepth 100000 in
theorem spec_B10Levels.calls (k : Nat) (A0 : Option Addr) (c0 : Nat) (l0 : List Int) (a1 : Int) (r : ByteArray) (w : World) (hr0 : Kd.C (Kd.int .u8) w A0 l0.length l0) (hc0 : l0.length ≤ c0) (h : spec_B10Levels.f k l0 a1 = some r) :
    Calls Tryd.prog 28 #[.slice A0 l0.length c0, .int .i64 a1] w fun e w' => e = .returned (.string r) ∧ Below w.heap.size w w' := by
  have HR0 := Aside0.mk hr0
  have HC0 := Aside0.mk hc0
  clear hr0 hc0
  have HB := Aside0.mk (Below.refl w.heap.size w)
  have H : ((spec_l00From.f l0).bind fun bt390 => ((spec_l07DrawLevels.f k bt390.1 bt390.2.1 bt390.2.2 a1).bind fun bt394 => (some bt394.1))) = some r := h
  clear h
  replace H := Option.bind_eq_some_iff.mp H
  obtain ⟨⟨t390, t391, t392⟩, A30, H⟩ := H
  replace H : ((spec_l07DrawLevels.f k t390 t391 t392 a1).bind fun bt394 => (some bt394.1)) = some r := H
  have A3 := Aside0.mk A30
  clear A30
  replace H := Option.bind_eq_some_iff.mp H
  obtain ⟨⟨t394, t395, t396⟩, A40, H⟩ := H
  replace H : (some t394) = some r := H
  have A4 := Aside0.mk A40
  clear A40
  obtain rfl := Option.some.inj H
  go_enter Tryd.func28, Tryd.ntmps28
  go_wp2_with (first | ((with_reducible refine gate_callee (f := 62) rfl ?_); refine goesL_ (some 7) rfl rfl Tryd.func62 (by kernel_rfl) rfl #[.slice A0 l0.length c0] rfl (by (try simp only [List.map_toArray, List.map_cons, List.map_nil]); first | done | rfl | (simp only [List.length_drop, List.length_take]; rfl)) ?_; (with_reducible refine (spec_l00From.calls _ _ l0 t390 t391 t392 w _ ?side1 ?side2 ?side3 A3.out).mono ?_); (case side1 => repeat (first | (with_reducible first | exact HB.out | apply below_alloc | apply pw_below_drewN | apply below_drew1) | exact HB.out)); (case side2 => exact HR0.out); (case side3 => first | exact trivial | (exact HC0.out)); rintro e w5 ⟨g393, rfl, hi, hb, hb2⟩; refine ⟨_, rfl, ?_⟩; have n0_ := Aside0.mk (hb); have n1_ := Aside0.mk (hi); clear HB; have HB := n0_; have HI393 := n1_; clear n0_ n1_; (try clear hb); (try clear hb2); (try clear hk); (try clear hi)) | ((with_reducible refine gate_callee (f := 64) rfl ?_); refine goesL_ (some 10) rfl rfl Tryd.func64 (by kernel_rfl) rfl #[.pointer (some ⟨g393, 0, none⟩), .int .i64 a1] rfl (by (try simp only [List.map_toArray, List.map_cons, List.map_nil]); first | done | rfl | (simp only [List.length_drop, List.length_take]; rfl)) ?_; (with_reducible refine (spec_l07DrawLevels.calls k g393 t390 t391 t392 a1 t394 t395 t396 w _ ?side1 ?side2 A4.out).mono ?_); (case side1 => repeat (first | (with_reducible first | exact HI393.out | apply IsS106.alloc | apply IsS106.drewN | apply IsS106.drew | apply IsS106.set_1 | apply IsS106.set_2) | exact HI393.out)); (case side2 => repeat (first | (with_reducible first | exact HB.out | apply below_alloc | apply pw_below_drewN | apply below_drew1 | refine below_set ?_ (IsS106.ge HI393.out)) | exact HB.out)); rintro e w6 ⟨rfl, hi, hb, hk⟩; refine ⟨_, rfl, ?_⟩; have n0_ := Aside0.mk (hb); have n1_ := Aside0.mk (hi); clear HB; clear HI393; have HB := n0_; have HI393 := n1_; clear n0_ n1_; (try clear hb); (try clear hb2); (try clear hk); (try clear hi)))
  go_ret
  exact ⟨by first | rfl | (simp [errW_none, errW_some] <;> rfl) | (simp [*, errW_none, errW_some] <;> rfl), by repeat (first | (with_reducible first | exact HB.out | apply below_alloc | apply pw_below_drewN | apply below_drew1 | refine below_set ?_ (IsS106.ge HI393.out)) | exact HB.out)⟩
end Go.Proofs.YthkpnbelbaljdaaDoor.X
end
section
-- Written by a program of this session out of the kit's print of the loaded functions: a plain function of a Go function, and its contract.
namespace Go.Proofs.YthkpnbelbaljdaaDoor.X
open Go.RowKit Go.Proofs.YthkpnbelbaljdaaDoorW.PrintWords Go.Proofs.YthkpnbelbaljdaaDoorW.PrintLast Go.Proofs.YthkpnbelbaljdaaDoorW.PrintMore
attribute [local go_sem] max2_int min2_int max_two min_two max_three min_three max_four min_four   -- for this text's walks alone
set_option linter.unusedVariables false
set_option linter.unusedSimpArgs false
/-! ### spec_l01DrawGood: function 66 -/
def spec_l01DrawGood.l0 : Nat → List Int → Int → Int → Int → List Int → Int → Int → Option (ByteArray × Int × Int)
  | 0, _, _, _, _, _, _, _ => none
  | k + 1, x5, x6, x7, x8, x1000, x1001, x1002 => if x8 > 0 then ((spec_l00Src_one.f x1000 x1001 x1002 x7).bind fun bt431 => (if bt431.1 = true then ((spec_l00Src_pick.f x1000 bt431.2.1 bt431.2.2 2).bind fun bt434 => (if x5.length < 140737488355328 then (spec_l01DrawGood.l0 k (x5 ++ [(wrap64 (48 + bt434.1)) % 256]) ((wrap64 (48 + bt434.1)) % 256) x7 (wrap64 (x8 - 1)) x1000 bt434.2.1 bt434.2.2) else (none))) else (if x5.length < 140737488355328 then (spec_l01DrawGood.l0 k (x5 ++ [x6]) x6 x7 (wrap64 (x8 - 1)) x1000 bt431.2.1 bt431.2.2) else (none)))) else (some (strOfNums x5, x1001, x1002))
def spec_l01DrawGood.f (k : Nat) (s0_0 : List Int) (s0_1 : Int) (s0_2 : Int) (a1 : Int) : Option (ByteArray × Int × Int) := (spec_l00Src_pick.f s0_0 s0_1 s0_2 2).bind fun bt422 => ((spec_l00Src_pick.f s0_0 bt422.2.1 bt422.2.2 5).bind fun bt425 => ((spec_l00Src_pick.f s0_0 bt425.2.1 bt425.2.2 (wrap64 (a1 + 1))).bind fun bt428 => (spec_l01DrawGood.l0 k (([] : List Int)) ((wrap64 (48 + bt422.1)) % 256) (wrap64 (1 + bt425.1)) bt428.1 s0_0 bt428.2.1 bt428.2.2)))
set_option maxHeartbeats 8000000 in
set_option maxRecDepth 100000 in
theorem spec_l01DrawGood.calls (k : Nat) (g : Nat) (s0_0 : List Int) (s0_1 : Int) (s0_2 : Int) (a1 : Int) (r1 : ByteArray) (r2 : Int) (r3 : Int) (w0 w : World) (hI : IsS106 w0 w g s0_0 s0_1 s0_2) (hB : Below w0.heap.size w0 w) (h : spec_l01DrawGood.f k s0_0 s0_1 s0_2 a1 = some (r1, r2, r3)) :
    Calls Tryd.prog 66 #[.pointer (some ⟨g, 0, none⟩), .int .i64 a1] w fun e w' => e = .returned (.string r1) ∧ IsS106 w0 w' g s0_0 r2 r3 ∧ Below w0.heap.size w0 w' ∧ KeepBut w w' g none := by
  have HI0 := Aside0.mk hI
  have HK := Aside0.mk (KeepBut.refl w g none)
  have HL := Aside0.mk hB.size
  clear hI
  have HW0 := Aside0.mk hB.size
  have HB := Aside0.mk hB
  clear hB
  have H : ((spec_l00Src_pick.f s0_0 s0_1 s0_2 2).bind fun bt422 => ((spec_l00Src_pick.f s0_0 bt422.2.1 bt422.2.2 5).bind fun bt425 => ((spec_l00Src_pick.f s0_0 bt425.2.1 bt425.2.2 (wrap64 (a1 + 1))).bind fun bt428 => (spec_l01DrawGood.l0 k (([] : List Int)) ((wrap64 (48 + bt422.1)) % 256) (wrap64 (1 + bt425.1)) bt428.1 s0_0 bt428.2.1 bt428.2.2)))) = some (r1, r2, r3) := h
  clear h
  obtain ⟨y419, hy419⟩ : ∃ y_ : List Int, y_ = (([] : List Int)) := ⟨_, rfl⟩
  replace H : ((spec_l00Src_pick.f s0_0 s0_1 s0_2 2).bind fun bt422 => ((spec_l00Src_pick.f s0_0 bt422.2.1 bt422.2.2 5).bind fun bt425 => ((spec_l00Src_pick.f s0_0 bt425.2.1 bt425.2.2 (wrap64 (a1 + 1))).bind fun bt428 => (spec_l01DrawGood.l0 k y419 ((wrap64 (48 + bt422.1)) % 256) (wrap64 (1 + bt425.1)) bt428.1 s0_0 bt428.2.1 bt428.2.2)))) = some (r1, r2, r3) := by first | (rw [hy419]; with_reducible exact H) | (have H2_ := (Option.bind_some _ _).symm.trans H; rw [hy419]; with_reducible exact H2_) | (have H2_ := (Option.bind_some _ _).symm.trans H; with_reducible exact H2_) | with_reducible exact H | (rw [hy419]; exact H) | exact H
  have Ny419 := Aside0.mk hy419
  clear hy419
  replace H := Option.bind_eq_some_iff.mp H
  obtain ⟨⟨t422, t423, t424⟩, A30, H⟩ := H
  replace H : ((spec_l00Src_pick.f s0_0 t423 t424 5).bind fun bt425 => ((spec_l00Src_pick.f s0_0 bt425.2.1 bt425.2.2 (wrap64 (a1 + 1))).bind fun bt428 => (spec_l01DrawGood.l0 k y419 ((wrap64 (48 + t422)) % 256) (wrap64 (1 + bt425.1)) bt428.1 s0_0 bt428.2.1 bt428.2.2))) = some (r1, r2, r3) := H
  have A3 := Aside0.mk A30
  clear A30
  replace H := Option.bind_eq_some_iff.mp H
  obtain ⟨⟨t425, t426, t427⟩, A40, H⟩ := H
  replace H : ((spec_l00Src_pick.f s0_0 t426 t427 (wrap64 (a1 + 1))).bind fun bt428 => (spec_l01DrawGood.l0 k y419 ((wrap64 (48 + t422)) % 256) (wrap64 (1 + t425)) bt428.1 s0_0 bt428.2.1 bt428.2.2)) = some (r1, r2, r3) := H
  have A4 := Aside0.mk A40
  clear A40
  replace H := Option.bind_eq_some_iff.mp H
  obtain ⟨⟨t428, t429, t430⟩, A50, H⟩ := H
  replace H : (spec_l01DrawGood.l0 k y419 ((wrap64 (48 + t422)) % 256) (wrap64 (1 + t425)) t428 s0_0 t429 t430) = some (r1, r2, r3) := H
  have A5 := Aside0.mk A50
  clear A50
  have H' := Aside0.mk H
  clear H
  go_enter Tryd.func66, Tryd.ntmps66
  go_wp2_with (first | ((with_reducible refine gate_dst (N := 9) rfl ?_); refine Kd.R_lit (Kd.int .u8) _ 5 ?hg (N := 9) ?hd (xs := ([] : List Int)) (inner := []) (ok := fun _ => True) (okp := fun _ => True) ?hr ?hp (fun _ hk => hk) trivial (Below.refl _ _) (Nat.le_refl _) (by simp) ?_; (case hd => rfl); (case hg => rfl); (case hr => first | (go_simp; done) | (go_simp; rfl)); (case hp => exact (Reps.none _ _)); intro v420 w6 ho7 hb hg_ hnew_; clear hg_ hnew_; (first | rw [← Ny419.out] at ho7 | (simp only [Int.reduceToNat] at ho7; rw [← Ny419.out] at ho7)); have n0_ := Aside0.mk (Kd.R_lower ho7 (keep_size (w := w) (g := g) (row := none) (by repeat (first | (with_reducible first | exact HK.out | apply KeepBut.set_ | apply keep_drewN | apply keep_drew | apply keep_alloc) | exact HK.out)))); have n1_ := Aside0.mk (IsS106.below (by repeat (first | (with_reducible first | exact HI0.out | apply IsS106.alloc | apply IsS106.drewN | apply IsS106.drew | apply IsS106.set_1 | apply IsS106.set_2) | exact HI0.out)) hb); have n2_ := Aside0.mk (KeepBut.trans (by repeat (first | (with_reducible first | exact HK.out | apply KeepBut.set_ | apply keep_drewN | apply keep_drew | apply keep_alloc) | exact HK.out)) (KeepBut.of_below hb g none) (.inl rfl)); have n3_ := Aside0.mk (below_step (by repeat (first | (with_reducible first | exact HB.out | apply below_alloc | apply pw_below_drewN | apply below_drew1 | refine below_set ?_ (IsS106.ge HI0.out)) | exact HB.out)) hb); clear HI0; clear HK; clear HB; have HO421 := n0_; have HI0 := n1_; have HK := n2_; have HB := n3_; clear n0_ n1_ n2_ n3_; clear hb ho7) | ((with_reducible refine gate_callee (f := 63) rfl ?_); refine goesL_ (some 11) rfl rfl Tryd.func63 (by kernel_rfl) rfl #[.pointer (some ⟨g, 0, none⟩), .int .i64 2] rfl (by (try simp only [List.map_toArray, List.map_cons, List.map_nil]); first | done | rfl | (simp only [List.length_drop, List.length_take]; rfl)) ?_; (with_reducible refine (spec_l00Src_pick.calls g s0_0 s0_1 s0_2 2 t422 t423 t424 w0 _ ?side1 ?side2 A3.out).mono ?_); (case side1 => repeat (first | (with_reducible first | exact HI0.out | apply IsS106.alloc | apply IsS106.drewN | apply IsS106.drew | apply IsS106.set_1 | apply IsS106.set_2) | exact HI0.out)); (case side2 => repeat (first | (with_reducible first | exact HB.out | apply below_alloc | apply pw_below_drewN | apply below_drew1 | refine below_set ?_ (IsS106.ge HI0.out)) | exact HB.out)); rintro e w8 ⟨rfl, hi, hb, hk⟩; refine ⟨_, rfl, ?_⟩; have n0_ := Aside0.mk (Kd.R_mono (Kd.R_keep (IsS106.apart (show IsS106 w0 _ g s0_0 s0_1 s0_2 from by repeat (first | (with_reducible first | exact HI0.out | apply IsS106.alloc | apply IsS106.drewN | apply IsS106.drew | apply IsS106.set_1 | apply IsS106.set_2) | exact HI0.out)) (by (with_reducible repeat (first | apply Kd.R_alloc | apply Kd.R_drewN | apply Kd.R_drew)); exact HO421.out) (by decide)) hk (fun _ h => h.2)) (fun _ h => h.1)); have n1_ := Aside0.mk (KeepBut.trans (by repeat (first | (with_reducible first | exact HK.out | apply KeepBut.set_ | apply keep_drewN | apply keep_drew | apply keep_alloc) | exact HK.out)) hk (.inl rfl)); have n2_ := Aside0.mk (hb); have n3_ := Aside0.mk (hi); clear HO421; clear HK; clear HB; clear HI0; have HO421 := n0_; have HK := n1_; have HB := n2_; have HI0 := n3_; clear n0_ n1_ n2_ n3_; (try clear hb); (try clear hb2); (try clear hk); (try clear hi)) | ((with_reducible refine gate_callee (f := 63) rfl ?_); refine goesL_ (some 15) rfl rfl Tryd.func63 (by kernel_rfl) rfl #[.pointer (some ⟨g, 0, none⟩), .int .i64 5] rfl (by (try simp only [List.map_toArray, List.map_cons, List.map_nil]); first | done | rfl | (simp only [List.length_drop, List.length_take]; rfl)) ?_; (with_reducible refine (spec_l00Src_pick.calls g s0_0 t423 t424 5 t425 t426 t427 w0 _ ?side1 ?side2 A4.out).mono ?_); (case side1 => repeat (first | (with_reducible first | exact HI0.out | apply IsS106.alloc | apply IsS106.drewN | apply IsS106.drew | apply IsS106.set_1 | apply IsS106.set_2) | exact HI0.out)); (case side2 => repeat (first | (with_reducible first | exact HB.out | apply below_alloc | apply pw_below_drewN | apply below_drew1 | refine below_set ?_ (IsS106.ge HI0.out)) | exact HB.out)); rintro e w9 ⟨rfl, hi, hb, hk⟩; refine ⟨_, rfl, ?_⟩; have n0_ := Aside0.mk (Kd.R_mono (Kd.R_keep (IsS106.apart (show IsS106 w0 _ g s0_0 t423 t424 from by repeat (first | (with_reducible first | exact HI0.out | apply IsS106.alloc | apply IsS106.drewN | apply IsS106.drew | apply IsS106.set_1 | apply IsS106.set_2) | exact HI0.out)) (by (with_reducible repeat (first | apply Kd.R_alloc | apply Kd.R_drewN | apply Kd.R_drew)); exact HO421.out) (by decide)) hk (fun _ h => h.2)) (fun _ h => h.1)); have n1_ := Aside0.mk (KeepBut.trans (by repeat (first | (with_reducible first | exact HK.out | apply KeepBut.set_ | apply keep_drewN | apply keep_drew | apply keep_alloc) | exact HK.out)) hk (.inl rfl)); have n2_ := Aside0.mk (hb); have n3_ := Aside0.mk (hi); clear HO421; clear HK; clear HB; clear HI0; have HO421 := n0_; have HK := n1_; have HB := n2_; have HI0 := n3_; clear n0_ n1_ n2_ n3_; (try clear hb); (try clear hb2); (try clear hk); (try clear hi)) | ((with_reducible refine gate_callee (f := 63) rfl ?_); refine goesL_ (some 20) rfl rfl Tryd.func63 (by kernel_rfl) rfl #[.pointer (some ⟨g, 0, none⟩), .int .i64 (wrap64 (a1 + 1))] rfl (by (try simp only [List.map_toArray, List.map_cons, List.map_nil]); first | done | rfl | (simp only [List.length_drop, List.length_take]; rfl)) ?_; (with_reducible refine (spec_l00Src_pick.calls g s0_0 t426 t427 (wrap64 (a1 + 1)) t428 t429 t430 w0 _ ?side1 ?side2 A5.out).mono ?_); (case side1 => repeat (first | (with_reducible first | exact HI0.out | apply IsS106.alloc | apply IsS106.drewN | apply IsS106.drew | apply IsS106.set_1 | apply IsS106.set_2) | exact HI0.out)); (case side2 => repeat (first | (with_reducible first | exact HB.out | apply below_alloc | apply pw_below_drewN | apply below_drew1 | refine below_set ?_ (IsS106.ge HI0.out)) | exact HB.out)); rintro e w10 ⟨rfl, hi, hb, hk⟩; refine ⟨_, rfl, ?_⟩; have n0_ := Aside0.mk (Kd.R_mono (Kd.R_keep (IsS106.apart (show IsS106 w0 _ g s0_0 t426 t427 from by repeat (first | (with_reducible first | exact HI0.out | apply IsS106.alloc | apply IsS106.drewN | apply IsS106.drew | apply IsS106.set_1 | apply IsS106.set_2) | exact HI0.out)) (by (with_reducible repeat (first | apply Kd.R_alloc | apply Kd.R_drewN | apply Kd.R_drew)); exact HO421.out) (by decide)) hk (fun _ h => h.2)) (fun _ h => h.1)); have n1_ := Aside0.mk (KeepBut.trans (by repeat (first | (with_reducible first | exact HK.out | apply KeepBut.set_ | apply keep_drewN | apply keep_drew | apply keep_alloc) | exact HK.out)) hk (.inl rfl)); have n2_ := Aside0.mk (hb); have n3_ := Aside0.mk (hi); clear HO421; clear HK; clear HB; clear HI0; have HO421 := n0_; have HK := n1_; have HB := n2_; have HI0 := n3_; clear n0_ n1_ n2_ n3_; (try clear hb); (try clear hb2); (try clear hk); (try clear hi)))
  go_loopg [5, 6, 8] k (fun kq v5 v6 v8 w' => ∃ (x5_1 : List Int) (x6_1 : Int) (x8_1 : Int) (x1001_1 : Int) (x1002_1 : Int), v6 = .int .u8 x6_1 ∧ v8 = .int .i64 x8_1 ∧ Aside0 (spec_l01DrawGood.l0 kq x5_1 x6_1 (wrap64 (1 + t425)) x8_1 s0_0 x1001_1 x1002_1 = some (r1, r2, r3)) ∧ Aside0 (kq ≤ k) ∧ Aside0 (Kd.R (Kd.int .u8) 5 w' w.heap.size (fun _ => True) v5 x5_1) ∧ Aside0 (IsS106 w0 w' g s0_0 x1001_1 x1002_1) ∧ Aside0 (KeepBut w w' g none) ∧ Aside0 (Below w0.heap.size w0 w'))
  case atStart => exact ⟨(y419), ((wrap64 (48 + t422)) % 256), (t428), (t429), (t430), (by first | rfl | (simp; done) | (simp [*]; done)), (by first | rfl | (simp; done) | (simp [*]; done)), H', ⟨Nat.le_refl _⟩, ⟨by (with_reducible repeat (first | apply Kd.R_alloc | apply Kd.R_drewN | apply Kd.R_drew)); exact HO421.out⟩, ⟨by repeat (first | (with_reducible first | exact HI0.out | apply IsS106.alloc | apply IsS106.drewN | apply IsS106.drew | apply IsS106.set_1 | apply IsS106.set_2) | exact HI0.out)⟩, ⟨by repeat (first | (with_reducible first | exact HK.out | apply KeepBut.set_ | apply keep_drewN | apply keep_drew | apply keep_alloc) | exact HK.out)⟩, ⟨by repeat (first | (with_reducible first | exact HB.out | apply below_alloc | apply pw_below_drewN | apply below_drew1 | refine below_set ?_ (IsS106.ge HI0.out)) | exact HB.out)⟩⟩
  case round =>
    clear H'
    try clear p2
    try clear c6
    try clear p6
    obtain ⟨x5_1, x6_1, x8_1, x1001_1, x1002_1, rfl, rfl, HA, HK1, HO_5, HI0, HK, HB⟩ := hrel
    cases gk with
    | zero => exact absurd HA.out (by simp [spec_l01DrawGood.l0])
    | succ k1 =>
      have H := HA.out
      clear HA
      simp only [spec_l01DrawGood.l0] at H
      by_cases c11 : x8_1 > 0
      · rw [if_pos c11] at H
        have c11b0 : decide (0 < x8_1) = true := decide_eq_true c11
        clear c11
        replace H := Option.bind_eq_some_iff.mp H
        obtain ⟨⟨t431, t432, t433⟩, A120, H⟩ := H
        replace H : (if t431 = true then ((spec_l00Src_pick.f s0_0 t432 t433 2).bind fun bt434 => (if x5_1.length < 140737488355328 then (spec_l01DrawGood.l0 k1 (x5_1 ++ [(wrap64 (48 + bt434.1)) % 256]) ((wrap64 (48 + bt434.1)) % 256) (wrap64 (1 + t425)) (wrap64 (x8_1 - 1)) s0_0 bt434.2.1 bt434.2.2) else (none))) else (if x5_1.length < 140737488355328 then (spec_l01DrawGood.l0 k1 (x5_1 ++ [x6_1]) x6_1 (wrap64 (1 + t425)) (wrap64 (x8_1 - 1)) s0_0 t432 t433) else (none))) = some (r1, r2, r3) := H
        have A12 := Aside0.mk A120
        clear A120
        by_cases c13 : t431 = true
        · subst c13
          have H1 : ((spec_l00Src_pick.f s0_0 t432 t433 2).bind fun bt434 => (if x5_1.length < 140737488355328 then (spec_l01DrawGood.l0 k1 (x5_1 ++ [(wrap64 (48 + bt434.1)) % 256]) ((wrap64 (48 + bt434.1)) % 256) (wrap64 (1 + t425)) (wrap64 (x8_1 - 1)) s0_0 bt434.2.1 bt434.2.2) else (none))) = some (r1, r2, r3) := by rw [if_pos rfl] at H; exact H
          clear H
          have H := H1
          clear H1
          replace H := Option.bind_eq_some_iff.mp H
          obtain ⟨⟨t434, t435, t436⟩, A140, H⟩ := H
          replace H : (if x5_1.length < 140737488355328 then (spec_l01DrawGood.l0 k1 (x5_1 ++ [(wrap64 (48 + t434)) % 256]) ((wrap64 (48 + t434)) % 256) (wrap64 (1 + t425)) (wrap64 (x8_1 - 1)) s0_0 t435 t436) else (none)) = some (r1, r2, r3) := H
          have A14 := Aside0.mk A140
          clear A140
          by_cases c15 : x5_1.length < 140737488355328
          · rw [if_pos c15] at H
            have LMc15 := Aside0.mk c15
            clear c15
            obtain ⟨y437, hy437⟩ : ∃ y_ : List Int, y_ = (x5_1 ++ [(wrap64 (48 + t434)) % 256]) := ⟨_, rfl⟩
            replace H : (spec_l01DrawGood.l0 k1 y437 ((wrap64 (48 + t434)) % 256) (wrap64 (1 + t425)) (wrap64 (x8_1 - 1)) s0_0 t435 t436) = some (r1, r2, r3) := by first | (rw [hy437]; with_reducible exact H) | (have H2_ := (Option.bind_some _ _).symm.trans H; rw [hy437]; with_reducible exact H2_) | (have H2_ := (Option.bind_some _ _).symm.trans H; with_reducible exact H2_) | with_reducible exact H | (rw [hy437]; exact H) | exact H
            have Ny437 := Aside0.mk hy437
            clear hy437
            have H' := Aside0.mk H
            clear H
            go_wp2_with (first | ((with_reducible refine gate_callee (f := 94) rfl ?_); refine goesL_ (some 27) rfl rfl Tryd.func94 (by kernel_rfl) rfl #[.pointer (some ⟨g, 0, none⟩), .int .i64 (wrap64 (1 + t425))] rfl (by (try simp only [List.map_toArray, List.map_cons, List.map_nil]); first | done | rfl | (simp only [List.length_drop, List.length_take]; rfl)) ?_; (with_reducible refine (spec_l00Src_one.calls g s0_0 x1001_1 x1002_1 (wrap64 (1 + t425)) true t432 t433 w0 _ ?side1 ?side2 A12.out).mono ?_); (case side1 => repeat (first | (with_reducible first | exact HI0.out | apply IsS106.alloc | apply IsS106.drewN | apply IsS106.drew | apply IsS106.set_1 | apply IsS106.set_2) | exact HI0.out)); (case side2 => repeat (first | (with_reducible first | exact HB.out | apply below_alloc | apply pw_below_drewN | apply below_drew1 | refine below_set ?_ (IsS106.ge HI0.out)) | exact HB.out)); rintro e w16 ⟨rfl, hi, hb, hk⟩; refine ⟨_, rfl, ?_⟩; have n0_ := Aside0.mk (Kd.R_mono (Kd.R_keep (IsS106.apart (show IsS106 w0 _ g s0_0 x1001_1 x1002_1 from by repeat (first | (with_reducible first | exact HI0.out | apply IsS106.alloc | apply IsS106.drewN | apply IsS106.drew | apply IsS106.set_1 | apply IsS106.set_2) | exact HI0.out)) (by (with_reducible repeat (first | apply Kd.R_alloc | apply Kd.R_drewN | apply Kd.R_drew)); exact HO_5.out) (by decide)) hk (fun _ h => h.2)) (fun _ h => h.1)); have n1_ := Aside0.mk (KeepBut.trans (by repeat (first | (with_reducible first | exact HK.out | apply KeepBut.set_ | apply keep_drewN | apply keep_drew | apply keep_alloc) | exact HK.out)) hk (.inl rfl)); have n2_ := Aside0.mk (hb); have n3_ := Aside0.mk (hi); clear HO_5; clear HK; clear HB; clear HI0; have HO_5 := n0_; have HK := n1_; have HB := n2_; have HI0 := n3_; clear n0_ n1_ n2_ n3_; (try clear hb); (try clear hb2); (try clear hk); (try clear hi)) | ((with_reducible refine gate_callee (f := 63) rfl ?_); refine goesL_ (some 29) rfl rfl Tryd.func63 (by kernel_rfl) rfl #[.pointer (some ⟨g, 0, none⟩), .int .i64 2] rfl (by (try simp only [List.map_toArray, List.map_cons, List.map_nil]); first | done | rfl | (simp only [List.length_drop, List.length_take]; rfl)) ?_; (with_reducible refine (spec_l00Src_pick.calls g s0_0 t432 t433 2 t434 t435 t436 w0 _ ?side1 ?side2 A14.out).mono ?_); (case side1 => repeat (first | (with_reducible first | exact HI0.out | apply IsS106.alloc | apply IsS106.drewN | apply IsS106.drew | apply IsS106.set_1 | apply IsS106.set_2) | exact HI0.out)); (case side2 => repeat (first | (with_reducible first | exact HB.out | apply below_alloc | apply pw_below_drewN | apply below_drew1 | refine below_set ?_ (IsS106.ge HI0.out)) | exact HB.out)); rintro e w17 ⟨rfl, hi, hb, hk⟩; refine ⟨_, rfl, ?_⟩; have n0_ := Aside0.mk (Kd.R_mono (Kd.R_keep (IsS106.apart (show IsS106 w0 _ g s0_0 t432 t433 from by repeat (first | (with_reducible first | exact HI0.out | apply IsS106.alloc | apply IsS106.drewN | apply IsS106.drew | apply IsS106.set_1 | apply IsS106.set_2) | exact HI0.out)) (by (with_reducible repeat (first | apply Kd.R_alloc | apply Kd.R_drewN | apply Kd.R_drew)); exact HO_5.out) (by decide)) hk (fun _ h => h.2)) (fun _ h => h.1)); have n1_ := Aside0.mk (KeepBut.trans (by repeat (first | (with_reducible first | exact HK.out | apply KeepBut.set_ | apply keep_drewN | apply keep_drew | apply keep_alloc) | exact HK.out)) hk (.inl rfl)); have n2_ := Aside0.mk (hb); have n3_ := Aside0.mk (hi); clear HO_5; clear HK; clear HB; clear HI0; have HO_5 := n0_; have HK := n1_; have HB := n2_; have HI0 := n3_; clear n0_ n1_ n2_ n3_; (try clear hb); (try clear hb2); (try clear hk); (try clear hi)) | ((with_reducible refine gate_builtin (b := .append) (xs := #[.tmp 32, .tmp 34]) rfl ?_); at_builtin; refine Kd.R_append (Kd.int .u8) w.heap.size rfl (.tmp 32) (.tmp 34) 39 5 (.int .u8 0) 1 rfl Tryd.underlying39 info5 rfl (by decide) (by omega) u5 x5_1 ((wrap64 (48 + t434)) % 256) [.int .u8 ((wrap64 (48 + t434)) % 256)] (fun _ => True) (fun _ => False) rfl rfl ?aP (fun _ hk => hk.elim) ?aF ?aO (Below.refl _ _) ?aS ?aL ?_; (case aP => exact rfl); (case aF => exact (fun _ _ => trivial)); (case aO => exact (by (with_reducible repeat (first | apply Kd.R_alloc | apply Kd.R_drewN | apply Kd.R_drew)); exact HO_5.out)); (case aS => exact (keep_size (w := w) (g := g) (row := none) (by repeat (first | (with_reducible first | exact HK.out | apply KeepBut.set_ | apply keep_drewN | apply keep_drew | apply keep_alloc) | exact HK.out)))); (case aL => have := LMc15.out; omega); intro v438 w18 ho hb hg hat; rw [← Ny437.out] at ho; have n0_ := Aside0.mk (IsS106.grown (by repeat (first | (with_reducible first | exact HI0.out | apply IsS106.alloc | apply IsS106.drewN | apply IsS106.drew | apply IsS106.set_1 | apply IsS106.set_2) | exact HI0.out)) hg (IsS106.own_ne HI0.out HO_5.out (by decide))); have n1_ := Aside0.mk (below_weaken (by repeat (first | (with_reducible first | exact HB.out | apply below_alloc | apply pw_below_drewN | apply below_drew1 | refine below_set ?_ (IsS106.ge HI0.out)) | exact HB.out)) HL.out hb); have n2_ := Aside0.mk (KeepBut.trans (by repeat (first | (with_reducible first | exact HK.out | apply KeepBut.set_ | apply keep_drewN | apply keep_drew | apply keep_alloc) | exact HK.out)) (KeepBut.of_grown hg g) (Kd.R_base2 HO_5.out)); have n3_ := Aside0.mk (ho); clear HI0; clear HB; clear HK; clear HO_5; have HI0 := n0_; have HB := n1_; have HK := n2_; have HO439 := n3_; clear n0_ n1_ n2_ n3_; clear ho hb hg hat))
            go_roundg k1
            case measure => have := HK1.out; omega
            case rel => exact ⟨(y437), ((wrap64 (48 + t434)) % 256), (wrap64 (x8_1 - 1)), (t435), (t436), (by first | rfl | (simp; done) | (simp [*]; done)), (by first | rfl | (simp; done) | (simp [*]; done)), H', ⟨by have := HK1.out; omega⟩, ⟨by (with_reducible repeat (first | apply Kd.R_alloc | apply Kd.R_drewN | apply Kd.R_drew)); exact HO439.out⟩, ⟨by repeat (first | (with_reducible first | exact HI0.out | apply IsS106.alloc | apply IsS106.drewN | apply IsS106.drew | apply IsS106.set_1 | apply IsS106.set_2) | exact HI0.out)⟩, ⟨by repeat (first | (with_reducible first | exact HK.out | apply KeepBut.set_ | apply keep_drewN | apply keep_drew | apply keep_alloc) | exact HK.out)⟩, ⟨by repeat (first | (with_reducible first | exact HB.out | apply below_alloc | apply pw_below_drewN | apply below_drew1 | refine below_set ?_ (IsS106.ge HI0.out)) | exact HB.out)⟩⟩
          · rw [if_neg c15] at H
            exact absurd H (by simp)
        · replace c13 := Bool.eq_false_iff.mpr c13
          subst c13
          have H1 : (if x5_1.length < 140737488355328 then (spec_l01DrawGood.l0 k1 (x5_1 ++ [x6_1]) x6_1 (wrap64 (1 + t425)) (wrap64 (x8_1 - 1)) s0_0 t432 t433) else (none)) = some (r1, r2, r3) := by rw [if_neg (show ¬ (false = true) by decide)] at H; exact H
          clear H
          have H := H1
          clear H1
          by_cases c19 : x5_1.length < 140737488355328
          · rw [if_pos c19] at H
            have LMc19 := Aside0.mk c19
            clear c19
            obtain ⟨y440, hy440⟩ : ∃ y_ : List Int, y_ = (x5_1 ++ [x6_1]) := ⟨_, rfl⟩
            replace H : (spec_l01DrawGood.l0 k1 y440 x6_1 (wrap64 (1 + t425)) (wrap64 (x8_1 - 1)) s0_0 t432 t433) = some (r1, r2, r3) := by first | (rw [hy440]; with_reducible exact H) | (have H2_ := (Option.bind_some _ _).symm.trans H; rw [hy440]; with_reducible exact H2_) | (have H2_ := (Option.bind_some _ _).symm.trans H; with_reducible exact H2_) | with_reducible exact H | (rw [hy440]; exact H) | exact H
            have Ny440 := Aside0.mk hy440
            clear hy440
            have H' := Aside0.mk H
            clear H
            go_wp2_with (first | ((with_reducible refine gate_callee (f := 94) rfl ?_); refine goesL_ (some 27) rfl rfl Tryd.func94 (by kernel_rfl) rfl #[.pointer (some ⟨g, 0, none⟩), .int .i64 (wrap64 (1 + t425))] rfl (by (try simp only [List.map_toArray, List.map_cons, List.map_nil]); first | done | rfl | (simp only [List.length_drop, List.length_take]; rfl)) ?_; (with_reducible refine (spec_l00Src_one.calls g s0_0 x1001_1 x1002_1 (wrap64 (1 + t425)) false t432 t433 w0 _ ?side1 ?side2 A12.out).mono ?_); (case side1 => repeat (first | (with_reducible first | exact HI0.out | apply IsS106.alloc | apply IsS106.drewN | apply IsS106.drew | apply IsS106.set_1 | apply IsS106.set_2) | exact HI0.out)); (case side2 => repeat (first | (with_reducible first | exact HB.out | apply below_alloc | apply pw_below_drewN | apply below_drew1 | refine below_set ?_ (IsS106.ge HI0.out)) | exact HB.out)); rintro e w20 ⟨rfl, hi, hb, hk⟩; refine ⟨_, rfl, ?_⟩; have n0_ := Aside0.mk (Kd.R_mono (Kd.R_keep (IsS106.apart (show IsS106 w0 _ g s0_0 x1001_1 x1002_1 from by repeat (first | (with_reducible first | exact HI0.out | apply IsS106.alloc | apply IsS106.drewN | apply IsS106.drew | apply IsS106.set_1 | apply IsS106.set_2) | exact HI0.out)) (by (with_reducible repeat (first | apply Kd.R_alloc | apply Kd.R_drewN | apply Kd.R_drew)); exact HO_5.out) (by decide)) hk (fun _ h => h.2)) (fun _ h => h.1)); have n1_ := Aside0.mk (KeepBut.trans (by repeat (first | (with_reducible first | exact HK.out | apply KeepBut.set_ | apply keep_drewN | apply keep_drew | apply keep_alloc) | exact HK.out)) hk (.inl rfl)); have n2_ := Aside0.mk (hb); have n3_ := Aside0.mk (hi); clear HO_5; clear HK; clear HB; clear HI0; have HO_5 := n0_; have HK := n1_; have HB := n2_; have HI0 := n3_; clear n0_ n1_ n2_ n3_; (try clear hb); (try clear hb2); (try clear hk); (try clear hi)) | ((with_reducible refine gate_builtin (b := .append) (xs := #[.tmp 32, .tmp 34]) rfl ?_); at_builtin; refine Kd.R_append (Kd.int .u8) w.heap.size rfl (.tmp 32) (.tmp 34) 39 5 (.int .u8 0) 1 rfl Tryd.underlying39 info5 rfl (by decide) (by omega) u5 x5_1 x6_1 [.int .u8 x6_1] (fun _ => True) (fun _ => False) rfl rfl ?aP (fun _ hk => hk.elim) ?aF ?aO (Below.refl _ _) ?aS ?aL ?_; (case aP => exact rfl); (case aF => exact (fun _ _ => trivial)); (case aO => exact (by (with_reducible repeat (first | apply Kd.R_alloc | apply Kd.R_drewN | apply Kd.R_drew)); exact HO_5.out)); (case aS => exact (keep_size (w := w) (g := g) (row := none) (by repeat (first | (with_reducible first | exact HK.out | apply KeepBut.set_ | apply keep_drewN | apply keep_drew | apply keep_alloc) | exact HK.out)))); (case aL => have := LMc19.out; omega); intro v441 w21 ho hb hg hat; rw [← Ny440.out] at ho; have n0_ := Aside0.mk (IsS106.grown (by repeat (first | (with_reducible first | exact HI0.out | apply IsS106.alloc | apply IsS106.drewN | apply IsS106.drew | apply IsS106.set_1 | apply IsS106.set_2) | exact HI0.out)) hg (IsS106.own_ne HI0.out HO_5.out (by decide))); have n1_ := Aside0.mk (below_weaken (by repeat (first | (with_reducible first | exact HB.out | apply below_alloc | apply pw_below_drewN | apply below_drew1 | refine below_set ?_ (IsS106.ge HI0.out)) | exact HB.out)) HL.out hb); have n2_ := Aside0.mk (KeepBut.trans (by repeat (first | (with_reducible first | exact HK.out | apply KeepBut.set_ | apply keep_drewN | apply keep_drew | apply keep_alloc) | exact HK.out)) (KeepBut.of_grown hg g) (Kd.R_base2 HO_5.out)); have n3_ := Aside0.mk (ho); clear HI0; clear HB; clear HK; clear HO_5; have HI0 := n0_; have HB := n1_; have HK := n2_; have HO442 := n3_; clear n0_ n1_ n2_ n3_; clear ho hb hg hat))
            go_roundg k1
            case measure => have := HK1.out; omega
            case rel => exact ⟨(y440), (x6_1), (wrap64 (x8_1 - 1)), (t432), (t433), (by first | rfl | (simp; done) | (simp [*]; done)), (by first | rfl | (simp; done) | (simp [*]; done)), H', ⟨by have := HK1.out; omega⟩, ⟨by (with_reducible repeat (first | apply Kd.R_alloc | apply Kd.R_drewN | apply Kd.R_drew)); exact HO442.out⟩, ⟨by repeat (first | (with_reducible first | exact HI0.out | apply IsS106.alloc | apply IsS106.drewN | apply IsS106.drew | apply IsS106.set_1 | apply IsS106.set_2) | exact HI0.out)⟩, ⟨by repeat (first | (with_reducible first | exact HK.out | apply KeepBut.set_ | apply keep_drewN | apply keep_drew | apply keep_alloc) | exact HK.out)⟩, ⟨by repeat (first | (with_reducible first | exact HB.out | apply below_alloc | apply pw_below_drewN | apply below_drew1 | refine below_set ?_ (IsS106.ge HI0.out)) | exact HB.out)⟩⟩
          · rw [if_neg c19] at H
            exact absurd H (by simp)
      · rw [if_neg c11] at H
        have c11b0 : decide (0 < x8_1) = false := decide_eq_false c11
        clear c11
        simp only [Option.some.injEq, Prod.mk.injEq] at H
        obtain ⟨rfl, rfl, rfl⟩ := H
        have hcv22 := own_string (P := Tryd.prog) Tryd.underlying39 Tryd.underlying5 Tryd.underlying9 (Kd.own_of_R HO_5.out)
        go_wp2
        go_ret
        exact ⟨by first | rfl | (simp [errW_none, errW_some] <;> rfl) | (simp [*, errW_none, errW_some] <;> rfl), by repeat (first | (with_reducible first | exact HI0.out | apply IsS106.alloc | apply IsS106.drewN | apply IsS106.drew | apply IsS106.set_1 | apply IsS106.set_2) | exact HI0.out), by repeat (first | (with_reducible first | exact HB.out | apply below_alloc | apply pw_below_drewN | apply below_drew1 | refine below_set ?_ (IsS106.ge HI0.out)) | exact HB.out), by repeat (first | (with_reducible first | exact HK.out | apply KeepBut.set_ | apply keep_drewN | apply keep_drew | apply keep_alloc) | exact HK.out)⟩
end Go.Proofs.YthkpnbelbaljdaaDoor.X
end
section
-- Written by a program of this session out of the kit's print of the loaded functions: a plain function of a Go function, and its contract.
namespace Go.Proofs.YthkpnbelbaljdaaDoor.X
open Go.RowKit Go.Proofs.YthkpnbelbaljdaaDoorW.PrintWords Go.Proofs.YthkpnbelbaljdaaDoorW.PrintLast Go.Proofs.YthkpnbelbaljdaaDoorW.PrintMore
attribute [local go_sem] max2_int min2_int max_two min_two max_three min_three max_four min_four   -- for this text's walks alone
set_option linter.unusedVariables false
set_option linter.unusedSimpArgs false
/-! ### spec_B10Wave: function 31 -/
def spec_B10Wave.f (k : Nat) (l0 : List Int) : Option (ByteArray) := (spec_l00From.f l0).bind fun bt443 => ((spec_l01DrawGood.f k bt443.1 bt443.2.1 bt443.2.2 40).bind fun bt447 => (some bt447.1))
set_option maxHeartbeats 8000000 in
set_option maxRecDepth 100000 in
theorem spec_B10Wave.calls (k : Nat) (A0 : Option Addr) (c0 : Nat) (l0 : List Int) (r : ByteArray) (w : World) (hr0 : Kd.C (Kd.int .u8) w A0 l0.length l0) (hc0 : l0.length ≤ c0) (h : spec_B10Wave.f k l0 = some r) :
    Calls Tryd.prog 31 #[.slice A0 l0.length c0] w fun e w' => e = .returned (.string r) ∧ Below w.heap.size w w' := by
  have HR0 := Aside0.mk hr0
  have HC0 := Aside0.mk hc0
  clear hr0 hc0
  have HB := Aside0.mk (Below.refl w.heap.size w)
  have H : ((spec_l00From.f l0).bind fun bt443 => ((spec_l01DrawGood.f k bt443.1 bt443.2.1 bt443.2.2 40).bind fun bt447 => (some bt447.1))) = some r := h
  clear h
  replace H := Option.bind_eq_some_iff.mp H
  obtain ⟨⟨t443, t444, t445⟩, A20, H⟩ := H
  replace H : ((spec_l01DrawGood.f k t443 t444 t445 40).bind fun bt447 => (some bt447.1)) = some r := H
  have A2 := Aside0.mk A20
  clear A20
  replace H := Option.bind_eq_some_iff.mp H
  obtain ⟨⟨t447, t448, t449⟩, A30, H⟩ := H
  replace H : (some t447) = some r := H
  have A3 := Aside0.mk A30
  clear A30
  obtain rfl := Option.some.inj H
  go_enter Tryd.func31, Tryd.ntmps31
  go_wp2_with (first | ((with_reducible refine gate_callee (f := 62) rfl ?_); refine goesL_ (some 5) rfl rfl Tryd.func62 (by kernel_rfl) rfl #[.slice A0 l0.length c0] rfl (by (try simp only [List.map_toArray, List.map_cons, List.map_nil]); first | done | rfl | (simp only [List.length_drop, List.length_take]; rfl)) ?_; (with_reducible refine (spec_l00From.calls _ _ l0 t443 t444 t445 w _ ?side1 ?side2 ?side3 A2.out).mono ?_); (case side1 => repeat (first | (with_reducible first | exact HB.out | apply below_alloc | apply pw_below_drewN | apply below_drew1) | exact HB.out)); (case side2 => exact HR0.out); (case side3 => first | exact trivial | (exact HC0.out)); rintro e w4 ⟨g446, rfl, hi, hb, hb2⟩; refine ⟨_, rfl, ?_⟩; have n0_ := Aside0.mk (hb); have n1_ := Aside0.mk (hi); clear HB; have HB := n0_; have HI446 := n1_; clear n0_ n1_; (try clear hb); (try clear hb2); (try clear hk); (try clear hi)) | ((with_reducible refine gate_callee (f := 66) rfl ?_); refine goesL_ (some 7) rfl rfl Tryd.func66 (by kernel_rfl) rfl #[.pointer (some ⟨g446, 0, none⟩), .int .i64 40] rfl (by (try simp only [List.map_toArray, List.map_cons, List.map_nil]); first | done | rfl | (simp only [List.length_drop, List.length_take]; rfl)) ?_; (with_reducible refine (spec_l01DrawGood.calls k g446 t443 t444 t445 40 t447 t448 t449 w _ ?side1 ?side2 A3.out).mono ?_); (case side1 => repeat (first | (with_reducible first | exact HI446.out | apply IsS106.alloc | apply IsS106.drewN | apply IsS106.drew | apply IsS106.set_1 | apply IsS106.set_2) | exact HI446.out)); (case side2 => repeat (first | (with_reducible first | exact HB.out | apply below_alloc | apply pw_below_drewN | apply below_drew1 | refine below_set ?_ (IsS106.ge HI446.out)) | exact HB.out)); rintro e w5 ⟨rfl, hi, hb, hk⟩; refine ⟨_, rfl, ?_⟩; have n0_ := Aside0.mk (hb); have n1_ := Aside0.mk (hi); clear HB; clear HI446; have HB := n0_; have HI446 := n1_; clear n0_ n1_; (try clear hb); (try clear hb2); (try clear hk); (try clear hi)))
  go_ret
  exact ⟨by first | rfl | (simp [errW_none, errW_some] <;> rfl) | (simp [*, errW_none, errW_some] <;> rfl), by repeat (first | (with_reducible first | exact HB.out | apply below_alloc | apply pw_below_drewN | apply below_drew1 | refine below_set ?_ (IsS106.ge HI446.out)) | exact HB.out)⟩
end Go.Proofs.YthkpnbelbaljdaaDoor.X
end
section
/- What the law draws: waves, clocks, levels, numbers. Conditions: the bytes are bytes. -/
namespace Go.Proofs.YthkpnbelbaljdaaDoor.X
open Go.RowKit Go.Proofs.YthkpnbelbaljdaaDoorW.PrintWords Go.Proofs.YthkpnbelbaljdaaDoorW.PrintLast Go.Proofs.YthkpnbelbaljdaaDoorW.PrintMore
set_option linter.unusedVariables false
set_option linter.unusedSimpArgs false
def Lvl (L : List Int) : Prop := ∀ x ∈ L, x = 48 ∨ x = 49
theorem Lvl.nil : Lvl [] := fun x hx => by simp at hx
theorem Lvl.snoc {L : List Int} {x : Int} (h : Lvl L) (hx : x = 48 ∨ x = 49) : Lvl (L ++ [x]) := fun y hy => by
  rcases List.mem_append.1 hy with hy | hy
  · exact h y hy
  · rw [List.mem_singleton.1 hy]; exact hx
theorem lev_str {L : List Int} (h : Lvl L) : Lev (strOfNums L) ∧ (strOfNums L).size = L.length := by
  refine ⟨fun i hi => ?_, strOfNums_size L⟩
  rw [strOfNums_size] at hi
  have := h _ (List.getElem_mem hi)
  rw [bt_str L i hi (by omega) (by omega)]
  exact this
theorem at_ok (l : List Int) (hb : Byt l) (i n : Nat) (hi : i ≤ 100) (hn : 1 ≤ n) (hn2 : n ≤ 1000) : ∃ v : Int, laws_b10At.f l i n = some v ∧ 0 ≤ v ∧ v < n := by
  unfold laws_b10At.f
  by_cases h1 : (n : Int) ≤ 1
  · rw [if_pos h1]; exact ⟨0, rfl, by omega, by omega⟩
  · rw [if_neg h1]
    by_cases hl : i < l.length
    · have hm := hb _ (List.getElem_mem hl)
      rw [if_pos (by omega), if_pos (by omega), if_neg (by omega), rd_nat l i hl, w64 (n := l[i]) (by omega) (by omega), tmodp (by omega)]
      have := Int.emod_nonneg l[i] (show (n : Int) ≠ 0 by omega)
      have := Int.emod_lt_of_pos l[i] (show (0 : Int) < n by omega)
      exact ⟨_, rfl, by omega, by omega⟩
    · rw [if_neg (by omega), if_neg (by omega), w64 (n := (i : Int) * 37) (by omega) (by omega), w64 (n := (i : Int) * 37 + 11) (by omega) (by omega), tmodp (by omega)]
      have := Int.emod_nonneg ((i : Int) * 37 + 11) (show (n : Int) ≠ 0 by omega)
      have := Int.emod_lt_of_pos ((i : Int) * 37 + 11) (show (0 : Int) < n by omega)
      exact ⟨_, rfl, by omega, by omega⟩
theorem levels_loop (l : List Int) (hb : Byt l) (n : Nat) (hn : n ≤ 1000) : ∀ (d k i : Nat) (L : List Int) (c : Int) (h : Int), d ≤ n → d < k → L.length + d = n → Lvl L → (c = 48 ∨ c = 49) → i + 2 * d ≤ 10000 →
    ∃ s p q, spec_l07DrawLevels.l0 k d L c l i h = some (s, p, q) ∧ s.size = n ∧ Lev s
  | 0, k, i, L, c, h, hd, hk, hl, hL, hc, hi => by
    cases k with
    | zero => omega
    | succ k =>
      rw [spec_l07DrawLevels.l0, if_neg (by omega)]
      obtain ⟨q1, q2⟩ := lev_str hL
      exact ⟨_, _, _, rfl, by rw [q2]; omega, q1⟩
  | d + 1, k, i, L, c, h, hd, hk, hl, hL, hc, hi => by
    cases k with
    | zero => omega
    | succ k =>
      obtain ⟨v, j, s, e, a1, b1⟩ := one_ok l hb i (by omega) h 6 (by omega)
      rw [spec_l07DrawLevels.l0, if_pos (by omega), e, Option.bind_some, w64 (n := ((d + 1 : Nat) : Int) - 1) (by omega) (by omega)]
      simp only
      have ed : ((d + 1 : Nat) : Int) - 1 = (d : Int) := by omega
      rw [ed]
      split
      · rw [if_pos (by omega)]
        have hc2 : (97 - c) % 256 = 48 ∨ (97 - c) % 256 = 49 := by omega
        exact levels_loop l hb n hn d k j (L ++ [(97 - c) % 256]) _ s (by omega) (by omega) (by simp; omega) (hL.snoc hc2) hc2 (by omega)
      · rw [if_pos (by omega)]
        exact levels_loop l hb n hn d k j (L ++ [c]) c s (by omega) (by omega) (by simp; omega) (hL.snoc hc) hc (by omega)
theorem levels_ok (k : Nat) (l : List Int) (hb : Byt l) (n : Nat) (hn : n ≤ 1000) (hk : n < k) : ∃ s, spec_B10Levels.f k l n = some s ∧ s.size = n ∧ Lev s := by
  unfold spec_B10Levels.f spec_l00From.f spec_l07DrawLevels.f
  rw [Option.bind_some]
  obtain ⟨v1, j1, s1, e1, a1, b1, c1, d1⟩ := pick_ok l hb 0 (by omega) 0 2 (by omega)
  rw [show ((0 : Nat) : Int) = 0 from rfl] at e1
  rw [e1, Option.bind_some]
  simp only
  rw [w64 (n := 48 + v1) (by omega) (by omega)]
  obtain ⟨s, p, q, e, h1, h2⟩ := levels_loop l hb n hn n k j1 [] ((48 + v1) % 256) s1 (by omega) hk (by simp) Lvl.nil (by omega) (by omega)
  rw [e, Option.bind_some]
  exact ⟨_, rfl, h1, h2⟩
theorem good_loop (l : List Int) (hb : Byt l) (m : Nat) (hm : m ≤ 1000) (by_ : Int) (hby : 1 ≤ by_ ∧ by_ ≤ 1000) : ∀ (d k i : Nat) (L : List Int) (c : Int) (h : Int), d ≤ m → d < k → L.length + d = m → Lvl L → (c = 48 ∨ c = 49) → i + 4 * d ≤ 10000 →
    ∃ s p q, spec_l01DrawGood.l0 k L c by_ d l i h = some (s, p, q) ∧ s.size = m ∧ Lev s
  | 0, k, i, L, c, h, hd, hk, hl, hL, hc, hi => by
    cases k with
    | zero => omega
    | succ k =>
      rw [spec_l01DrawGood.l0, if_neg (by omega)]
      obtain ⟨q1, q2⟩ := lev_str hL
      exact ⟨_, _, _, rfl, by rw [q2]; omega, q1⟩
  | d + 1, k, i, L, c, h, hd, hk, hl, hL, hc, hi => by
    cases k with
    | zero => omega
    | succ k =>
      obtain ⟨v, j, s, e, a1, b1⟩ := one_ok l hb i (by omega) h by_ (by omega)
      rw [spec_l01DrawGood.l0, if_pos (by omega), e, Option.bind_some, w64 (n := ((d + 1 : Nat) : Int) - 1) (by omega) (by omega)]
      simp only
      have ed : ((d + 1 : Nat) : Int) - 1 = (d : Int) := by omega
      rw [ed]
      split
      · obtain ⟨v2, j2, s2, e2, a2, b2, c2, d2⟩ := pick_ok l hb j (by omega) s 2 (by omega)
        rw [e2, Option.bind_some]
        simp only
        rw [if_pos (by omega), w64 (n := 48 + v2) (by omega) (by omega)]
        have hc2 : (48 + v2) % 256 = 48 ∨ (48 + v2) % 256 = 49 := by omega
        exact good_loop l hb m hm by_ hby d k j2 (L ++ [(48 + v2) % 256]) _ s2 (by omega) (by omega) (by simp; omega) (hL.snoc hc2) hc2 (by omega)
      · rw [if_pos (by omega)]
        exact good_loop l hb m hm by_ hby d k j (L ++ [c]) c s (by omega) (by omega) (by simp; omega) (hL.snoc hc) hc (by omega)
theorem wave_ok (k : Nat) (l : List Int) (hb : Byt l) (hk : 100 < k) : ∃ s, spec_B10Wave.f k l = some s ∧ s.size ≤ 40 ∧ Lev s := by
  unfold spec_B10Wave.f spec_l00From.f spec_l01DrawGood.f
  rw [Option.bind_some]
  obtain ⟨v1, j1, s1, e1, a1, b1, c1, d1⟩ := pick_ok l hb 0 (by omega) 0 2 (by omega)
  rw [show ((0 : Nat) : Int) = 0 from rfl] at e1
  rw [e1, Option.bind_some]
  simp only
  obtain ⟨v2, j2, s2, e2, a2, b2, c2, d2⟩ := pick_ok l hb j1 (by omega) s1 5 (by omega)
  rw [e2, Option.bind_some]
  simp only
  rw [w64 (n := (40 : Int) + 1) (by omega) (by omega)]
  obtain ⟨v3, j3, s3, e3, a3, b3, c3, d3⟩ := pick_ok l hb j2 (by omega) s2 (40 + 1) (by omega)
  rw [e3, Option.bind_some]
  simp only
  rw [w64 (n := 48 + v1) (by omega) (by omega), w64 (n := 1 + v2) (by omega) (by omega)]
  obtain ⟨m, rfl⟩ : ∃ m : Nat, v3 = m := ⟨v3.toNat, by omega⟩
  obtain ⟨s, p, q, e, h1, h2⟩ := good_loop l hb m (by omega) (1 + v2) (by omega) m k j3 [] ((48 + v1) % 256) s3 (by omega) (by omega) (by simp) Lvl.nil (by omega) (by omega)
  rw [e, Option.bind_some]
  exact ⟨_, rfl, by show s.size ≤ 40; omega, h2⟩
end Go.Proofs.YthkpnbelbaljdaaDoor.X
end
section
/- A stub: the text lies in G3. -/
end
section
/- When a wave is clean: each pulse begins with one of a clock's and goes with it. Conditions: as each lemma says. -/
namespace Go.Proofs.YthkpnbelbaljdaaDoor.X
open Go.RowKit Go.Proofs.YthkpnbelbaljdaaDoorW.PrintWords Go.Proofs.YthkpnbelbaljdaaDoorW.PrintLast Go.Proofs.YthkpnbelbaljdaaDoorW.PrintMore
set_option linter.unusedVariables false
set_option linter.unusedSimpArgs false
/-- The pulse that begins at an edge upwards. -/
theorem runs_mem (s : ByteArray) (u : Int) : ∀ (us ds : List Int), Runs s us ds → u ∈ us → ∃ d, Run s u d ∧ (⟨u, d - u⟩ : S61) ∈ pz us ds
  | [], [], _, h => by simp at h
  | x :: us, d :: ds, hr, h => by
    rw [show pz (x :: us) (d :: ds) = ⟨x, d - x⟩ :: pz us ds from rfl]
    rcases List.mem_cons.1 h with rfl | h
    · exact ⟨d, hr.1, List.mem_cons_self⟩
    · obtain ⟨d', h1, h2⟩ := runs_mem s u us ds hr.2 h
      exact ⟨d', h1, List.mem_cons_of_mem _ h2⟩
  | [], _ :: _, hr, _ => hr.elim
  | _ :: _, [], hr, _ => hr.elim
theorem pz_mem (s : ByteArray) (p : S61) : ∀ (us ds : List Int), Runs s us ds → p ∈ pz us ds → p.f0 ∈ us ∧ ∃ d, Run s p.f0 d ∧ p.f1 = d - p.f0
  | [], [], _, h => by simp [pz] at h
  | x :: us, d :: ds, hr, h => by
    rw [show pz (x :: us) (d :: ds) = ⟨x, d - x⟩ :: pz us ds from rfl] at h
    rcases List.mem_cons.1 h with rfl | h
    · exact ⟨List.mem_cons_self, d, hr.1, rfl⟩
    · obtain ⟨h1, h2⟩ := pz_mem s p us ds hr.2 h
      exact ⟨List.mem_cons_of_mem _ h1, h2⟩
  | [], _ :: _, hr, _ => hr.elim
  | _ :: _, [], hr, _ => hr.elim
/-- A text goes with another one from a tick on, as long as it is high. -/
def Goes (o x : ByteArray) (i : Nat) : Prop := isE x 49 i = true ∧ ∀ j : Nat, i ≤ j → j < o.size → (∀ m : Nat, i ≤ m → m < j → bt o (m : Int) = 49) → (bt o (j : Int) = 49 ↔ bt x (j : Int) = 49)
theorem goes_pulse {o x : ByteArray} (hx : Lev x) (hn : x.size = o.size) {i : Nat} (hi : i < o.size) (h : Goes o x i) {d : Nat} (hid : i < d) (hd : d ≤ o.size) (hall : ∀ j : Nat, i ≤ j → j < d → bt o (j : Int) = 49) (hend : d < o.size → bt o (d : Int) = 48) :
    ∃ q ∈ pz (edg x 49 x.size) (dns x), q.f0 = (i : Int) ∧ (q.f1 = (d : Int) - i ∨ (d : Int) = o.size) := by
  have hmem : (i : Int) ∈ edg x 49 x.size := (edg_mem x 49 x.size _).2 ⟨i, by omega, h.1, rfl⟩
  obtain ⟨e, ⟨a, b, ha, rfl, hab, hb, hall2, hend2⟩, hq⟩ := runs_mem x (i : Int) _ _ (runs_all x hx) hmem
  obtain rfl : i = a := by omega
  refine ⟨_, hq, rfl, ?_⟩
  by_cases hdn : d = o.size
  · right; omega
  · left
    show (b : Int) - i = d - i
    have hod := hend (by omega)
    have h1 : ¬ bt x (d : Int) = 49 := fun hx49 => by
      have := (h.2 d (by omega) (by omega) (fun m h1 h2 => hall m h1 h2)).2 hx49
      omega
    have h2 : b ≤ d := by
      rcases Nat.lt_or_ge d b with hlt | hge
      · exact absurd (hall2 d (by omega) hlt) h1
      · exact hge
    have h3 : d ≤ b := by
      rcases Nat.lt_or_ge b d with hlt | hge
      · have := (h.2 b (by omega) (by omega) (fun m h1 h2 => hall m h1 (by omega))).1 (hall b (by omega) hlt)
        have := hend2 (by omega)
        omega
      · exact hge
    omega
theorem clean_of (o a b : ByteArray) (ho : Lev o) (ha : Lev a) (hb : Lev b) (han : a.size = o.size) (hbn : b.size = o.size) (h : ∀ i : Nat, i < o.size → isE o 49 i = true → Goes o a i ∨ Goes o b i) : cleanB o a b = true := by
  unfold cleanB
  rw [List.all_eq_true]
  intro p hp
  obtain ⟨hu, e, ⟨i, d, hi, rfl, hid, hd, hall, hend⟩, hlen⟩ := pz_mem o p _ _ (runs_all o ho) hp
  obtain ⟨i', hi', hE, hii⟩ := (edg_mem o 49 o.size _).1 hu
  obtain rfl : i = i' := by omega
  unfold oneOf
  rw [List.any_eq_true]
  have fin : ∀ q : S61, q.f0 = (i : Int) ∧ (q.f1 = (d : Int) - i ∨ (d : Int) = o.size) → samePulse p.f0 p.f1 (p.f0 + p.f1 == (o.size : Int)) q.f0 q.f1 = true := by
    rintro q ⟨q0, q1⟩
    unfold samePulse
    rw [q0, hi, hlen, hi]
    rcases q1 with q1 | q1
    · rw [q1]; simp
    · rw [show (i : Int) + ((d : Int) - i) = o.size by omega]; simp
  rcases h i hi' hE with hg | hg
  · obtain ⟨q, hq, hf⟩ := goes_pulse ha han hi' hg hid hd hall hend
    exact ⟨q, List.mem_append_left _ hq, fin q hf⟩
  · obtain ⟨q, hq, hf⟩ := goes_pulse hb hbn hi' hg hid hd hall hend
    exact ⟨q, List.mem_append_right _ hq, fin q hf⟩
theorem isE_one (s : ByteArray) (i : Nat) : isE s 49 i = true ↔ bt s (i : Int) = 49 ∧ (i = 0 ∨ bt s ((i - 1 : Nat) : Int) ≠ 49) := by
  unfold isE prv
  rw [Bool.and_eq_true, decide_eq_true_eq, Bool.not_eq_true', decide_eq_false_iff_not]
  by_cases h : i = 0
  · subst h; simp
  · rw [if_neg h]
    constructor
    · rintro ⟨h1, h2⟩; exact ⟨h1, .inr h2⟩
    · rintro ⟨h1, h2 | h2⟩
      · exact absurd h2 h
      · exact ⟨h1, h2⟩
end Go.Proofs.YthkpnbelbaljdaaDoor.X
end
section
/- A stub: the text lies in G0. -/
end
section
/- A stub: the text lies in G0. -/
end
section
/- Contracts of Go's library, as the shelf lays them at this seat's translation. Conditions: as each says. -/
namespace Go.Proofs
open Go.Shelf
def Tryd.lays143_ren : Go.Shelf.Ren := ⟨fun | 143 => 99 | 219 => 112 | 217 => 125 | 225 => 126 | 224 => 127 | 267 => 128 | 266 => 135 | 314 => 136 | n => n, fun | 9 => 9 | 3 => 3 | 4 => 4 | 5 => 5 | 46 => 121 | 146 => 140 | 51 => 139 | n => n, fun | 1 => 0 | n => n⟩
theorem Tryd.lays143 : Go.Proofs.Lays.n143 Tryd.prog Tryd.lays143_ren := {
  mixed := by kernel_rfl
  f143 := Tryd.func99.trans (congrArg some (by kernel_rfl))
  f217 := Tryd.func125.trans (congrArg some (by kernel_rfl))
  f219 := Tryd.func112.trans (congrArg some (by kernel_rfl))
  f224 := Tryd.func127.trans (congrArg some (by kernel_rfl))
  f225 := Tryd.func126.trans (congrArg some (by kernel_rfl))
  f266 := Tryd.func135.trans (congrArg some (by kernel_rfl))
  f267 := Tryd.func128.trans (congrArg some (by kernel_rfl))
  f314 := Tryd.func136.trans (congrArg some (by kernel_rfl))
  t3 := Tryd.underlying3
  a3 := Tryd.isAgg3
  z3 := Tryd.sizeOf3
  v3 := Tryd.zeroValue3
  t4 := Tryd.underlying4
  a4 := Tryd.isAgg4
  z4 := Tryd.sizeOf4
  v4 := Tryd.zeroValue4
  t5 := Tryd.underlying5
  a5 := Tryd.isAgg5
  z5 := Tryd.sizeOf5
  v5 := Tryd.zeroValue5
  t9 := Tryd.underlying9
  a9 := Tryd.isAgg9
  z9 := Tryd.sizeOf9
  v9 := Tryd.zeroValue9
  t46 := Tryd.underlying121
  a46 := Tryd.isAgg121
  z46 := Tryd.sizeOf121
  v46 := Tryd.zeroValue121
  t51 := Tryd.underlying139
  a51 := Tryd.isAgg139
  z51 := Tryd.sizeOf139
  v51 := Tryd.zeroValue139
  t146 := Tryd.underlying140
  a146 := Tryd.isAgg140
  z146 := Tryd.sizeOf140
  v146 := Tryd.zeroValue140
  g1 := by kernel_rfl }
open Go.RowKit Go.Lib in
/-- strings.Index: "Index returns the index of the first instance of substr in s, or -1 if substr is not present in s.": AT A substr OF ONE BYTE c: IT RETURNS 'Lib.indexByte s c'; the world is as it was. (LAID: no walk: one application.) -/
theorem Tryd.strings_Index_one (s : ByteArray) (c : UInt8) (w : World) :
    Calls Tryd.prog 99 #[.string s, .string ⟨#[c]⟩] w fun e w' => e = .returned (.int .i64 (Lib.indexByte s.data.toList c)) ∧ w' = w := Any.strings_Index_one Tryd.lays143 s c w
end Go.Proofs
end
section
/- strings.Split at a mark of one byte: the pieces, in a block of their own. Conditions: as each lemma says. -/
namespace Go.Proofs.YthkpnbelbaljdaaDoor.X
open Go.RowKit Go.Proofs.YthkpnbelbaljdaaDoorW.PrintWords Go.Proofs.YthkpnbelbaljdaaDoorW.PrintLast Go.Proofs.YthkpnbelbaljdaaDoorW.PrintMore
set_option linter.unusedVariables false
set_option linter.unusedSimpArgs false
/-- The pieces of a text between so many marks. -/
def cutN (c : UInt8) : Nat → ByteArray → List ByteArray
  | 0, s => [s]
  | k + 1, s => s.extract 0 (Lib.indexByte s.data.toList c).toNat :: cutN c k (s.extract ((Lib.indexByte s.data.toList c).toNat + 1) s.size)
def cuts (c : UInt8) (s : ByteArray) : List ByteArray := cutN c (Lib.countByte s.data.toList c) s
/-- What is left behind so many marks. -/
def restN (c : UInt8) : Nat → ByteArray → ByteArray
  | 0, s => s
  | k + 1, s => restN c k (s.extract ((Lib.indexByte s.data.toList c).toNat + 1) s.size)
def headN (c : UInt8) : Nat → ByteArray → List ByteArray
  | 0, _ => []
  | k + 1, s => s.extract 0 (Lib.indexByte s.data.toList c).toNat :: headN c k (s.extract ((Lib.indexByte s.data.toList c).toNat + 1) s.size)
theorem headN_len (c : UInt8) : ∀ (k : Nat) (s : ByteArray), (headN c k s).length = k
  | 0, _ => rfl
  | k + 1, s => by rw [headN, List.length_cons, headN_len]
theorem headN_succ (c : UInt8) : ∀ (k : Nat) (s : ByteArray), headN c (k + 1) s = headN c k s ++ [(restN c k s).extract 0 (Lib.indexByte (restN c k s).data.toList c).toNat]
  | 0, _ => rfl
  | k + 1, s => by
    rw [headN, headN_succ c k, headN, restN, List.cons_append]
theorem restN_succ (c : UInt8) : ∀ (k : Nat) (s : ByteArray), restN c (k + 1) s = (restN c k s).extract ((Lib.indexByte (restN c k s).data.toList c).toNat + 1) (restN c k s).size
  | 0, _ => rfl
  | k + 1, s => by rw [restN, restN_succ c k, restN]
theorem cutN_eq (c : UInt8) : ∀ (k : Nat) (s : ByteArray), cutN c k s = headN c k s ++ [restN c k s]
  | 0, _ => rfl
  | k + 1, s => by rw [cutN, cutN_eq c k, headN, restN, List.cons_append]
theorem count_index : ∀ (l : List UInt8) (c : UInt8) (k : Nat), Lib.countByte l c = k + 1 → ∃ j : Nat, Lib.indexByte l c = j ∧ j < l.length ∧ Lib.countByte (l.drop (j + 1)) c = k
  | [], c, k, h => by simp [Lib.countByte] at h
  | b :: l, c, k, h => by
    unfold Lib.countByte at h ⊢
    rw [List.count_cons] at h
    unfold Lib.indexByte
    by_cases hb : (b == c) = true
    · rw [if_pos hb] at h ⊢
      exact ⟨0, rfl, by simp, by simpa using h⟩
    · rw [if_neg hb] at h ⊢
      obtain ⟨j, h1, h2, h3⟩ := count_index l c k (by unfold Lib.countByte; simpa using h)
      refine ⟨j + 1, ?_, by simp; omega, ?_⟩
      · rw [h1]
        have : ((j : Int) == -1) = false := by rw [beq_eq_false_iff_ne]; omega
        rw [this]; simp
      · unfold Lib.countByte at h3
        simpa using h3
theorem extract_list (s : ByteArray) (a : Nat) : (s.extract a s.size).data.toList = s.data.toList.drop a := by
  rw [ByteArray.data_extract, Array.toList_extract]
  simp only [List.extract]
  have : s.size = s.data.toList.length := by simp
  rw [this, ← List.length_drop, List.take_length]
theorem rest_facts (c : UInt8) (s : ByteArray) : ∀ (i d : Nat), Lib.countByte s.data.toList c = i + d → Lib.countByte (restN c i s).data.toList c = d ∧ (restN c i s).size ≤ s.size
  | 0, d, h => ⟨by rw [restN]; omega, Nat.le_refl _⟩
  | i + 1, d, h => by
    obtain ⟨h1, h2⟩ := rest_facts c s i (d + 1) (by omega)
    obtain ⟨j, e1, e2, e3⟩ := count_index _ c d h1
    rw [restN_succ, e1, Int.toNat_natCast]
    exact ⟨by rw [extract_list]; exact e3, by rw [ByteArray.size_extract]; omega⟩
theorem count_le (s : ByteArray) (c : UInt8) : Lib.countByte s.data.toList c ≤ s.size := by
  unfold Lib.countByte
  have := List.count_le_length (a := c) (l := s.data.toList)
  simpa using this
theorem strInfo : (Tryd.prog.info? 9).map (fun i => (i.zero, i.size, i.bytes)) = some (some (.string ByteArray.empty), 1, 16) := by kernel_rfl
/-- The list under way: the pieces so far, and empty texts. -/
def underN (c : UInt8) (s : ByteArray) (n i : Nat) : List ByteArray := headN c i s ++ List.replicate (n - i) ByteArray.empty
theorem underN_len (c : UInt8) (s : ByteArray) (n i : Nat) (h : i ≤ n) : (underN c s n i).length = n := by unfold underN; rw [List.length_append, headN_len, List.length_replicate]; omega
theorem underN_set (c : UInt8) (s : ByteArray) (n i : Nat) (h : i < n) : (underN c s n i).set i ((restN c i s).extract 0 (Lib.indexByte (restN c i s).data.toList c).toNat) = underN c s n (i + 1) := by
  unfold underN
  obtain ⟨m, hm⟩ : ∃ m, n - i = m + 1 := ⟨n - i - 1, by omega⟩
  rw [hm, show n - (i + 1) = m by omega, List.set_append_right _ _ (by rw [headN_len]; exact Nat.le_refl _), headN_len, Nat.sub_self, List.replicate_succ, List.set_cons_zero, headN_succ, List.append_assoc]; rfl
theorem underN_last (c : UInt8) (s : ByteArray) (n : Nat) : (underN c s (n + 1) n).set n (restN c n s) = cutN c n s := by
  unfold underN
  rw [show n + 1 - n = 1 by omega, List.set_append_right _ _ (by rw [headN_len]; exact Nat.le_refl _), headN_len, Nat.sub_self, cutN_eq]; rfl
set_option maxHeartbeats 4000000 in
set_option maxRecDepth 100000 in
theorem genSplit_walk (s : ByteArray) (c : UInt8) (hs : s.size ≤ 1000000) (n : Nat) (hn : n = Lib.countByte s.data.toList c) (w : World) :
    Calls Tryd.prog 111 #[.string s, .string ⟨#[c]⟩, .int .i64 0, .int .i64 (-1)] w fun e w' => ∃ v : Value, e = .returned v ∧ Kd.R Kd.string 9 w' w.heap.size (fun _ => True) v (cuts c s) ∧ Below w.heap.size w w' := by
  have hcl := count_le s c
  have HN := Aside0.mk hn
  have hn9 : n ≤ s.size := by omega
  have hw1 : IntKind.i64.wrap ((n : Int) + 1) = (n : Int) + 1 := IntWalk.i64_in _ ⟨by omega, by omega⟩
  have hw2 : IntKind.i64.wrap ((s.size : Int) + 1) = (s.size : Int) + 1 := IntWalk.i64_in _ ⟨by omega, by omega⟩
  have hw3 : IntKind.i64.wrap ((n : Int) + 1 - 1) = (n : Int) := by rw [IntWalk.i64_in _ ⟨by omega, by omega⟩]; omega
  have hmin : min (n : Int) (s.size : Int) = (n : Int) := Int.min_eq_left (by omega)
  have HB := Aside0.mk (Below.refl w.heap.size w)
  clear hn hcl
  go_enter Tryd.func111, Tryd.ntmps111
  go_wp2_with (first
    | (go_at_call 73; (with_reducible refine (Tryd.strings_Count_one s c w).mono ?_); rintro e w1 ⟨rfl, hw⟩; rw [hw, ← HN.out]; clear hw)
    | ((with_reducible refine gate_dst (N := 31) rfl ?_); refine Kd.R_make Kd.string w.heap.size 9 ?hg (N := 31) ?hd 85 (.tmp 30) (.tmp 30) ?ho ((n : Int) + 1) ?hx ?hy Tryd.underlying85 (.string ByteArray.empty) 16 strInfo rfl (by decide) (by omega) ByteArray.empty (ok := fun _ => True) (okp := fun _ => False) ?hz (fun _ h => h.elim) trivial (by omega) ?hl HB.out (Nat.le_refl _) ?_; (case hg => rfl); (case hd => rfl); (case ho => rfl); (case hx => rfl); (case hy => rfl); (case hz => exact rfl); (case hl => omega); intro v1 w1 ho hb hg_ hnew_; clear hg_ hnew_; rw [show ((n : Int) + 1).toNat = n + 1 by omega, show List.replicate (n + 1) ByteArray.empty = underN c s (n + 1) 0 from rfl] at ho; have HO := Aside0.mk ho; have n0_ := Aside0.mk hb; clear HB ho hb; have HB := n0_; clear n0_))
  obtain ⟨gA, cA, hv1, hgb, hgl, cl, hcl⟩ := Kd.R_form HO.out (by rw [underN_len c s (n + 1) 0 (by omega)]; omega)
  rw [underN_len c s (n + 1) 0 (by omega)] at hv1
  subst hv1
  clear hgl cl hcl
  have HGE := Aside0.mk hgb
  clear hgb
  go_loopg [0, 10] n (fun kq v0 v10 w' => ∃ i : Nat, v0 = .string (restN c i s) ∧ v10 = .int .i64 i ∧ Aside0 (i + kq = n) ∧ Aside0 (Kd.R Kd.string 9 w' w.heap.size (fun _ => True) (.slice (some ⟨gA, 0, none⟩) (n + 1 : Nat) cA) (underN c s (n + 1) i)) ∧ Aside0 (Below w.heap.size w w'))
  case atStart => exact ⟨0, rfl, rfl, ⟨by omega⟩, HO, HB⟩
  case round =>
    clear HO HB
    obtain ⟨i, rfl, rfl, HE, HO, HB⟩ := hrel
    obtain ⟨S, hS⟩ : ∃ S, S = restN c i s := ⟨_, rfl⟩
    rw [← hS]
    have HS := Aside0.mk hS
    clear hS
    obtain ⟨cc, cz⟩ := Kd.R_celln ByteArray.empty HO.out (i : Int) (by omega) (by have := HE.out; omega)
    rw [Int.toNat_natCast] at cc cz
    by_cases hlt : i < n
    · cases gk with
      | zero => have := HE.out; omega
      | succ g1 =>
      obtain ⟨r1, r2⟩ := rest_facts c s i (n - i - 1 + 1) (by rw [← HN.out]; omega)
      rw [← HS.out] at r1 r2
      obtain ⟨j, e1, e2, _⟩ := count_index _ c _ r1
      have e2' : j < S.size := by simpa using e2
      have HX : Aside0 (restN c (i + 1) s = S.extract (j + 1) S.size) := ⟨by rw [restN_succ, ← HS.out, e1]; rfl⟩
      have HY : Aside0 ((underN c s (n + 1) i).set i (S.extract 0 j) = underN c s (n + 1) (i + 1)) := ⟨by rw [← underN_set c s (n + 1) i (by omega), ← HS.out, e1]; rfl⟩
      have E1 := Aside0.mk e1
      have wj : IntKind.i64.wrap (j : Int) = (j : Int) := IntWalk.i64_in _ ⟨by omega, by omega⟩
      have wj1 : IntKind.i64.wrap ((j : Int) + 1) = (j : Int) + 1 := IntWalk.i64_in _ ⟨by omega, by omega⟩
      have wi1 : IntKind.i64.wrap ((i : Int) + 1) = (i : Int) + 1 := IntWalk.i64_in _ ⟨by omega, by omega⟩
      have q1 : ((j : Int) ≤ (S.size : Int)) = True := eq_true (by omega)
      have q2 : ((j : Int) + 1 ≤ (S.size : Int)) = True := eq_true (by omega)
      have q3 : (j ≤ S.size) = True := eq_true (by omega)
      have q4 : (j + 1 ≤ S.size) = True := eq_true (by omega)
      clear e1 e2 r1 r2
      go_wp2_with (first
        | (go_at_call 99; (with_reducible refine (Tryd.strings_Index_one S c _).mono ?_); rintro e w1 ⟨rfl, hw⟩; rw [hw, E1.out]; clear hw))
      go_roundg g1
      case measure => omega
      case rel => exact ⟨i + 1, by rw [HX.out], by go_num, ⟨by have := HE.out; omega⟩, ⟨by rw [← HY.out]; exact Kd.R_putn HO.out (i : Int) (S.extract 0 j)⟩, ⟨Below.setCell (p := ⟨gA, i, none⟩) HB.out HGE.out _⟩⟩
    · have hi : i = n := by have := HE.out; omega
      subst hi
      have hcap := (Kd.R_reads' HO.out).2.1
      have wi1 : IntKind.i64.wrap ((i : Int) + 1) = (i : Int) + 1 := IntWalk.i64_in _ ⟨by omega, by omega⟩
      have q1 : ((i : Int) + 1 ≤ (cA : Int)) = True := eq_true (by omega)
      have q2 : (i + 1 ≤ cA) = True := eq_true (by omega)
      have HR := Aside0.mk (Kd.R_putn HO.out (i : Int) S)
      have HY : Aside0 ((underN c s (i + 1) i).set i S = cuts c s) := ⟨by rw [HS.out, underN_last]; unfold cuts; rw [← HN.out]⟩
      clear hcap hw1 hw2 hw3 hmin hlt
      go_wp2
      go_ret
      exact ⟨_, rfl, by rw [← HY.out]; exact HR.out, Below.setCell (p := ⟨gA, i, none⟩) HB.out HGE.out _⟩
set_option maxHeartbeats 4000000 in
set_option maxRecDepth 100000 in
theorem split_walk (s : ByteArray) (c : UInt8) (hs : s.size ≤ 1000000) (w : World) :
    Calls Tryd.prog 96 #[.string s, .string ⟨#[c]⟩] w fun e w' => ∃ v : Value, e = .returned v ∧ Kd.R Kd.string 9 w' w.heap.size (fun _ => True) v (cuts c s) ∧ Below w.heap.size w w' := by
  have H := fun w => genSplit_walk s c hs _ rfl w
  have HH := Aside0.mk H
  clear H
  go_enter Tryd.func96, Tryd.ntmps96
  go_wp2_with (go_at_call 111; (with_reducible refine (HH.out _).mono ?_); rintro e w1 ⟨v, rfl, ho, hb⟩; have HO := Aside0.mk ho; have HB := Aside0.mk hb; clear ho hb)
  go_ret
  exact ⟨_, rfl, HO.out, HB.out⟩
end Go.Proofs.YthkpnbelbaljdaaDoor.X
end
section
/- A stub: the text lies in G0. -/
end
section
/- lengthsOf: the lengths of a text's pieces that are not empty. Conditions: small texts. -/
namespace Go.Proofs.YthkpnbelbaljdaaDoor.X
open Go.RowKit Go.Proofs.YthkpnbelbaljdaaDoorW.PrintWords Go.Proofs.YthkpnbelbaljdaaDoorW.PrintLast Go.Proofs.YthkpnbelbaljdaaDoorW.PrintMore
set_option linter.unusedVariables false
set_option linter.unusedSimpArgs false
def lenN (P : List ByteArray) (i : Nat) : List Int := ((P.take i).filter fun x => decide (0 < x.size)).map fun x => (x.size : Int)
theorem lenN_len (P : List ByteArray) (i : Nat) : (lenN P i).length ≤ i := by
  unfold lenN
  rw [List.length_map]
  exact Nat.le_trans (List.length_filter_le _ _) (by rw [List.length_take]; omega)
theorem lenN_succ (P : List ByteArray) (i : Nat) (h : i < P.length) : lenN P (i + 1) = lenN P i ++ (if 0 < P[i].size then [(P[i].size : Int)] else []) := by
  unfold lenN
  rw [List.take_succ_eq_append_getElem h, List.filter_append, List.map_append]
  congr 1
  by_cases hp : 0 < P[i].size
  · rw [if_pos hp, List.filter_cons, if_pos (decide_eq_true hp)]; rfl
  · rw [if_neg hp, List.filter_cons, if_neg (by simpa using hp)]; rfl
theorem cuts_len (c : UInt8) (s : ByteArray) : (cuts c s).length ≤ s.size + 1 := by
  unfold cuts
  rw [cutN_eq, List.length_append, headN_len]
  have := count_le s c
  simp; omega
theorem cutN_small (c : UInt8) : ∀ (k : Nat) (s : ByteArray), ∀ x ∈ cutN c k s, x.size ≤ s.size
  | 0, s, x, h => by rw [List.mem_singleton.1 h]; exact Nat.le_refl _
  | k + 1, s, x, h => by
    rw [cutN] at h
    rcases List.mem_cons.1 h with rfl | h
    · rw [ByteArray.size_extract]; omega
    · have := cutN_small c k _ x h
      rw [ByteArray.size_extract] at this
      omega
set_option maxHeartbeats 4000000 in
set_option maxRecDepth 100000 in
theorem lens_walk (s : ByteArray) (c : UInt8) (hs : s.size ≤ 1000000) (w : World) :
    Calls Tryd.prog 70 #[.string s, .string ⟨#[c]⟩] w fun e w' => ∃ v : Value, e = .returned v ∧ Kd.R (Kd.int .i64) 2 w' w.heap.size (fun _ => True) v (lenN (cuts c s) (cuts c s).length) ∧ Below w.heap.size w w' := by
  have HSW := Aside0.mk (fun w => split_walk s c hs w)
  have hl := cuts_len c s
  obtain ⟨P, hP⟩ : ∃ P, P = cuts c s := ⟨_, rfl⟩
  have HPS : Aside0 (∀ x ∈ P, x.size ≤ 1000000) := ⟨fun x hx => by rw [hP] at hx; exact Nat.le_trans (cutN_small c _ s x hx) hs⟩
  rw [← hP] at hl ⊢
  simp only [← hP] at HSW
  obtain ⟨n, hn⟩ : ∃ n, n = P.length := ⟨_, rfl⟩
  have HN := Aside0.mk hn
  have hn9 : n ≤ 1000001 := by omega
  rw [← hn]
  clear hn hP hl
  have HB := Aside0.mk (Below.refl w.heap.size w)
  go_enter Tryd.func70, Tryd.ntmps70
  go_wp2_with (first
    | ((with_reducible refine gate_dst (N := 8) rfl ?_); refine Kd.R_lit (Kd.int .i64) w.heap.size 2 ?hg (N := 8) ?hd (xs := ([] : List Int)) (inner := []) (ok := fun _ => True) (okp := fun _ => True) ?hr ?hp (fun _ hk => hk) trivial (Below.refl _ _) (Nat.le_refl _) (by simp) ?_; (case hd => rfl); (case hg => rfl); (case hr => first | (go_simp; done) | (go_simp; rfl)); (case hp => exact (Reps.none _ _)); intro v1 w1 ho hb hg_ hnew_; clear hg_ hnew_; have HO := Aside0.mk ho; have n0_ := Aside0.mk hb; clear HB ho hb; have HB := n0_; clear n0_)
    | (go_at_call 96; (with_reducible refine (HSW.out _).mono ?_); rintro e w2 ⟨v2, rfl, ho, hb⟩; obtain ⟨A2, c2, e2⟩ := Kd.R_slice ho; rw [← HN.out] at e2; subst e2; have HP := Aside0.mk (Kd.R_lower ho (below_size HB.out)); have n0_ := Aside0.mk (below_step HB.out hb); have n1_ := Aside0.mk (Kd.R_below HO.out hb); clear HB HO ho hb; have HB := n0_; have HO := n1_; clear n0_ n1_))
  go_loopg [5, 13] n (fun kq v5 v13 w' => ∃ i : Nat, v13 = .int .i64 i ∧ Aside0 (i + kq = n) ∧ Aside0 (Kd.R (Kd.int .i64) 2 w' w.heap.size (fun _ => True) v5 (lenN P i)) ∧ Aside0 (Kd.R Kd.string 9 w' w.heap.size (fun _ => True) (.slice A2 n c2) P) ∧ Aside0 (Below w.heap.size w w'))
  case atStart => exact ⟨0, by first | rfl | simp, ⟨by omega⟩, HO, HP, HB⟩
  case round =>
    clear HO HP HB
    obtain ⟨i, rfl, HE, HO, HP, HB⟩ := hrel
    by_cases hlt : i < n
    · cases gk with
      | zero => have := HE.out; omega
      | succ g1 =>
      have hC := (Kd.R_reads' HP.out).2.2
      rw [← HN.out] at hC
      obtain ⟨ad, hA, hc0⟩ := Kd.at_string hC (i : Int) (by omega) (by omega)
      cases hA
      have hip : i < P.length := by have := HN.out; omega
      have hrd : rdOf ByteArray.empty P (i : Int) = P[i] := by unfold rdOf; simp [hip]
      rw [hrd, Int.toNat_natCast] at hc0
      have HM := Aside0.mk (HPS.out _ (List.getElem_mem hip))
      have HX := Aside0.mk (lenN_succ P i hip)
      obtain ⟨p, hp⟩ : ∃ p, p = P[i] := ⟨_, rfl⟩
      rw [← hp] at hc0 HM HX
      clear hp hrd hC hip
      have hl0 := lenN_len P i
      have wi1 : IntKind.i64.wrap ((i : Int) + 1) = (i : Int) + 1 := IntWalk.i64_in _ ⟨by omega, by omega⟩
      by_cases hz : 0 < p.size
      · have z1 : decide (0 < p.size) = true := decide_eq_true hz
        have z2 : decide (0 < (p.size : Int)) = true := decide_eq_true (by omega)
        have wp1 : IntKind.i64.wrap (p.size : Int) = (p.size : Int) := IntWalk.i64_in _ ⟨by omega, by have := HM.out; omega⟩
        rw [if_pos hz] at HX
        obtain ⟨l0, hl0e⟩ : ∃ l0, l0 = lenN P i := ⟨_, rfl⟩
        rw [← hl0e] at HX HO hl0
        have LM := Aside0.mk hl0
        clear hl0 hl0e
        go_wp2_with ((with_reducible refine gate_builtin (b := .append) (xs := #[.tmp 20, .tmp 23]) rfl ?_); at_builtin; refine Kd.R_append (Kd.int .i64) (w0 := w) w.heap.size rfl (.tmp 20) (.tmp 23) 34 2 (.int .i64 0) 8 rfl Tryd.underlying34 info2 rfl (by decide) (by omega) u5 l0 (p.size : Int) [.int .i64 (p.size : Int)] (fun _ => True) (fun _ => False) rfl rfl ?aP (fun _ hk => hk.elim) ?aF ?aO ?aB ?aS ?aL ?_; (case aP => exact rfl); (case aB => exact HB.out); (case aF => exact (fun _ hk => trivial)); (case aO => exact HO.out); (case aS => exact below_size HB.out); (case aL => have := LM.out; omega); intro v3 w3 ho hb hg hat; rw [← HX.out] at ho; have n2_ := Aside0.mk (Kd.R_over HP.out HO.out (by decide) hg); have n0_ := Aside0.mk ho; have n1_ := Aside0.mk hb; clear HO HP HB ho hb hg hat; have HO := n0_; have HB := n1_; have HP := n2_; clear n0_ n1_ n2_)
        go_roundg g1
        case measure => omega
        case rel => exact ⟨i + 1, by go_num, ⟨by have := HE.out; omega⟩, HO, HP, HB⟩
      · have z1 : decide (0 < p.size) = false := decide_eq_false hz
        have z2 : decide (0 < (p.size : Int)) = false := decide_eq_false (by omega)
        rw [if_neg hz, List.append_nil] at HX
        go_wp2
        go_roundg g1
        case measure => omega
        case rel => exact ⟨i + 1, by go_num, ⟨by have := HE.out; omega⟩, by rw [HX.out]; exact HO, HP, HB⟩
    · have hi : i = n := by have := HE.out; omega
      subst hi
      go_wp2
      go_ret
      exact ⟨_, rfl, HO.out, HB.out⟩
def impl_lengthsOf.f (a0 a1 : ByteArray) : Option (List Int) := if a0.size ≤ 1000000 ∧ a1.size = 1 then some (lenN (cuts (a1.data.toList.headD 0) a0) (cuts (a1.data.toList.headD 0) a0).length) else none
theorem one_byte (s : ByteArray) (h : s.size = 1) : s = ⟨#[s.data.toList.headD 0]⟩ := by
  obtain ⟨⟨l⟩⟩ := s
  match l, h with
  | [x], _ => rfl
theorem impl_lengthsOf.calls (a0 a1 : ByteArray) (r : List Int) (w : World) (h : impl_lengthsOf.f a0 a1 = some r) :
    Calls Tryd.prog 70 #[.string a0, .string a1] w fun e w' => ∃ v0_ : Value, e = .returned (v0_) ∧ Kd.R (Kd.int .i64) 2 w' w.heap.size (fun _ => True) v0_ r ∧ Below w.heap.size w w' := by
  unfold impl_lengthsOf.f at h
  by_cases hc : a0.size ≤ 1000000 ∧ a1.size = 1
  · rw [if_pos hc] at h
    obtain rfl := Option.some.inj h
    have e := one_byte a1 hc.2
    have := lens_walk a0 (a1.data.toList.headD 0) hc.1 w
    rw [← e] at this
    exact this
  · rw [if_neg hc] at h; cases h
end Go.Proofs.YthkpnbelbaljdaaDoor.X
end
section
/- A stub: the text lies in G2. -/
end
section
/- The pieces of a wave between levels: its pulses' lengths. Conditions: as each lemma says. -/
namespace Go.Proofs.YthkpnbelbaljdaaDoor.X
open Go.RowKit Go.Proofs.YthkpnbelbaljdaaDoorW.PrintWords Go.Proofs.YthkpnbelbaljdaaDoorW.PrintLast Go.Proofs.YthkpnbelbaljdaaDoorW.PrintMore
set_option linter.unusedVariables false
set_option linter.unusedSimpArgs false
def some1 (n : Nat) : List Int := if 0 < n then [(n : Int)] else []
def gol (c : UInt8) : List UInt8 → Nat → List Int
  | [], cur => some1 cur
  | b :: l, cur => if b = c then some1 cur ++ gol c l 0 else gol c l (cur + 1)
theorem gol_none (c : UInt8) : ∀ (l : List UInt8) (cur : Nat), (∀ b ∈ l, b ≠ c) → gol c l cur = some1 (cur + l.length)
  | [], cur, _ => rfl
  | b :: l, cur, h => by
    rw [gol, if_neg (h b List.mem_cons_self), gol_none c l (cur + 1) (fun x hx => h x (List.mem_cons_of_mem _ hx)), List.length_cons, Nat.add_assoc, Nat.add_comm 1]
theorem gol_mark (c : UInt8) (q : List UInt8) : ∀ (p : List UInt8) (cur : Nat), (∀ b ∈ p, b ≠ c) → gol c (p ++ c :: q) cur = some1 (cur + p.length) ++ gol c q 0
  | [], cur, _ => by rw [List.nil_append, gol, if_pos rfl]; rfl
  | b :: p, cur, h => by
    rw [List.cons_append, gol, if_neg (h b List.mem_cons_self), gol_mark c q p (cur + 1) (fun x hx => h x (List.mem_cons_of_mem _ hx)), List.length_cons, Nat.add_assoc, Nat.add_comm 1]
theorem index_split : ∀ (l : List UInt8) (c : UInt8) (k : Nat), Lib.countByte l c = k + 1 → ∃ j : Nat, Lib.indexByte l c = j ∧ j < l.length ∧ l.take j ++ c :: l.drop (j + 1) = l ∧ ∀ b ∈ l.take j, b ≠ c
  | [], c, k, h => by simp [Lib.countByte] at h
  | b :: l, c, k, h => by
    unfold Lib.countByte at h
    rw [List.count_cons] at h
    unfold Lib.indexByte
    by_cases hb : (b == c) = true
    · rw [if_pos hb]
      exact ⟨0, rfl, by simp, by rw [beq_iff_eq.1 hb]; rfl, by simp⟩
    · rw [if_neg hb] at h ⊢
      obtain ⟨j, h1, h2, h3, h4⟩ := index_split l c k (by unfold Lib.countByte; simpa using h)
      refine ⟨j + 1, ?_, by simp; omega, ?_, ?_⟩
      · rw [h1]
        have : ((j : Int) == -1) = false := by rw [beq_eq_false_iff_ne]; omega
        rw [this]; simp
      · rw [List.take_succ_cons, List.drop_succ_cons, List.cons_append, h3]
      · intro x hx
        rw [List.take_succ_cons] at hx
        rcases List.mem_cons.1 hx with rfl | hx
        · simpa using hb
        · exact h4 x hx
def sizes (P : List ByteArray) : List Int := (P.filter fun x => decide (0 < x.size)).map fun x => (x.size : Int)
theorem sizes_cons (x : ByteArray) (P : List ByteArray) : sizes (x :: P) = some1 x.size ++ sizes P := by
  unfold sizes some1
  by_cases h : 0 < x.size
  · rw [List.filter_cons, if_pos (decide_eq_true h), if_pos h]; rfl
  · rw [List.filter_cons, if_neg (by simpa using h), if_neg h]; rfl
theorem cutN_gol (c : UInt8) : ∀ (k : Nat) (s : ByteArray), Lib.countByte s.data.toList c = k → sizes (cutN c k s) = gol c s.data.toList 0
  | 0, s, h => by
    have hl : s.data.toList.length = s.size := by simp
    rw [cutN, sizes_cons, gol_none c _ 0 (fun b hb e => by
      subst e
      unfold Lib.countByte at h
      have := List.count_pos_iff.2 hb
      omega), Nat.zero_add, hl]
    simp [sizes]
  | k + 1, s, h => by
    have hl : s.data.toList.length = s.size := by simp
    obtain ⟨j, e1, e2, e3, e4⟩ := index_split _ c k h
    obtain ⟨j', e1', _, e3'⟩ := count_index _ c k h
    obtain rfl : j = j' := by omega
    have ih := cutN_gol c k (s.extract (j + 1) s.size) (by rw [extract_list]; exact e3')
    rw [extract_list] at ih
    rw [cutN, sizes_cons, e1, Int.toNat_natCast, ih]
    have hz : (s.extract 0 j).size = j := by rw [ByteArray.size_extract]; omega
    rw [hz]
    conv => rhs; rw [← e3]
    rw [gol_mark c _ _ 0 e4, Nat.zero_add, List.length_take, Nat.min_eq_left (by omega)]
def accN (s : ByteArray) : Nat → List Int × Nat
  | 0 => ([], 0)
  | n + 1 => if bt s (n : Int) = 48 then ((accN s n).1 ++ some1 (accN s n).2, 0) else ((accN s n).1, (accN s n).2 + 1)
theorem accN_gol (s : ByteArray) : ∀ n : Nat, n ≤ s.size → (accN s n).1 ++ gol 48 (s.data.toList.drop n) (accN s n).2 = gol 48 s.data.toList 0
  | 0, _ => rfl
  | n + 1, hn => by
    have ih := accN_gol s n (by omega)
    have hl : n < s.data.toList.length := by simp; omega
    have hb := bt_get s n (by omega)
    have he : s.data.toList[n] = s.data[n]'(by simpa using hl) := by simp
    rw [List.drop_eq_getElem_cons hl, gol] at ih
    rw [accN]
    by_cases h : bt s (n : Int) = 48
    · have : s.data.toList[n] = 48 := by
        rw [he, ← UInt8.toNat_inj]
        have : ((s.data[n]'(by simpa using hl)).toNat : Int) = 48 := by rw [← hb]; exact h
        have e : (48 : UInt8).toNat = 48 := rfl
        omega
      rw [if_pos this] at ih
      rw [if_pos h, List.append_assoc]
      exact ih
    · have : s.data.toList[n] ≠ 48 := by
        intro e
        apply h
        rw [hb, ← he, e]; rfl
      rw [if_neg this] at ih
      rw [if_neg h]
      exact ih
def dif (us ds : List Int) : List Int := List.zipWith (fun u d => d - u) us ds
theorem dif_snoc (us ds : List Int) (u d : Int) (h : us.length = ds.length) : dif (us ++ [u]) (ds ++ [d]) = dif us ds ++ [d - u] := by
  unfold dif; rw [List.zipWith_append h]; rfl
theorem accN_edges (s : ByteArray) (hL : Lev s) : ∀ n : Nat, n ≤ s.size → (prv s n = 48 ∧ (accN s n).2 = 0 ∧ (edg s 49 n).length = (edg s 48 n).length ∧ (accN s n).1 = dif (edg s 49 n) (edg s 48 n)) ∨
    (prv s n = 49 ∧ ∃ (us : List Int) (a : Nat), edg s 49 n = us ++ [(a : Int)] ∧ us.length = (edg s 48 n).length ∧ a + (accN s n).2 = n ∧ 0 < (accN s n).2 ∧ (accN s n).1 = dif us (edg s 48 n))
  | 0, _ => .inl ⟨rfl, rfl, rfl, rfl⟩
  | n + 1, hn => by
    rw [prv_succ, edg_succ, edg_succ, accN]
    rcases accN_edges s hL n (by omega) with ⟨hp, hc, hl, ho⟩ | ⟨hp, us, a, he, hl, ha, hc, ho⟩
    · rcases hL n (by omega) with hb | hb
      · have e1 : isE s 49 n = false := by unfold isE; rw [hb]; rfl
        have e2 : isE s 48 n = false := by unfold isE; rw [hb, hp]; rfl
        rw [e1, e2, if_pos hb]
        refine .inl ⟨hb, rfl, hl, ?_⟩
        rw [hc]; simpa [some1] using ho
      · have e1 : isE s 49 n = true := by unfold isE; rw [hb, hp]; rfl
        have e2 : isE s 48 n = false := by unfold isE; rw [hb]; rfl
        rw [e1, e2, if_neg (by omega)]
        exact .inr ⟨hb, _, n, rfl, hl, by show n + ((accN s n).2 + 1) = n + 1; omega, by show 0 < (accN s n).2 + 1; omega, ho⟩
    · rcases hL n (by omega) with hb | hb
      · have e1 : isE s 49 n = false := by unfold isE; rw [hb]; rfl
        have e2 : isE s 48 n = true := by unfold isE; rw [hb, hp]; rfl
        rw [e1, e2, if_pos hb]
        refine .inl ⟨hb, rfl, ?_, ?_⟩
        · rw [if_neg (by decide), if_pos rfl, he, List.length_append, List.length_append, hl]; rfl
        · rw [if_neg (by decide), if_pos rfl, he, dif_snoc _ _ _ _ hl, ← ho]
          show (accN s n).1 ++ some1 (accN s n).2 = _
          unfold some1
          rw [if_pos hc]
          congr 2
          omega
      · have e1 : isE s 49 n = false := by unfold isE; rw [hb, hp]; rfl
        have e2 : isE s 48 n = false := by unfold isE; rw [hb]; rfl
        rw [e1, e2, if_neg (by omega)]
        exact .inr ⟨hb, us, a, he, hl, by show a + ((accN s n).2 + 1) = n + 1; omega, by show 0 < (accN s n).2 + 1; omega, ho⟩
theorem lens_pulses (s : ByteArray) (hL : Lev s) : lenN (cuts 48 s) (cuts 48 s).length = dif (edg s 49 s.size) (dns s) := by
  have h1 : lenN (cuts 48 s) (cuts 48 s).length = sizes (cuts 48 s) := by unfold lenN sizes; rw [List.take_length]
  have h2 : sizes (cuts 48 s) = gol 48 s.data.toList 0 := cutN_gol 48 _ s rfl
  have h3 := accN_gol s s.size (Nat.le_refl _)
  rw [List.drop_of_length_le (by simp)] at h3
  rw [h1, h2, ← h3]
  unfold dns
  show _ ++ some1 (accN s s.size).2 = _
  rcases accN_edges s hL s.size (Nat.le_refl _) with ⟨hp, hc, hl, ho⟩ | ⟨hp, us, a, he, hl, ha, hc, ho⟩
  · rw [if_neg (by omega), hc, ho]; simp [some1]
  · rw [if_pos (by rw [he, ← hl]; simp), he, dif_snoc _ _ _ _ hl, ← ho]
    unfold some1
    rw [if_pos hc]
    congr 2
    omega
end Go.Proofs.YthkpnbelbaljdaaDoor.X
end
section
/- A stub: the text lies in G1. -/
end
section
-- Written by a program of this session out of the kit's print of the loaded functions: a plain function of a Go function, and its contract.
namespace Go.Proofs.YthkpnbelbaljdaaDoor.X
open Go.RowKit Go.Proofs.YthkpnbelbaljdaaDoorW.PrintWords Go.Proofs.YthkpnbelbaljdaaDoorW.PrintLast Go.Proofs.YthkpnbelbaljdaaDoorW.PrintMore
attribute [local go_sem] max2_int min2_int max_two min_two max_three min_three max_four min_four   -- for this text's walks alone
set_option linter.unusedVariables false
set_option linter.unusedSimpArgs false
/-! ### laws_b10Long: function 25 -/
def laws_b10Long.f (l0 : List Int) (l1 : List Int) : Option (Bool) := if (l0.length : Int) > 1048576 then (some true) else (some (decide ((l1.length : Int) > 1048576)))
set_option maxHeartbeats 8000000 in
set_option maxRecDepth 100000 in
theorem laws_b10Long.calls (A0 : Option Addr) (c0 : Nat) (l0 : List Int) (A1 : Option Addr) (c1 : Nat) (l1 : List Int) (r : Bool) (w : World) (hr0 : Kd.C (Kd.int .u8) w A0 l0.length l0) (hc0 : l0.length ≤ c0) (hr1 : Kd.C (Kd.int .u8) w A1 l1.length l1) (hc1 : l1.length ≤ c1) (h : laws_b10Long.f l0 l1 = some r) :
    Calls Tryd.prog 25 #[.slice A0 l0.length c0, .slice A1 l1.length c1] w fun e w' => e = .returned (.bool r) ∧ Drawn0 w w' := by
  have HR0 := Aside0.mk hr0
  have HC0 := Aside0.mk hc0
  clear hr0 hc0
  have HR1 := Aside0.mk hr1
  have HC1 := Aside0.mk hc1
  clear hr1 hc1
  have H : (if (l0.length : Int) > 1048576 then (some true) else (some (decide ((l1.length : Int) > 1048576)))) = some r := h
  clear h
  by_cases c3 : (l0.length : Int) > 1048576
  · rw [if_pos c3] at H
    have c3b0 : decide (1048576 < (l0.length : Int)) = true := decide_eq_true c3
    have c3b1 : decide (1048576 < l0.length) = true := decide_eq_true (by omega)
    clear c3
    obtain rfl := Option.some.inj H
    go_enter Tryd.func25, Tryd.ntmps25
    go_wp2
    go_ret
    exact ⟨by first | rfl | (simp; done) | (simp [*]; done), by repeat (first | exact Drawn0.refl _ | apply Drawn0.step)⟩
  · rw [if_neg c3] at H
    have c3b0 : decide (1048576 < (l0.length : Int)) = false := decide_eq_false c3
    have c3b1 : decide (1048576 < l0.length) = false := decide_eq_false (by omega)
    clear c3
    obtain rfl := Option.some.inj H
    go_enter Tryd.func25, Tryd.ntmps25
    go_wp2
    go_ret
    exact ⟨by first | rfl | (simp; done) | (simp [*]; done), by repeat (first | exact Drawn0.refl _ | apply Drawn0.step)⟩
end Go.Proofs.YthkpnbelbaljdaaDoor.X
end
section
/- A stub: the text lies in G1. -/
end
section
/- A stub: the text lies in G0. -/
end
section
/- A stub: the text lies in G0. -/
end
section
/- The program's JoinWaves: what it answers. Conditions: as each lemma says. -/
namespace Go.Proofs.YthkpnbelbaljdaaDoor.X
open Go.RowKit Go.Proofs.YthkpnbelbaljdaaDoorW.PrintWords Go.Proofs.YthkpnbelbaljdaaDoorW.PrintLast Go.Proofs.YthkpnbelbaljdaaDoorW.PrintMore
set_option linter.unusedVariables false
set_option linter.unusedSimpArgs false
def jlv (a b : ByteArray) (i : Int) : Bool := (bt a i == 49) && (bt b i == 49)
set_option maxHeartbeats 4000000 in
set_option maxRecDepth 100000 in
theorem JoinClo (a b : ByteArray) (i : Int) (ga gb go : Nat) (w : World) (h1 : w.heap[ga]? = some (.cells #[.string a] 9 (0, 0))) (h2 : w.heap[gb]? = some (.cells #[.string b] 9 (0, 0))) (h3 : w.heap[go]? = some (.cells #[.int .i64 0] 2 (0, 0))) (hi0 : 0 ≤ i) (hia : i < (a.size : Int)) (hib : i < (b.size : Int)) :
    Calls Tryd.prog 95 #[.int .i64 i, .pointer (some ⟨ga, 0, none⟩), .pointer (some ⟨gb, 0, none⟩), .pointer (some ⟨go, 0, none⟩)] w fun e w' => e = .returned (.bool (jlv a b i)) ∧ Below w.heap.size w w' := by
  have c1 : w.cell? ⟨ga, 0, none⟩ = some (.string a) := (blk_cell h1 0).trans rfl
  have c2 : w.cell? ⟨gb, 0, none⟩ = some (.string b) := (blk_cell h2 0).trans rfl
  have c3 : ∀ n, (w.drewN n).cell? ⟨go, 0, none⟩ = some (.int .i64 0) := fun n => (blk_cell h3 0).trans rfl
  have c4 : w.cell? ⟨go, 0, none⟩ = some (.int .i64 0) := (blk_cell h3 0).trans rfl
  clear h1 h2 h3
  have hba := bt_at a i
  have pa := eq_true hia
  have hbb := bt_at b i
  have pb := eq_true hib
  have p0 := eq_true hi0
  by_cases ha : bt a i = 49
  · have ma : (bt a i == 49) = true := beq_iff_eq.mpr ha
    by_cases hb : bt b i = 49
    · have mb : (bt b i == 49) = true := beq_iff_eq.mpr hb
      have HV : Aside0 (jlv a b i = true) := ⟨by unfold jlv; rw [ma, mb]; rfl⟩
      go_enter Tryd.func95, Tryd.ntmps95
      go_wp2
      go_quiet (fail)
      go_wp2
      go_ret
      exact ⟨by first | (rw [HV.out]; done) | (rw [HV.out]; rfl), by first | exact Below.refl _ _ | exact pw_below_drewN (Below.refl _ _) _ | exact below_drew1 (Below.refl _ _)⟩
    · have mb : (bt b i == 49) = false := beq_eq_false_iff_ne.mpr hb
      have HV : Aside0 (jlv a b i = false) := ⟨by unfold jlv; rw [ma, mb]; rfl⟩
      go_enter Tryd.func95, Tryd.ntmps95
      go_wp2
      go_quiet (fail)
      go_wp2
      go_ret
      exact ⟨by first | (rw [HV.out]; done) | (rw [HV.out]; rfl), by first | exact Below.refl _ _ | exact pw_below_drewN (Below.refl _ _) _ | exact below_drew1 (Below.refl _ _)⟩
  · have ma : (bt a i == 49) = false := beq_eq_false_iff_ne.mpr ha
    by_cases hb : bt b i = 49
    · have mb : (bt b i == 49) = true := beq_iff_eq.mpr hb
      have HV : Aside0 (jlv a b i = false) := ⟨by unfold jlv; rw [ma, mb]; rfl⟩
      go_enter Tryd.func95, Tryd.ntmps95
      go_wp2
      go_quiet (fail)
      go_wp2
      go_ret
      exact ⟨by first | (rw [HV.out]; done) | (rw [HV.out]; rfl), by first | exact Below.refl _ _ | exact pw_below_drewN (Below.refl _ _) _ | exact below_drew1 (Below.refl _ _)⟩
    · have mb : (bt b i == 49) = false := beq_eq_false_iff_ne.mpr hb
      have HV : Aside0 (jlv a b i = false) := ⟨by unfold jlv; rw [ma, mb]; rfl⟩
      go_enter Tryd.func95, Tryd.ntmps95
      go_wp2
      go_quiet (fail)
      go_wp2
      go_ret
      exact ⟨by first | (rw [HV.out]; done) | (rw [HV.out]; rfl), by first | exact Below.refl _ _ | exact pw_below_drewN (Below.refl _ _) _ | exact below_drew1 (Below.refl _ _)⟩
set_option maxHeartbeats 4000000 in
set_option maxRecDepth 100000 in
theorem Join_yes (a b : ByteArray) (w : World) (h1 : impl_IsWave.f a = some true) (h2 : impl_IsWave.f b = some true) (h3 : a.size = b.size) (h4 : impl_within.f 0 0 3 = some true) (h5 : a.size ≤ 1000000) :
    Calls Tryd.prog 68 #[.int .i64 0, .string a, .string b] w fun e w' => e = .returned (.tuple #[.string (strOfNums (lvs (fun i => jlv a b i) a.size)), .bool true]) ∧ Below w.heap.size w w' := by
  have Hh1 := Aside0.mk h1
  have Hh2 := Aside0.mk h2
  have Hh3 := Aside0.mk h3
  have Hh4 := Aside0.mk h4
  have Hh5 := Aside0.mk h5
  clear h1 h2 h3 h4 h5
  have HB := Aside0.mk (Below.refl w.heap.size w)
  have HZ : Aside0 (a.size = b.size) := Hh3
  have hs := Hh5.out
  have hne : ((a.size : Int) != (b.size : Int)) = false := by rw [HZ.out]; simp
  have hne2 : (a.size != b.size) = false := by rw [HZ.out]; simp
  go_enter Tryd.func68, Tryd.ntmps68
  go_wp2_with (first
    | ((with_reducible refine gate_dst (N := 3) rfl ?_); refine box_event ?hg (N := 3) ?hd (cs := #[.int .i64 0]) (t := 2) ?hr ?_; (case hd => rfl); (case hg => rfl); (case hr => first | (go_simp; done) | (go_simp; rfl)); intro g3 hg wn hbox hb; have GE3 := Aside0.mk (by rw [hg]; exact below_size HB.out : w.heap.size ≤ g3); clear hg; have BK30 := Aside0.mk hbox; clear hbox; have n0_ := Aside0.mk (below_step HB.out hb); clear HB  hb; have HB := n0_; clear n0_ ; have BK3 := BK30; clear BK30; have c3_0 : wn.cell? ⟨g3, 0, none⟩ = some (.int .i64 0) := (blk_cell BK3.out 0).trans rfl)
    | ((with_reducible refine gate_dst (N := 4) rfl ?_); refine box_event ?hg (N := 4) ?hd (cs := #[.string a]) (t := 9) ?hr ?_; (case hd => rfl); (case hg => rfl); (case hr => first | (go_simp; done) | (go_simp; rfl)); intro g4 hg wn hbox hb; have GE4 := Aside0.mk (by rw [hg]; exact below_size HB.out : w.heap.size ≤ g4); have NE3_4 := Aside0.mk (show g3 ≠ g4 by have := blk_lt BK3.out; omega); clear hg; have BK40 := Aside0.mk hbox; clear hbox; have n0_ := Aside0.mk (below_step HB.out hb); have m3_ := Aside0.mk (blk_below BK3.out hb); clear HB BK3 hb; have HB := n0_; have BK3 := m3_; clear n0_ m3_; have c3_0 : wn.cell? ⟨g3, 0, none⟩ = some (.int .i64 0) := (blk_cell BK3.out 0).trans rfl; have BK4 := BK40; clear BK40; have c4_0 : wn.cell? ⟨g4, 0, none⟩ = some (.string a) := (blk_cell BK4.out 0).trans rfl)
    | ((with_reducible refine gate_dst (N := 5) rfl ?_); refine box_event ?hg (N := 5) ?hd (cs := #[.string b]) (t := 9) ?hr ?_; (case hd => rfl); (case hg => rfl); (case hr => first | (go_simp; done) | (go_simp; rfl)); intro g5 hg wn hbox hb; have GE5 := Aside0.mk (by rw [hg]; exact below_size HB.out : w.heap.size ≤ g5); have NE3_5 := Aside0.mk (show g3 ≠ g5 by have := blk_lt BK3.out; omega); have NE4_5 := Aside0.mk (show g4 ≠ g5 by have := blk_lt BK4.out; omega); clear hg; have BK50 := Aside0.mk hbox; clear hbox; have n0_ := Aside0.mk (below_step HB.out hb); have m3_ := Aside0.mk (blk_below BK3.out hb); have m4_ := Aside0.mk (blk_below BK4.out hb); clear HB BK3 BK4 hb; have HB := n0_; have BK3 := m3_; have BK4 := m4_; clear n0_ m3_ m4_; have c3_0 : wn.cell? ⟨g3, 0, none⟩ = some (.int .i64 0) := (blk_cell BK3.out 0).trans rfl; have c4_0 : wn.cell? ⟨g4, 0, none⟩ = some (.string a) := (blk_cell BK4.out 0).trans rfl; have BK5 := BK50; clear BK50; have c5_0 : wn.cell? ⟨g5, 0, none⟩ = some (.string b) := (blk_cell BK5.out 0).trans rfl)
    | (go_at_call 69; (with_reducible refine (impl_IsWave.calls a true _ Hh1.out).mono ?_); rintro e wn ⟨rfl, hb0⟩; (first | have hb := to_below_d hb0 | have hb := to_below_b hb0); clear hb0; have n0_ := Aside0.mk (below_step HB.out hb); have m3_ := Aside0.mk (blk_below BK3.out hb); have m4_ := Aside0.mk (blk_below BK4.out hb); have m5_ := Aside0.mk (blk_below BK5.out hb); clear HB BK3 BK4 BK5 hb; have HB := n0_; have BK3 := m3_; have BK4 := m4_; have BK5 := m5_; clear n0_ m3_ m4_ m5_; have c3_0 : wn.cell? ⟨g3, 0, none⟩ = some (.int .i64 0) := (blk_cell BK3.out 0).trans rfl; have c4_0 : wn.cell? ⟨g4, 0, none⟩ = some (.string a) := (blk_cell BK4.out 0).trans rfl; have c5_0 : wn.cell? ⟨g5, 0, none⟩ = some (.string b) := (blk_cell BK5.out 0).trans rfl)
    | (go_at_call 69; (with_reducible refine (impl_IsWave.calls b true _ Hh2.out).mono ?_); rintro e wn ⟨rfl, hb0⟩; (first | have hb := to_below_d hb0 | have hb := to_below_b hb0); clear hb0; have n0_ := Aside0.mk (below_step HB.out hb); have m3_ := Aside0.mk (blk_below BK3.out hb); have m4_ := Aside0.mk (blk_below BK4.out hb); have m5_ := Aside0.mk (blk_below BK5.out hb); clear HB BK3 BK4 BK5 hb; have HB := n0_; have BK3 := m3_; have BK4 := m4_; have BK5 := m5_; clear n0_ m3_ m4_ m5_; have c3_0 : wn.cell? ⟨g3, 0, none⟩ = some (.int .i64 0) := (blk_cell BK3.out 0).trans rfl; have c4_0 : wn.cell? ⟨g4, 0, none⟩ = some (.string a) := (blk_cell BK4.out 0).trans rfl; have c5_0 : wn.cell? ⟨g5, 0, none⟩ = some (.string b) := (blk_cell BK5.out 0).trans rfl)
    | (go_at_call 48; (with_reducible refine (impl_within.calls 0 0 3 true _ Hh4.out).mono ?_); rintro e wn ⟨rfl, hb0⟩; (first | have hb := to_below_d hb0 | have hb := to_below_b hb0); clear hb0; have n0_ := Aside0.mk (below_step HB.out hb); have m3_ := Aside0.mk (blk_below BK3.out hb); have m4_ := Aside0.mk (blk_below BK4.out hb); have m5_ := Aside0.mk (blk_below BK5.out hb); clear HB BK3 BK4 BK5 hb; have HB := n0_; have BK3 := m3_; have BK4 := m4_; have BK5 := m5_; clear n0_ m3_ m4_ m5_; have c3_0 : wn.cell? ⟨g3, 0, none⟩ = some (.int .i64 0) := (blk_cell BK3.out 0).trans rfl; have c4_0 : wn.cell? ⟨g4, 0, none⟩ = some (.string a) := (blk_cell BK4.out 0).trans rfl; have c5_0 : wn.cell? ⟨g5, 0, none⟩ = some (.string b) := (blk_cell BK5.out 0).trans rfl)
    | (go_at_call 50; (with_reducible refine (waveOf_any a.size (by omega) 95 Tryd.f95 #[.pointer (some ⟨g4, 0, none⟩), .pointer (some ⟨g5, 0, none⟩), .pointer (some ⟨g3, 0, none⟩)] (fun i => jlv a b i) (fun i W => W.heap[g3]? = some (.cells #[.int .i64 0] 2 (0, 0)) ∧ W.heap[g4]? = some (.cells #[.string a] 9 (0, 0)) ∧ W.heap[g5]? = some (.cells #[.string b] 9 (0, 0))) w.heap.size (fun _ => False) _ Tryd.func95 rfl (by kernel_rfl) ⟨BK3.out, BK4.out, BK5.out⟩ (below_size HB.out) (fun _ h => h.elim) ?st ?cl).mono ?_); (case st => exact fun i wa wb hI hs => ⟨(hs g3 (blk_lt BK3.out)).trans hI.1, (hs g4 (blk_lt BK4.out)).trans hI.2.1, (hs g5 (blk_lt BK5.out)).trans hI.2.2⟩); (case cl => exact fun i hi wr hI hsz => (JoinClo a b i g4 g5 g3 wr hI.2.1 hI.2.2 hI.1 (by omega) (by omega) (by rw [← HZ.out]; omega)).mono fun e w' ⟨h1, hb⟩ => ⟨h1, ⟨blk_below hI.1 hb, blk_below hI.2.1 hb, blk_below hI.2.2 hb⟩, hb.mono (Nat.le_trans (below_size HB.out) hsz), Kept.of_below hb _⟩); rintro e wn ⟨rfl, hI, hb, hk⟩; have n0_ := Aside0.mk (HB.out.trans hb); clear HB hb hI hk; have HB := n0_; clear n0_))
  go_ret2
  exact ⟨rfl, HB.out⟩
def impl_JoinWaves.f (a0 : Int) (a1 : ByteArray) (a2 : ByteArray) : Option (ByteArray × Bool) :=
  if a0 = 0 ∧ impl_IsWave.f a1 = some true ∧ impl_IsWave.f a2 = some true ∧ a1.size = a2.size ∧ a1.size ≤ 1000000 then some (strOfNums (lvs (fun i => jlv a1 a2 i) a1.size), true) else none
theorem impl_JoinWaves.calls (a0 : Int) (a1 : ByteArray) (a2 : ByteArray) (r1 : ByteArray) (r2 : Bool) (w : World) (h : impl_JoinWaves.f a0 a1 a2 = some (r1, r2)) :
    Calls Tryd.prog 68 #[.int .i64 a0, .string a1, .string a2] w fun e w' => e = .returned (.tuple #[.string r1, .bool r2]) ∧ Below w.heap.size w w' := by
  unfold impl_JoinWaves.f at h
  by_cases hc : a0 = 0 ∧ impl_IsWave.f a1 = some true ∧ impl_IsWave.f a2 = some true ∧ a1.size = a2.size ∧ a1.size ≤ 1000000
  · rw [if_pos hc] at h
    simp only [Option.some.injEq, Prod.mk.injEq] at h
    obtain ⟨rfl, rfl⟩ := h
    obtain ⟨rfl, h1, h2, h3, h5⟩ := hc
    exact Join_yes a1 a2 w h1 h2 h3 (by unfold impl_within.f; rfl) h5
  · rw [if_neg hc] at h; cases h
end Go.Proofs.YthkpnbelbaljdaaDoor.X
end
section
-- Written by a program of this session out of the kit's print of the loaded functions: a plain function of a Go function, and its contract.
namespace Go.Proofs.YthkpnbelbaljdaaDoor.X
open Go.RowKit Go.Proofs.YthkpnbelbaljdaaDoorW.PrintWords Go.Proofs.YthkpnbelbaljdaaDoorW.PrintLast Go.Proofs.YthkpnbelbaljdaaDoorW.PrintMore
attribute [local go_sem] max2_int min2_int max_two min_two max_three min_three max_four min_four   -- for this text's walks alone
set_option linter.unusedVariables false
set_option linter.unusedSimpArgs false
/-! ### impl_PlainGate: function 33 -/
def impl_PlainGate.f (a0 : ByteArray) (a1 : ByteArray) : Option (ByteArray × Bool) := (impl_JoinWaves.f 0 a0 a1).bind fun bt453 => (some (bt453.1, bt453.2))
set_option maxHeartbeats 8000000 in
set_option maxRecDepth 100000 in
theorem impl_PlainGate.calls (a0 : ByteArray) (a1 : ByteArray) (r1 : ByteArray) (r2 : Bool) (w : World) (h : impl_PlainGate.f a0 a1 = some (r1, r2)) :
    Calls Tryd.prog 33 #[.string a0, .string a1] w fun e w' => e = .returned (.tuple #[.string r1, .bool r2]) ∧ Below w.heap.size w w' := by
  have HB := Aside0.mk (Below.refl w.heap.size w)
  have H : ((impl_JoinWaves.f 0 a0 a1).bind fun bt453 => (some (bt453.1, bt453.2))) = some (r1, r2) := h
  clear h
  replace H := Option.bind_eq_some_iff.mp H
  obtain ⟨⟨t453, t454⟩, A30, H⟩ := H
  replace H : (some (t453, t454)) = some (r1, r2) := H
  have A3 := Aside0.mk A30
  clear A30
  simp only [Option.some.injEq, Prod.mk.injEq] at H
  obtain ⟨rfl, rfl⟩ := H
  go_enter Tryd.func33, Tryd.ntmps33
  go_wp2_with (first | ((with_reducible refine gate_callee (f := 68) rfl ?_); refine goesL_ (some 8) rfl rfl Tryd.func68 (by kernel_rfl) rfl #[.int .i64 0, .string a0, .string a1] rfl (by (try simp only [List.map_toArray, List.map_cons, List.map_nil]); first | done | rfl | (simp only [List.length_drop, List.length_take]; rfl)) ?_; (with_reducible refine (impl_JoinWaves.calls 0 a0 a1 t453 t454 _ A3.out).mono ?_); rintro e w4 ⟨rfl, hb⟩; refine ⟨_, rfl, ?_⟩; have n0_ := Aside0.mk (below_step (by repeat (first | (with_reducible first | exact HB.out | apply below_alloc | apply pw_below_drewN | apply below_drew1) | exact HB.out)) hb); clear HB; have HB := n0_; clear n0_; (try clear hb); (try clear hb2); (try clear hk); (try clear hi)))
  go_ret2
  exact ⟨by first | rfl | (simp [errW_none, errW_some] <;> rfl) | (simp [*, errW_none, errW_some] <;> rfl), by repeat (first | (with_reducible first | exact HB.out | apply below_alloc | apply pw_below_drewN | apply below_drew1) | exact HB.out)⟩
end Go.Proofs.YthkpnbelbaljdaaDoor.X
end
section
/- A stub: the text lies in G2. -/
end
