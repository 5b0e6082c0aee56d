/- My own texts of this seat and its words, merged: G2. Conditions: as each lemma says. -/
import Derived.Test.YthkpnbelbaljdaaDoorK21
import Derived.LoopN
import Derived.Test.YthkpnbelbaljdaaDoorK23
import Derived.Test.YthkpnbelbaljdaaDoorK16
section
/- My own texts of this seat, merged: XConcat, Xp55, Xp83, XPulses, Xp86, XClean, Xp84. Conditions: as each lemma says. -/
/- The library's Concat of two lists. Conditions: small ones. -/
namespace Go.Proofs.YthkpnbelbaljdaaDoor.X
open Go.RowKit Go.Proofs.YthkpnbelbaljdaaDoorW.PrintWords Go.Proofs.YthkpnbelbaljdaaDoorW.PrintLast Go.Proofs.YthkpnbelbaljdaaDoorW.PrintMore
set_option linter.unusedVariables false
set_option linter.unusedSimpArgs false
theorem slices_Concat_pulse_infoE : (Tryd.prog.info? 61).map (fun i => (i.zero, i.size, i.bytes)) = some (some (.agg #[.int .i64 0, .int .i64 0]), (k61).sz, 16) := by kernel_rfl
set_option maxHeartbeats 4000000 in
set_option maxRecDepth 100000 in
theorem slices_Concat_pulse_grow0 (w : World) : Calls Tryd.prog 85 #[.slice none 0 0, .int .i64 0] w fun e w' => e = .returned (.slice none 0 0) ∧ w = w' := by
  go_enter Tryd.func85, Tryd.ntmps85
  go_wp2
  go_ret
  exact ⟨rfl, rfl⟩
set_option maxHeartbeats 4000000 in
set_option maxRecDepth 100000 in
theorem slices_Concat_pulse_grow (n : Nat) (h0 : 0 < n) (hn : n ≤ 100000) (w : World) : Calls Tryd.prog 85 #[.slice none 0 0, .int .i64 (n : Int)] w fun e w' => ∃ v, e = .returned v ∧ Kd.R k61 61 w' w.heap.size (fun _ => True) v [] ∧ Below w.heap.size w w' := by
  go_enter Tryd.func85, Tryd.ntmps85
  have e1 : IntKind.i64.wrap ((n : Int) - 0) = n := IntWalk.i64_in _ ⟨by omega, by omega⟩
  go_wp2_with (((with_reducible refine gate_builtin (b := .append) (xs := #[.tmp 20, .tmp 21]) rfl ?_); at_builtin; refine Kd.R_append_zeros k61 (w0 := w) w.heap.size rfl (.tmp 20) (.tmp 21) 58 3 61 (.agg #[.int .i64 0, .int .i64 0]) 16 rfl Tryd.underlying58 Tryd.underlying3 slices_Concat_pulse_infoE rfl (by decide) (by omega) (.slice none 0 0) [] (z61) (n : Int) (fun _ => True) rfl rfl ?aZ (fun _ _ => trivial) ?aO (by omega) (Below.refl _ _) (Nat.le_refl _) ?aL ?_; (case aZ => first | rfl | exact (k61_mkM _ _ _ z61)); (case aO => exact Kd.R_nil _ _ _ _ _); (case aL => simp; omega); intro v1 w1 ho hb _ _; obtain ⟨Ao, co, eo⟩ := Kd.R_slice ho; subst eo; have HO := Aside0.mk (Kd.R_take (m := 0) ho (Nat.zero_le _)); have HB := Aside0.mk hb; clear ho hb))
  go_ret
  exact ⟨_, rfl, HO.out, HB.out⟩
set_option maxHeartbeats 4000000 in
set_option maxRecDepth 100000 in
theorem slices_Concat_pulse_two (ad : Addr) (c c1 c2 : Nat) (A1 A2 : Option Addr) (xs ys : List (S61)) (hx : xs.length ≤ 1000) (hy : ys.length ≤ 1000) (hp : 0 < xs.length + ys.length) (w : World)
    (k0 : w.cell? ad = some (.slice A1 xs.length c1)) (k1 : w.cell? (ad.add 1) = some (.slice A2 ys.length c2)) (hr1 : Kd.C k61 w A1 xs.length xs) (hr2 : Kd.C k61 w A2 ys.length ys) :
    Calls Tryd.prog 54 #[.slice (some ad) 2 c] w fun e w' => ∃ v, e = .returned v ∧ Kd.R k61 61 w' w.heap.size (fun _ => True) v (xs ++ ys) ∧ Below w.heap.size w w' := by
  have g0 : w.cell? (ad.add 0) = some (.slice A1 xs.length c1) := by simpa [Addr.add] using k0
  have k1' : w.cell? ⟨ad.block, ad.off + 1, none⟩ = some (.slice A2 ys.length c2) := by simpa [Addr.add] using k1
  have s1 : IntKind.i64.wrap (0 + (xs.length : Int)) = (xs.length : Int) := by rw [IntWalk.i64_in _ ⟨by omega, by omega⟩]; omega
  have s2 : IntKind.i64.wrap ((xs.length : Int) + (ys.length : Int)) = ((xs.length + ys.length : Nat) : Int) := by rw [IntWalk.i64_in _ ⟨by omega, by omega⟩]; omega
  have t1 : ((xs.length : Int) + (ys.length : Int)) = ((xs.length + ys.length : Nat) : Int) := by omega
  have HG := Aside0.mk (slices_Concat_pulse_grow (xs.length + ys.length) hp (by omega))
  have K0 := Aside0.mk k0
  have K1 := Aside0.mk k1
  have HR1 := Aside0.mk hr1
  have HR2 := Aside0.mk hr2
  have n1 : ¬ ((xs.length : Int) < 0) := by omega
  have n2 : ¬ (((xs.length + ys.length : Nat) : Int) < 0) := by omega
  obtain ⟨m, hm⟩ : ∃ m, m = xs.length + ys.length := ⟨_, rfl⟩
  rw [← hm] at HG s2 t1 n2
  have HM := Aside0.mk hm
  clear hm hr1 hr2 hp
  go_enter Tryd.func54, Tryd.ntmps54
  go_wp2
  refine wp_loop_rounds 3 ?_
  rw [rounds_succ]
  go_wp2
  rw [rounds_succ]
  go_wp2
  rw [rounds_succ]
  go_wp2_with (go_at_call 85; (with_reducible refine (HG.out _).mono ?_); rintro e w1 ⟨v1, rfl, ho, hb⟩; have HO := Aside0.mk ho; have HB := Aside0.mk hb; have k0 := pw_cell_below hb K0.out; have k1 := pw_cell_below hb K1.out; have g0 : w1.cell? (ad.add 0) = some (.slice A1 xs.length c1) := (by simpa [Addr.add] using k0); have k1' : w1.cell? ⟨ad.block, ad.off + 1, none⟩ = some (.slice A2 ys.length c2) := (by simpa [Addr.add] using k1); clear ho hb)
  refine wp_loop_rounds 3 ?_
  rw [rounds_succ]
  go_wp2_with (((with_reducible refine gate_builtin (b := .append) (xs := #[.tmp 31, .tmp 32]) rfl ?_); at_builtin; refine Kd.R_append_rows k61 (w0 := w) w.heap.size rfl (.tmp 31) (.tmp 32) 58 61 (.agg #[.int .i64 0, .int .i64 0]) 16 rfl Tryd.underlying58 slices_Concat_pulse_infoE rfl (by decide) (by omega) v1 [] xs A1 _ c1 (fun _ => True) (fun _ => False) rfl rfl HO.out (Kd.C_below HR1.out HB.out) (fun _ _ h => h) (fun _ h => h.elim) (fun _ _ => trivial) HB.out (below_size HB.out) ?aL ?_; (case aL => simp; omega); intro v2 w2 ho hb hg _; rw [List.nil_append] at ho; have HO2 := Aside0.mk ho; have HB2 := Aside0.mk hb; have k0 := pw_cell_below hb K0.out; have k1 := pw_cell_below hb K1.out; have g0 : w2.cell? (ad.add 0) = some (.slice A1 xs.length c1) := (by simpa [Addr.add] using k0); have k1' : w2.cell? ⟨ad.block, ad.off + 1, none⟩ = some (.slice A2 ys.length c2) := (by simpa [Addr.add] using k1); clear ho hb hg))
  rw [rounds_succ]
  go_wp2_with (((with_reducible refine gate_builtin (b := .append) (xs := #[.tmp 31, .tmp 32]) rfl ?_); at_builtin; refine Kd.R_append_rows k61 (w0 := w) w.heap.size rfl (.tmp 31) (.tmp 32) 58 61 (.agg #[.int .i64 0, .int .i64 0]) 16 rfl Tryd.underlying58 slices_Concat_pulse_infoE rfl (by decide) (by omega) v2 xs ys A2 _ c2 (fun _ => True) (fun _ => False) rfl rfl HO2.out (Kd.C_below HR2.out HB2.out) (fun _ _ h => h) (fun _ h => h.elim) (fun _ _ => trivial) HB2.out (below_size HB2.out) ?aL ?_; (case aL => omega); intro v3 w3 ho hb hg _; have HO3 := Aside0.mk ho; have HB3 := Aside0.mk hb; clear ho hb hg))
  rw [rounds_succ]
  go_wp2
  go_ret
  exact ⟨_, rfl, HO3.out, HB3.out⟩
set_option maxHeartbeats 4000000 in
set_option maxRecDepth 100000 in
theorem slices_Concat_pulse_none (ad : Addr) (c c1 c2 : Nat) (A1 A2 : Option Addr) (w : World)
    (k0 : w.cell? ad = some (.slice A1 0 c1)) (k1 : w.cell? (ad.add 1) = some (.slice A2 0 c2)) (hr1 : Kd.C k61 w A1 0 []) (hr2 : Kd.C k61 w A2 0 []) :
    Calls Tryd.prog 54 #[.slice (some ad) 2 c] w fun e w' => ∃ v, e = .returned v ∧ Kd.R k61 61 w' w.heap.size (fun _ => True) v [] ∧ Below w.heap.size w w' := by
  have g0 : w.cell? (ad.add 0) = some (.slice A1 0 c1) := by simpa [Addr.add] using k0
  have k1' : w.cell? ⟨ad.block, ad.off + 1, none⟩ = some (.slice A2 0 c2) := by simpa [Addr.add] using k1
  have HG := Aside0.mk (slices_Concat_pulse_grow0)
  have HR1 := Aside0.mk hr1
  have HR2 := Aside0.mk hr2
  have HB := Aside0.mk (Below.refl w.heap.size w)
  have HO := Aside0.mk (Kd.R_nil k61 61 w w.heap.size (fun _ => True))
  have K0 := Aside0.mk k0
  have K1 := Aside0.mk k1
  clear hr1 hr2
  go_enter Tryd.func54, Tryd.ntmps54
  go_wp2
  refine wp_loop_rounds 3 ?_
  rw [rounds_succ]
  go_wp2
  rw [rounds_succ]
  go_wp2
  rw [rounds_succ]
  go_wp2_with (go_at_call 85; (with_reducible refine (HG.out _).mono ?_); rintro e wn ⟨rfl, rfl⟩)
  refine wp_loop_rounds 3 ?_
  rw [rounds_succ]
  go_wp2_with (((with_reducible refine gate_builtin (b := .append) (xs := #[.tmp 31, .tmp 32]) rfl ?_); at_builtin; refine Kd.R_append_rows k61 (w0 := w) w.heap.size rfl (.tmp 31) (.tmp 32) 58 61 (.agg #[.int .i64 0, .int .i64 0]) 16 rfl Tryd.underlying58 slices_Concat_pulse_infoE rfl (by decide) (by omega) (.slice none 0 0) [] [] A1 _ c1 (fun _ => True) (fun _ => False) rfl rfl HO.out HR1.out (fun _ _ h => h) (fun _ h => h.elim) (fun _ _ => trivial) HB.out (below_size HB.out) (by simp) ?_; intro v2 w2 ho hb hg _; rw [List.nil_append] at ho; have HO2 := Aside0.mk ho; have HB2 := Aside0.mk hb; have k0 := pw_cell_below hb K0.out; have k1 := pw_cell_below hb K1.out; have g0 : w2.cell? (ad.add 0) = some (.slice A1 0 c1) := (by simpa [Addr.add] using k0); have k1' : w2.cell? ⟨ad.block, ad.off + 1, none⟩ = some (.slice A2 0 c2) := (by simpa [Addr.add] using k1); clear ho hb hg))
  rw [rounds_succ]
  go_wp2_with (((with_reducible refine gate_builtin (b := .append) (xs := #[.tmp 31, .tmp 32]) rfl ?_); at_builtin; refine Kd.R_append_rows k61 (w0 := w) w.heap.size rfl (.tmp 31) (.tmp 32) 58 61 (.agg #[.int .i64 0, .int .i64 0]) 16 rfl Tryd.underlying58 slices_Concat_pulse_infoE rfl (by decide) (by omega) v2 [] [] A2 _ c2 (fun _ => True) (fun _ => False) rfl rfl HO2.out (Kd.C_below HR2.out HB2.out) (fun _ _ h => h) (fun _ h => h.elim) (fun _ _ => trivial) HB2.out (below_size HB2.out) (by simp) ?_; intro v3 w3 ho hb hg _; rw [List.nil_append] at ho; have HO3 := Aside0.mk ho; have HB3 := Aside0.mk hb; clear ho hb hg))
  rw [rounds_succ]
  go_wp2
  go_ret
  exact ⟨_, rfl, HO3.out, HB3.out⟩
theorem slices_Concat_pulse_pair (ad : Addr) (c c1 c2 : Nat) (A1 A2 : Option Addr) (xs ys : List (S61)) (hx : xs.length ≤ 1000) (hy : ys.length ≤ 1000) (w : World)
    (k0 : w.cell? ad = some (.slice A1 xs.length c1)) (k1 : w.cell? (ad.add 1) = some (.slice A2 ys.length c2)) (hr1 : Kd.C k61 w A1 xs.length xs) (hr2 : Kd.C k61 w A2 ys.length ys) :
    Calls Tryd.prog 54 #[.slice (some ad) 2 c] w fun e w' => ∃ v, e = .returned v ∧ Kd.R k61 61 w' w.heap.size (fun _ => True) v (xs ++ ys) ∧ Below w.heap.size w w' := by
  by_cases hp : 0 < xs.length + ys.length
  · exact slices_Concat_pulse_two ad c c1 c2 A1 A2 xs ys hx hy hp w k0 k1 hr1 hr2
  · obtain rfl : xs = [] := List.eq_nil_of_length_eq_zero (by omega)
    obtain rfl : ys = [] := List.eq_nil_of_length_eq_zero (by omega)
    exact slices_Concat_pulse_none ad c c1 c2 A1 A2 w k0 k1 hr1 hr2
def slices_Concat_pulse.f : List (List (S61)) → Option (List (S61))
  | [xs, ys] => if xs.length ≤ 1000 ∧ ys.length ≤ 1000 then some (xs ++ ys) else none
  | _ => none
theorem slices_Concat_pulse.calls (A0 : Option Addr) (c0 : Nat) (l0 : List (List (S61))) (r : List (S61)) (w : World) (hr0 : Kd.C (Kd.slice 61 k61) w A0 l0.length l0) (hc0 : l0.length ≤ c0) (h : slices_Concat_pulse.f l0 = some r) :
    Calls Tryd.prog 54 #[.slice A0 l0.length c0] w fun e w' => ∃ v0_ : Value, e = .returned (v0_) ∧ Kd.R k61 61 w' w.heap.size (fun _ => True) v0_ r ∧ Below w.heap.size w w' := by
  match l0, h with
  | [xs, ys], h =>
    have h : (if xs.length ≤ 1000 ∧ ys.length ≤ 1000 then some (xs ++ ys) else none) = some r := h
    by_cases hc : xs.length ≤ 1000 ∧ ys.length ≤ 1000
    · rw [if_pos hc] at h
      obtain rfl := Option.some.inj h
      obtain ⟨ad, q0, rfl, _, ⟨A1, c1, rfl, _, h1⟩, hc0⟩ := Kd.C_get hr0 [] 0 (by omega) (by simp)
      obtain ⟨ad', q1, he, _, ⟨A2, c2, rfl, _, h2⟩, hc1⟩ := Kd.C_get hr0 [] 1 (by omega) (by simp)
      obtain rfl := Option.some.inj he
      have k0 : w.cell? ad = some (.slice A1 xs.length c1) := by simpa [Addr.add, Kd.slice] using hc0 0 _ rfl
      have k1 : w.cell? (ad.add 1) = some (.slice A2 ys.length c2) := by simpa [Kd.slice] using hc1 0 _ rfl
      by_cases hp : 0 < xs.length + ys.length
      · exact slices_Concat_pulse_two ad c0 c1 c2 A1 A2 xs ys hc.1 hc.2 hp w k0 k1 h1 h2
      · obtain rfl : xs = [] := List.eq_nil_of_length_eq_zero (by omega)
        obtain rfl : ys = [] := List.eq_nil_of_length_eq_zero (by omega)
        exact slices_Concat_pulse_none ad c0 c1 c2 A1 A2 w k0 k1 h1 h2
    · rw [if_neg hc] at h; cases h
end Go.Proofs.YthkpnbelbaljdaaDoor.X
-- Written by a program of this session out of the kit's print of the loaded functions: a plain function of a Go function, and its contract.
namespace Go.Proofs.YthkpnbelbaljdaaDoor.X
open Go.RowKit Go.Proofs.YthkpnbelbaljdaaDoorW.PrintWords Go.Proofs.YthkpnbelbaljdaaDoorW.PrintLast Go.Proofs.YthkpnbelbaljdaaDoorW.PrintMore
attribute [local go_sem] max2_int min2_int max_two min_two max_three min_three max_four min_four   -- for this text's walks alone
set_option linter.unusedVariables false
set_option linter.unusedSimpArgs false
/-! ### impl_pulses: function 55 -/
mutual
def impl_pulses.l0 : Nat → ByteArray → List (S61) → List Int → Int → Int → Option ((List (S61)))
  | 0, _, _, _, _, _ => none
  | k + 1, x0, x3, x10, x11, x12 => if x12 < x11 then (if 0 ≤ x12 then (if x12 < (x10.length : Int) then (impl_pulses.l1 k x0 x3 (rd x10 x12) 0 (rd x10 x12) x10 x11 x12) else (none)) else (none)) else (some x3)
def impl_pulses.l1 : Nat → ByteArray → List (S61) → Int → Int → Int → List Int → Int → Int → Option ((List (S61)))
  | 0, _, _, _, _, _, _, _, _ => none
  | k + 1, x0, x3, x5, x6, x7, x10, x11, x12 => if x7 < (x0.size : Int) then (if 0 ≤ x7 then (if (bt x0 x7) = 49 then (impl_pulses.l1 k x0 x3 x5 (wrap64 (x6 + 1)) (wrap64 (x7 + 1)) x10 x11 x12) else (if x3.length < 8796093022208 then (impl_pulses.l0 k x0 (x3 ++ [(⟨x5, x6⟩ : S61)]) x10 x11 (wrap64 (x12 + 1))) else (none))) else (none)) else (if x3.length < 8796093022208 then (impl_pulses.l0 k x0 (x3 ++ [(⟨x5, x6⟩ : S61)]) x10 x11 (wrap64 (x12 + 1))) else (none))
end
def impl_pulses.f (k : Nat) (a0 : ByteArray) : Option ((List (S61))) := (impl_changesTo.f k a0 49).bind fun t186 => (impl_pulses.l0 k a0 (([] : List (S61))) t186 (t186.length : Int) 0)
theorem impl_pulses.mono_l : ∀ k, (∀ y0 y1 y2 y3 y4, LeO (impl_pulses.l0 k y0 y1 y2 y3 y4) (impl_pulses.l0 (k + 1) y0 y1 y2 y3 y4)) ∧ (∀ y0 y1 y2 y3 y4 y5 y6 y7, LeO (impl_pulses.l1 k y0 y1 y2 y3 y4 y5 y6 y7) (impl_pulses.l1 (k + 1) y0 y1 y2 y3 y4 y5 y6 y7))
  | 0 => ⟨fun _ _ _ _ _ r h => by simp [impl_pulses.l0] at h, fun _ _ _ _ _ _ _ _ r h => by simp [impl_pulses.l1] at h⟩
  | k + 1 => by
    obtain ⟨ih0, ih1⟩ := impl_pulses.mono_l k
    refine ⟨?_, ?_⟩
    · intro y0 y1 y2 y3 y4
      unfold impl_pulses.l0
      repeat' first
      | (with_reducible exact ih0 _ _ _ _ _)
      | (with_reducible exact ih1 _ _ _ _ _ _ _ _)
      | (with_reducible exact impl_changesTo.mono _ _ _)
      | (with_reducible exact LeO.refl _)
      | (with_reducible exact LeO.none _)
      | (with_reducible refine LeO.ite ?_ ?_)
      | (with_reducible refine LeO.bind ?_ (fun _ => ?_))
      | exact ih0 _ _ _ _ _
      | exact ih1 _ _ _ _ _ _ _ _
      | exact impl_changesTo.mono _ _ _
      | exact LeO.none _
      | refine LeO.ite ?_ ?_
      | refine LeO.bind ?_ (fun _ => ?_)
    · intro y0 y1 y2 y3 y4 y5 y6 y7
      unfold impl_pulses.l1
      repeat' first
      | (with_reducible exact ih0 _ _ _ _ _)
      | (with_reducible exact ih1 _ _ _ _ _ _ _ _)
      | (with_reducible exact impl_changesTo.mono _ _ _)
      | (with_reducible exact LeO.refl _)
      | (with_reducible exact LeO.none _)
      | (with_reducible refine LeO.ite ?_ ?_)
      | (with_reducible refine LeO.bind ?_ (fun _ => ?_))
      | exact ih0 _ _ _ _ _
      | exact ih1 _ _ _ _ _ _ _ _
      | exact impl_changesTo.mono _ _ _
      | exact LeO.none _
      | refine LeO.ite ?_ ?_
      | refine LeO.bind ?_ (fun _ => ?_)
theorem impl_pulses.mono : ∀ a0 k, LeO (impl_pulses.f k a0) (impl_pulses.f (k + 1) a0) := by
  intro a0 k
  obtain ⟨ih0, ih1⟩ := impl_pulses.mono_l k
  unfold impl_pulses.f
  repeat' first
      | (with_reducible exact ih0 _ _ _ _ _)
      | (with_reducible exact ih1 _ _ _ _ _ _ _ _)
      | (with_reducible exact impl_changesTo.mono _ _ _)
      | (with_reducible exact LeO.refl _)
      | (with_reducible exact LeO.none _)
      | (with_reducible refine LeO.ite ?_ ?_)
      | (with_reducible refine LeO.bind ?_ (fun _ => ?_))
      | exact ih0 _ _ _ _ _
      | exact ih1 _ _ _ _ _ _ _ _
      | exact impl_changesTo.mono _ _ _
      | exact LeO.none _
      | refine LeO.ite ?_ ?_
      | refine LeO.bind ?_ (fun _ => ?_)
set_option maxHeartbeats 8000000 in
set_option maxRecDepth 100000 in
theorem impl_pulses.calls (k : Nat) (a0 : ByteArray) (r : List (S61)) (w : World) (h : impl_pulses.f k a0 = some r) :
    Calls Tryd.prog 55 #[.string a0] w fun e w' => ∃ v0_ : Value, e = .returned (v0_) ∧ Kd.R k61 61 w' w.heap.size (fun _ => True) v0_ r ∧ Below w.heap.size w w' := by
  have hu61 := Tryd.underlying61
  have HB := Aside0.mk (Below.refl w.heap.size w)
  have H : ((impl_changesTo.f k a0 49).bind fun t186 => (impl_pulses.l0 k a0 (([] : List (S61))) t186 (t186.length : Int) 0)) = some r := h
  clear h
  obtain ⟨y183, hy183⟩ : ∃ y_ : List (S61), y_ = (([] : List (S61))) := ⟨_, rfl⟩
  replace H : ((impl_changesTo.f k a0 49).bind fun t186 => (impl_pulses.l0 k a0 y183 t186 (t186.length : Int) 0)) = some r := by first | (rw [hy183]; with_reducible exact H) | (have H2_ := (Option.bind_some _ _).symm.trans H; rw [hy183]; with_reducible exact H2_) | (have H2_ := (Option.bind_some _ _).symm.trans H; with_reducible exact H2_) | with_reducible exact H | (rw [hy183]; exact H) | exact H
  have Ny183 := Aside0.mk hy183
  clear hy183
  replace H := Option.bind_eq_some_iff.mp H
  obtain ⟨t186, A20, H⟩ := H
  replace H : (impl_pulses.l0 k a0 y183 t186 (t186.length : Int) 0) = some r := H
  have A2 := Aside0.mk A20
  clear A20
  have H' := Aside0.mk H
  clear H
  go_enter Tryd.func55, Tryd.ntmps55
  go_wp2_with (first | ((with_reducible refine gate_dst (N := 8) rfl ?_); refine Kd.R_lit k61 _ 61 ?hg (N := 8) ?hd (xs := ([] : List (S61))) (inner := []) (ok := fun _ => True) (okp := fun _ => True) ?hr ?hp (fun _ hk => hk) trivial (Below.refl _ _) (Nat.le_refl _) (by simp) ?_; (case hd => rfl); (case hg => rfl); (case hr => first | (go_simp; done) | (go_simp; rfl)); (case hp => exact (Reps.none _ _)); intro v184 w3 ho4 hb hg_ hnew_; clear hg_ hnew_; (first | rw [← Ny183.out] at ho4 | (simp only [Int.reduceToNat] at ho4; rw [← Ny183.out] at ho4)); have n0_ := Aside0.mk (Kd.R_lower ho4 (below_size (by repeat (first | (with_reducible first | exact HB.out | apply below_alloc | apply pw_below_drewN | apply below_drew1) | exact HB.out)))); have n1_ := Aside0.mk (below_step (by repeat (first | (with_reducible first | exact HB.out | apply below_alloc | apply pw_below_drewN | apply below_drew1) | exact HB.out)) hb); clear HB; have HO185 := n0_; have HB := n1_; clear n0_ n1_; clear hb ho4) | ((with_reducible refine gate_callee (f := 49) rfl ?_); refine goesL_ (some 10) rfl rfl Tryd.func49 (by kernel_rfl) rfl #[.string a0, .int .u8 49] rfl (by (try simp only [List.map_toArray, List.map_cons, List.map_nil]); first | done | rfl | (simp only [List.length_drop, List.length_take]; rfl)) ?_; (with_reducible refine (impl_changesTo.calls k a0 49 t186 _ A2.out).mono ?_); rintro e w5 ⟨v187, rfl, ho0, hb⟩; refine ⟨_, rfl, ?_⟩; have n0_ := Aside0.mk (Kd.R_below (by (with_reducible repeat (first | apply Kd.R_alloc | apply Kd.R_drewN | apply Kd.R_drew)); exact HO185.out) hb); have n1_ := Aside0.mk (Kd.R_lower ho0 (below_size (by repeat (first | (with_reducible first | exact HB.out | apply below_alloc | apply pw_below_drewN | apply below_drew1) | exact HB.out)))); have n2_ := Aside0.mk (below_step (by repeat (first | (with_reducible first | exact HB.out | apply below_alloc | apply pw_below_drewN | apply below_drew1) | exact HB.out)) hb); clear HO185; clear HB; have HO185 := n0_; have HO188 := n1_; have HB := n2_; clear n0_ n1_ n2_; (try clear hb); (try clear hb2); (try clear hk); (try clear hi); (try clear ho0); obtain ⟨Ao6, co6, eo6⟩ := Kd.R_slice HO188.out; subst eo6))
  go_loopg [3, 12] k (fun kq v3 v12 w' => ∃ (x3_1 : List (S61)) (x12_1 : Int), v12 = .int .i64 x12_1 ∧ Aside0 (impl_pulses.l0 kq a0 x3_1 t186 (t186.length : Int) x12_1 = some r) ∧ Aside0 (kq ≤ k) ∧ Aside0 (Kd.R k61 61 w' w.heap.size (fun _ => True) v3 x3_1) ∧ Aside0 (Kd.R (Kd.int .i64) 2 w' w.heap.size (fun _ => True) (.slice Ao6 t186.length co6) t186) ∧ Aside0 (Below w.heap.size w w'))
  case atStart => exact ⟨(y183), (0), (by first | rfl | (simp; done) | (simp [*]; done)), H', ⟨Nat.le_refl _⟩, ⟨by (with_reducible repeat (first | apply Kd.R_alloc | apply Kd.R_drewN | apply Kd.R_drew)); exact HO185.out⟩, ⟨by (with_reducible repeat (first | apply Kd.R_alloc | apply Kd.R_drewN | apply Kd.R_drew)); exact HO188.out⟩, ⟨by repeat (first | (with_reducible first | exact HB.out | apply below_alloc | apply pw_below_drewN | apply below_drew1) | exact HB.out)⟩⟩
  case round =>
    clear H'
    try clear p2
    try clear c4
    try clear c5
    obtain ⟨x3_1, x12_1, rfl, HA, HK1, HO_3, HO_10, HB⟩ := hrel
    cases gk with
    | zero => exact absurd HA.out (by simp [impl_pulses.l0])
    | succ k1 =>
      have H := HA.out
      clear HA
      simp only [impl_pulses.l0] at H
      by_cases c7 : x12_1 < (t186.length : Int)
      · rw [if_pos c7] at H
        have c7b0 : decide (x12_1 < (t186.length : Int)) = true := decide_eq_true c7
        clear c7
        by_cases c8 : 0 ≤ x12_1
        · rw [if_pos c8] at H
          have c8b0 : decide (0 ≤ x12_1) = true := decide_eq_true c8
          clear c8
          by_cases c9 : x12_1 < (t186.length : Int)
          · rw [if_pos c9] at H
            have c9b0 : decide (x12_1 < (t186.length : Int)) = true := decide_eq_true c9
            clear c9
            have H' := Aside0.mk H
            clear H
            have p189 : 0 ≤ (x12_1 : Int) := of_decide_eq_true (by first | (with_reducible assumption) | assumption)
            have q189 : x12_1 < (t186.length : Int) := of_decide_eq_true (by first | (with_reducible assumption) | assumption)
            obtain ⟨ad189, e189, hx189_0⟩ := Kd.at_int (Kd.R_reads' HO_10.out).2.2 x12_1 p189 q189
            cases e189
            replace p189 := eq_true p189
            replace q189 := eq_true q189
            go_wp2
            go_loopg [6, 7] k1 (fun kq v6 v7 w' => ∃ (x6_2 : Int) (x7_2 : Int), v6 = .int .i64 x6_2 ∧ v7 = .int .i64 x7_2 ∧ Aside0 (impl_pulses.l1 kq a0 x3_1 (rd t186 x12_1) x6_2 x7_2 t186 (t186.length : Int) x12_1 = some r) ∧ Aside0 (kq ≤ k1) ∧ Aside0 (Kd.R k61 61 w' w.heap.size (fun _ => True) u3 x3_1) ∧ Aside0 (Kd.R (Kd.int .i64) 2 w' w.heap.size (fun _ => True) (.slice (some ad189) t186.length co6) t186) ∧ Aside0 (Below w.heap.size w w'))
            case atStart => exact ⟨(0), (rd t186 x12_1), (by first | rfl | (simp; done) | (simp [*]; done)), (by first | rfl | (simp; done) | (simp [*]; done)), H', ⟨Nat.le_refl _⟩, ⟨by (with_reducible repeat (first | apply Kd.R_alloc | apply Kd.R_drewN | apply Kd.R_drew)); exact HO_3.out⟩, ⟨by (with_reducible repeat (first | apply Kd.R_alloc | apply Kd.R_drewN | apply Kd.R_drew)); exact HO_10.out⟩, ⟨by repeat (first | (with_reducible first | exact HB.out | apply below_alloc | apply pw_below_drewN | apply below_drew1) | exact HB.out)⟩⟩
            case round =>
              clear H'
              try clear p1
              try clear q1
              try clear hx1
              try clear p2
              try clear c4
              try clear c5
              try clear c7
              try clear c7b0
              try clear c8
              try clear c8b0
              try clear c9
              try clear c9b0
              try clear hx189_0
              try clear p189
              try clear p2
              try clear q189
              obtain ⟨x6_2, x7_2, rfl, rfl, HA, HK2, HO_3, HO_10, HB⟩ := hrel
              cases gk with
              | zero => exact absurd HA.out (by simp [impl_pulses.l1])
              | succ k2 =>
                have H := HA.out
                clear HA
                simp only [impl_pulses.l1] at H
                by_cases c10 : x7_2 < (a0.size : Int)
                · rw [if_pos c10] at H
                  have c10b0 : decide (x7_2 < (a0.size : Int)) = true := decide_eq_true c10
                  clear c10
                  by_cases c11 : 0 ≤ x7_2
                  · rw [if_pos c11] at H
                    have c11b0 : decide (0 ≤ x7_2) = true := decide_eq_true c11
                    clear c11
                    by_cases c13 : (bt a0 x7_2) = 49
                    · rw [if_pos c13] at H
                      have c13b0 : ((bt a0 x7_2) == 49) = true := beq_iff_eq.mpr c13
                      have c13b1 : ((bt a0 x7_2) != 49) = false := bne_eq_false_iff_eq.mpr c13
                      clear c13
                      have H' := Aside0.mk H
                      clear H
                      have p12 : 0 ≤ (x7_2 : Int) := of_decide_eq_true (by first | (with_reducible assumption) | assumption)
                      have q12 : x7_2 < (a0.size : Int) := of_decide_eq_true (by first | (with_reducible assumption) | assumption)
                      have hx12 := bt_at a0 x7_2
                      replace p12 := eq_true p12
                      replace q12 := eq_true q12
                      go_wp2
                      go_roundg k2
                      case measure => have := HK1.out; have := HK2.out; omega
                      case rel => exact ⟨(wrap64 (x6_2 + 1)), (wrap64 (x7_2 + 1)), (by first | rfl | (simp; done) | (simp [*]; done)), (by first | rfl | (simp; done) | (simp [*]; done)), H', ⟨by have := HK1.out; have := HK2.out; omega⟩, ⟨by (with_reducible repeat (first | apply Kd.R_alloc | apply Kd.R_drewN | apply Kd.R_drew)); exact HO_3.out⟩, ⟨by (with_reducible repeat (first | apply Kd.R_alloc | apply Kd.R_drewN | apply Kd.R_drew)); exact HO_10.out⟩, ⟨by repeat (first | (with_reducible first | exact HB.out | apply below_alloc | apply pw_below_drewN | apply below_drew1) | exact HB.out)⟩⟩
                    · rw [if_neg c13] at H
                      have c13b0 : ((bt a0 x7_2) == 49) = false := beq_eq_false_iff_ne.mpr c13
                      have c13b1 : ((bt a0 x7_2) != 49) = true := bne_iff_ne.mpr c13
                      by_cases c14 : x3_1.length < 8796093022208
                      · rw [if_pos c14] at H
                        have LMc14 := Aside0.mk c14
                        clear c14
                        obtain ⟨y190, hy190⟩ : ∃ y_ : List (S61), y_ = (x3_1 ++ [(⟨(rd t186 x12_1), x6_2⟩ : S61)]) := ⟨_, rfl⟩
                        replace H : (impl_pulses.l0 k2 a0 y190 t186 (t186.length : Int) (wrap64 (x12_1 + 1))) = some r := by first | (rw [hy190]; with_reducible exact H) | (have H2_ := (Option.bind_some _ _).symm.trans H; rw [hy190]; with_reducible exact H2_) | (have H2_ := (Option.bind_some _ _).symm.trans H; with_reducible exact H2_) | with_reducible exact H | (rw [hy190]; exact H) | exact H
                        have Ny190 := Aside0.mk hy190
                        clear hy190
                        have H' := Aside0.mk H
                        clear H
                        have p12 : 0 ≤ (x7_2 : Int) := of_decide_eq_true (by first | (with_reducible assumption) | assumption)
                        have q12 : x7_2 < (a0.size : Int) := of_decide_eq_true (by first | (with_reducible assumption) | assumption)
                        have hx12 := bt_at a0 x7_2
                        replace p12 := eq_true p12
                        replace q12 := eq_true q12
                        go_wp2_with (first | ((with_reducible refine gate_builtin (b := .append) (xs := #[.tmp 31, .tmp 35]) rfl ?_); at_builtin; refine Kd.R_append k61 (w0 := w) w.heap.size rfl (.tmp 31) (.tmp 35) 58 61 (.agg #[(.int .i64 0), (.int .i64 0)]) 16 rfl Tryd.underlying58 info61 rfl (by decide) (by omega) u3 x3_1 (⟨(rd t186 x12_1), x6_2⟩ : S61) [.int .i64 (rd t186 x12_1), .int .i64 x6_2] (fun _ => True) (fun _ => False) rfl rfl ?aP (fun _ hk => hk.elim) ?aF ?aO ?aB ?aS ?aL ?_; (case aP => exact k61_mkM _ _ _ (⟨(rd t186 x12_1), x6_2⟩ : S61)); (case aB => exact (by repeat (first | (with_reducible first | exact HB.out | apply below_alloc | apply pw_below_drewN | apply below_drew1) | exact HB.out))); (case aF => exact (fun _ _ => trivial)); (case aO => exact (by (with_reducible repeat (first | apply Kd.R_alloc | apply Kd.R_drewN | apply Kd.R_drew)); exact HO_3.out)); (case aS => exact (below_size (by repeat (first | (with_reducible first | exact HB.out | apply below_alloc | apply pw_below_drewN | apply below_drew1) | exact HB.out)))); (case aL => have := LMc14.out; omega); intro v191 w15 ho hb hg hat; rw [← Ny190.out] at ho; have n0_ := Aside0.mk (Kd.R_over' (by (with_reducible repeat (first | apply Kd.R_alloc | apply Kd.R_drewN | apply Kd.R_drew)); exact HO_10.out) (Kd.R_typed (by (with_reducible repeat (first | apply Kd.R_alloc | apply Kd.R_drewN | apply Kd.R_drew)); exact HO_3.out)) (by decide) hg); have n1_ := Aside0.mk (hb); have n2_ := Aside0.mk (ho); clear HO_10; clear HB; clear HO_3; have HO_10 := n0_; have HB := n1_; have HO192 := n2_; clear n0_ n1_ n2_; clear ho hb hg hat))
                        go_roundg k2
                        case measure => have := HK1.out; have := HK2.out; omega
                        case rel => exact ⟨(y190), (wrap64 (x12_1 + 1)), (by first | rfl | (simp; done) | (simp [*]; done)), H', ⟨by have := HK1.out; have := HK2.out; omega⟩, ⟨by (with_reducible repeat (first | apply Kd.R_alloc | apply Kd.R_drewN | apply Kd.R_drew)); exact HO192.out⟩, ⟨by (with_reducible repeat (first | apply Kd.R_alloc | apply Kd.R_drewN | apply Kd.R_drew)); exact HO_10.out⟩, ⟨by repeat (first | (with_reducible first | exact HB.out | apply below_alloc | apply pw_below_drewN | apply below_drew1) | exact HB.out)⟩⟩
                      · rw [if_neg c14] at H
                        exact absurd H (by simp)
                  · rw [if_neg c11] at H
                    exact absurd H (by simp)
                · rw [if_neg c10] at H
                  have c10b0 : decide (x7_2 < (a0.size : Int)) = false := decide_eq_false c10
                  clear c10
                  by_cases c16 : x3_1.length < 8796093022208
                  · rw [if_pos c16] at H
                    have LMc16 := Aside0.mk c16
                    clear c16
                    obtain ⟨y193, hy193⟩ : ∃ y_ : List (S61), y_ = (x3_1 ++ [(⟨(rd t186 x12_1), x6_2⟩ : S61)]) := ⟨_, rfl⟩
                    replace H : (impl_pulses.l0 k2 a0 y193 t186 (t186.length : Int) (wrap64 (x12_1 + 1))) = some r := by first | (rw [hy193]; with_reducible exact H) | (have H2_ := (Option.bind_some _ _).symm.trans H; rw [hy193]; with_reducible exact H2_) | (have H2_ := (Option.bind_some _ _).symm.trans H; with_reducible exact H2_) | with_reducible exact H | (rw [hy193]; exact H) | exact H
                    have Ny193 := Aside0.mk hy193
                    clear hy193
                    have H' := Aside0.mk H
                    clear H
                    go_wp2_with (first | ((with_reducible refine gate_builtin (b := .append) (xs := #[.tmp 31, .tmp 35]) rfl ?_); at_builtin; refine Kd.R_append k61 (w0 := w) w.heap.size rfl (.tmp 31) (.tmp 35) 58 61 (.agg #[(.int .i64 0), (.int .i64 0)]) 16 rfl Tryd.underlying58 info61 rfl (by decide) (by omega) u3 x3_1 (⟨(rd t186 x12_1), x6_2⟩ : S61) [.int .i64 (rd t186 x12_1), .int .i64 x6_2] (fun _ => True) (fun _ => False) rfl rfl ?aP (fun _ hk => hk.elim) ?aF ?aO ?aB ?aS ?aL ?_; (case aP => exact k61_mkM _ _ _ (⟨(rd t186 x12_1), x6_2⟩ : S61)); (case aB => exact (by repeat (first | (with_reducible first | exact HB.out | apply below_alloc | apply pw_below_drewN | apply below_drew1) | exact HB.out))); (case aF => exact (fun _ _ => trivial)); (case aO => exact (by (with_reducible repeat (first | apply Kd.R_alloc | apply Kd.R_drewN | apply Kd.R_drew)); exact HO_3.out)); (case aS => exact (below_size (by repeat (first | (with_reducible first | exact HB.out | apply below_alloc | apply pw_below_drewN | apply below_drew1) | exact HB.out)))); (case aL => have := LMc16.out; omega); intro v194 w17 ho hb hg hat; rw [← Ny193.out] at ho; have n0_ := Aside0.mk (Kd.R_over' (by (with_reducible repeat (first | apply Kd.R_alloc | apply Kd.R_drewN | apply Kd.R_drew)); exact HO_10.out) (Kd.R_typed (by (with_reducible repeat (first | apply Kd.R_alloc | apply Kd.R_drewN | apply Kd.R_drew)); exact HO_3.out)) (by decide) hg); have n1_ := Aside0.mk (hb); have n2_ := Aside0.mk (ho); clear HO_10; clear HB; clear HO_3; have HO_10 := n0_; have HB := n1_; have HO195 := n2_; clear n0_ n1_ n2_; clear ho hb hg hat))
                    go_roundg k2
                    case measure => have := HK1.out; have := HK2.out; omega
                    case rel => exact ⟨(y193), (wrap64 (x12_1 + 1)), (by first | rfl | (simp; done) | (simp [*]; done)), H', ⟨by have := HK1.out; have := HK2.out; omega⟩, ⟨by (with_reducible repeat (first | apply Kd.R_alloc | apply Kd.R_drewN | apply Kd.R_drew)); exact HO195.out⟩, ⟨by (with_reducible repeat (first | apply Kd.R_alloc | apply Kd.R_drewN | apply Kd.R_drew)); exact HO_10.out⟩, ⟨by repeat (first | (with_reducible first | exact HB.out | apply below_alloc | apply pw_below_drewN | apply below_drew1) | exact HB.out)⟩⟩
                  · rw [if_neg c16] at H
                    exact absurd H (by simp)
          · rw [if_neg c9] at H
            exact absurd H (by simp)
        · rw [if_neg c8] at H
          exact absurd H (by simp)
      · rw [if_neg c7] at H
        have c7b0 : decide (x12_1 < (t186.length : Int)) = false := decide_eq_false c7
        clear c7
        obtain rfl := Option.some.inj H
        go_wp2
        go_ret
        exact ⟨_, by first | rfl | (simp [errW_none, errW_some] <;> rfl) | (simp [*, errW_none, errW_some] <;> rfl), by (with_reducible repeat (first | apply Kd.R_alloc | apply Kd.R_drewN | apply Kd.R_drew)); exact HO_3.out, by repeat (first | (with_reducible first | exact HB.out | apply below_alloc | apply pw_below_drewN | apply below_drew1) | exact HB.out)⟩
end Go.Proofs.YthkpnbelbaljdaaDoor.X
-- Written by a program of this session out of the kit's print of the loaded functions: a plain function of a Go function, and its contract.
namespace Go.Proofs.YthkpnbelbaljdaaDoor.X
open Go.RowKit Go.Proofs.YthkpnbelbaljdaaDoorW.PrintWords Go.Proofs.YthkpnbelbaljdaaDoorW.PrintLast Go.Proofs.YthkpnbelbaljdaaDoorW.PrintMore
attribute [local go_sem] max2_int min2_int max_two min_two max_three min_three max_four min_four   -- for this text's walks alone
set_option linter.unusedVariables false
set_option linter.unusedSimpArgs false
/-! ### spec_l07Pulses: function 83 -/
def spec_l07Pulses.f (k : Nat) (a0 : ByteArray) : Option (List Int × List Int) := (spec_l01Edges.f k a0 49).bind fun t151 => ((spec_l01Edges.f k a0 48).bind fun t154 => (if (t154.length : Int) < (t151.length : Int) then (if t154.length < 17592186044416 then (some (t151, (t154 ++ [(a0.size : Int)]))) else (none)) else (some (t151, t154))))
theorem spec_l07Pulses.mono : ∀ a0 k, LeO (spec_l07Pulses.f k a0) (spec_l07Pulses.f (k + 1) a0) := by
  intro a0 k
  unfold spec_l07Pulses.f
  repeat' first
      | (with_reducible exact spec_l01Edges.mono _ _ _)
      | (with_reducible exact LeO.refl _)
      | (with_reducible exact LeO.none _)
      | (with_reducible refine LeO.ite ?_ ?_)
      | (with_reducible refine LeO.bind ?_ (fun _ => ?_))
      | exact spec_l01Edges.mono _ _ _
      | exact LeO.none _
      | refine LeO.ite ?_ ?_
      | refine LeO.bind ?_ (fun _ => ?_)
set_option maxHeartbeats 8000000 in
set_option maxRecDepth 100000 in
theorem spec_l07Pulses.calls (k : Nat) (a0 : ByteArray) (r1 : List Int) (r2 : List Int) (w : World) (h : spec_l07Pulses.f k a0 = some (r1, r2)) :
    Calls Tryd.prog 83 #[.string a0] w fun e w' => ∃ v0_ v1_ : Value, e = .returned (.tuple #[v0_, v1_]) ∧ Kd.R (Kd.int .i64) 2 w' w.heap.size (fun k_ => some k_ ≠ (v1_ : Value).ownBlock) v0_ r1 ∧ Kd.R (Kd.int .i64) 2 w' w.heap.size (fun k_ => some k_ ≠ (v0_ : Value).ownBlock) v1_ r2 ∧ Below w.heap.size w w' := by
  have HB := Aside0.mk (Below.refl w.heap.size w)
  have H : ((spec_l01Edges.f k a0 49).bind fun t151 => ((spec_l01Edges.f k a0 48).bind fun t154 => (if (t154.length : Int) < (t151.length : Int) then (if t154.length < 17592186044416 then (some (t151, (t154 ++ [(a0.size : Int)]))) else (none)) else (some (t151, t154))))) = some (r1, r2) := h
  clear h
  replace H := Option.bind_eq_some_iff.mp H
  obtain ⟨t151, A20, H⟩ := H
  replace H : ((spec_l01Edges.f k a0 48).bind fun t154 => (if (t154.length : Int) < (t151.length : Int) then (if t154.length < 17592186044416 then (some (t151, (t154 ++ [(a0.size : Int)]))) else (none)) else (some (t151, t154)))) = some (r1, r2) := H
  have A2 := Aside0.mk A20
  clear A20
  replace H := Option.bind_eq_some_iff.mp H
  obtain ⟨t154, A30, H⟩ := H
  replace H : (if (t154.length : Int) < (t151.length : Int) then (if t154.length < 17592186044416 then (some (t151, (t154 ++ [(a0.size : Int)]))) else (none)) else (some (t151, t154))) = some (r1, r2) := H
  have A3 := Aside0.mk A30
  clear A30
  by_cases c4 : (t154.length : Int) < (t151.length : Int)
  · rw [if_pos c4] at H
    have c4b0 : decide ((t154.length : Int) < (t151.length : Int)) = true := decide_eq_true c4
    have c4b1 : decide (t154.length < t151.length) = true := decide_eq_true (Int.ofNat_lt.mp c4)
    clear c4
    by_cases c5 : t154.length < 17592186044416
    · rw [if_pos c5] at H
      have LMc5 := Aside0.mk c5
      clear c5
      obtain ⟨y157, hy157⟩ : ∃ y_ : List Int, y_ = (t154 ++ [(a0.size : Int)]) := ⟨_, rfl⟩
      replace H : (some (t151, y157)) = some (r1, r2) := by first | (rw [hy157]; with_reducible exact H) | (have H2_ := (Option.bind_some _ _).symm.trans H; rw [hy157]; with_reducible exact H2_) | (have H2_ := (Option.bind_some _ _).symm.trans H; with_reducible exact H2_) | with_reducible exact H | (rw [hy157]; exact H) | exact H
      have Ny157 := Aside0.mk hy157
      clear hy157
      simp only [Option.some.injEq, Prod.mk.injEq] at H
      obtain ⟨rfl, rfl⟩ := H
      go_enter Tryd.func83, Tryd.ntmps83
      go_wp2_with (first | ((with_reducible refine gate_callee (f := 109) rfl ?_); refine goesL_ (some 7) rfl rfl Tryd.func109 (by kernel_rfl) rfl #[.string a0, .int .u8 49] rfl (by (try simp only [List.map_toArray, List.map_cons, List.map_nil]); first | done | rfl | (simp only [List.length_drop, List.length_take]; rfl)) ?_; (with_reducible refine (spec_l01Edges.calls k a0 49 t151 _ A2.out).mono ?_); rintro e w6 ⟨v152, rfl, ho0, hb⟩; refine ⟨_, rfl, ?_⟩; have n0_ := Aside0.mk (Kd.R_lower ho0 (below_size (by repeat (first | (with_reducible first | exact HB.out | apply below_alloc | apply pw_below_drewN | apply below_drew1) | exact HB.out)))); have n1_ := Aside0.mk (below_step (by repeat (first | (with_reducible first | exact HB.out | apply below_alloc | apply pw_below_drewN | apply below_drew1) | exact HB.out)) hb); clear HB; have HO153 := n0_; have HB := n1_; clear n0_ n1_; (try clear hb); (try clear hb2); (try clear hk); (try clear hi); (try clear ho0)) | ((with_reducible refine gate_callee (f := 109) rfl ?_); refine goesL_ (some 9) rfl rfl Tryd.func109 (by kernel_rfl) rfl #[.string a0, .int .u8 48] rfl (by (try simp only [List.map_toArray, List.map_cons, List.map_nil]); first | done | rfl | (simp only [List.length_drop, List.length_take]; rfl)) ?_; (with_reducible refine (spec_l01Edges.calls k a0 48 t154 _ A3.out).mono ?_); rintro e w7 ⟨v155, rfl, ho0, hb⟩; refine ⟨_, rfl, ?_⟩; have n0_ := Aside0.mk (Kd.R_elder' (by (with_reducible repeat (first | apply Kd.R_alloc | apply Kd.R_drewN | apply Kd.R_drew)); exact HO153.out) (Kd.R_base ho0) hb); have n1_ := Aside0.mk (Kd.R_lower (Kd.R_new' ho0 (Kd.R_lt (by (with_reducible repeat (first | apply Kd.R_alloc | apply Kd.R_drewN | apply Kd.R_drew)); exact HO153.out))) (below_size (by repeat (first | (with_reducible first | exact HB.out | apply below_alloc | apply pw_below_drewN | apply below_drew1) | exact HB.out)))); have n2_ := Aside0.mk (below_step (by repeat (first | (with_reducible first | exact HB.out | apply below_alloc | apply pw_below_drewN | apply below_drew1) | exact HB.out)) hb); clear HO153; clear HB; have HO153 := n0_; have HO156 := n1_; have HB := n2_; clear n0_ n1_ n2_; (try clear hb); (try clear hb2); (try clear hk); (try clear hi); (try clear ho0); obtain ⟨Ao8, co8, eo8⟩ := Kd.R_slice HO156.out; subst eo8; obtain ⟨Ao9, co9, eo9⟩ := Kd.R_slice HO153.out; subst eo9) | ((with_reducible refine gate_builtin (b := .append) (xs := #[.tmp 15, .tmp 18]) rfl ?_); at_builtin; refine Kd.R_append (Kd.int .i64) (w0 := w) w.heap.size rfl (.tmp 15) (.tmp 18) 34 2 (.int .i64 0) 8 rfl Tryd.underlying34 info2 rfl (by decide) (by omega) (.slice Ao8 t154.length co8) t154 (a0.size : Int) [.int .i64 (a0.size : Int)] (fun k_ => some k_ ≠ (.slice Ao9 t151.length co9 : Value).ownBlock) (fun _ => False) rfl rfl ?aP (fun _ hk => hk.elim) ?aF ?aO ?aB ?aS ?aL ?_; (case aP => exact rfl); (case aB => exact (by repeat (first | (with_reducible first | exact HB.out | apply below_alloc | apply pw_below_drewN | apply below_drew1) | exact HB.out))); (case aF => exact (fun k_ hk => Kd.fresh' (Kd.R_lt (by (with_reducible repeat (first | apply Kd.R_alloc | apply Kd.R_drewN | apply Kd.R_drew)); exact HO153.out)) k_ hk)); (case aO => exact (by (with_reducible repeat (first | apply Kd.R_alloc | apply Kd.R_drewN | apply Kd.R_drew)); exact Kd.R_mono HO156.out (fun _ hk => hk.2))); (case aS => exact (below_size (by repeat (first | (with_reducible first | exact HB.out | apply below_alloc | apply pw_below_drewN | apply below_drew1) | exact HB.out)))); (case aL => have := LMc5.out; omega); intro v158 w10 ho hb hg hat; rw [← Ny157.out] at ho; have n0_ := Aside0.mk (Kd.R_after (ok := (fun _ => True)) (by (with_reducible repeat (first | apply Kd.R_alloc | apply Kd.R_drewN | apply Kd.R_drew)); exact HO153.out) hg hat); have n1_ := Aside0.mk (hb); have n2_ := Aside0.mk (ho); clear HO153; clear HB; clear HO156; have HO153 := n0_; have HB := n1_; have HO159 := n2_; clear n0_ n1_ n2_; clear ho hb hg hat))
      go_ret2
      exact ⟨_, _, by first | rfl | (simp [errW_none, errW_some] <;> rfl) | (simp [*, errW_none, errW_some] <;> rfl), by (with_reducible repeat (first | apply Kd.R_alloc | apply Kd.R_drewN | apply Kd.R_drew)); exact Kd.R_mono HO153.out (fun _ hk => hk.2), by (with_reducible repeat (first | apply Kd.R_alloc | apply Kd.R_drewN | apply Kd.R_drew)); exact HO159.out, by repeat (first | (with_reducible first | exact HB.out | apply below_alloc | apply pw_below_drewN | apply below_drew1) | exact HB.out)⟩
    · rw [if_neg c5] at H
      exact absurd H (by simp)
  · rw [if_neg c4] at H
    have c4b0 : decide ((t154.length : Int) < (t151.length : Int)) = false := decide_eq_false c4
    have c4b1 : decide (t154.length < t151.length) = false := decide_eq_false (fun h => c4 (Int.ofNat_lt.mpr h))
    clear c4
    simp only [Option.some.injEq, Prod.mk.injEq] at H
    obtain ⟨rfl, rfl⟩ := H
    go_enter Tryd.func83, Tryd.ntmps83
    go_wp2_with (first | ((with_reducible refine gate_callee (f := 109) rfl ?_); refine goesL_ (some 7) rfl rfl Tryd.func109 (by kernel_rfl) rfl #[.string a0, .int .u8 49] rfl (by (try simp only [List.map_toArray, List.map_cons, List.map_nil]); first | done | rfl | (simp only [List.length_drop, List.length_take]; rfl)) ?_; (with_reducible refine (spec_l01Edges.calls k a0 49 t151 _ A2.out).mono ?_); rintro e w11 ⟨v152, rfl, ho0, hb⟩; refine ⟨_, rfl, ?_⟩; have n0_ := Aside0.mk (Kd.R_lower ho0 (below_size (by repeat (first | (with_reducible first | exact HB.out | apply below_alloc | apply pw_below_drewN | apply below_drew1) | exact HB.out)))); have n1_ := Aside0.mk (below_step (by repeat (first | (with_reducible first | exact HB.out | apply below_alloc | apply pw_below_drewN | apply below_drew1) | exact HB.out)) hb); clear HB; have HO153 := n0_; have HB := n1_; clear n0_ n1_; (try clear hb); (try clear hb2); (try clear hk); (try clear hi); (try clear ho0)) | ((with_reducible refine gate_callee (f := 109) rfl ?_); refine goesL_ (some 9) rfl rfl Tryd.func109 (by kernel_rfl) rfl #[.string a0, .int .u8 48] rfl (by (try simp only [List.map_toArray, List.map_cons, List.map_nil]); first | done | rfl | (simp only [List.length_drop, List.length_take]; rfl)) ?_; (with_reducible refine (spec_l01Edges.calls k a0 48 t154 _ A3.out).mono ?_); rintro e w12 ⟨v155, rfl, ho0, hb⟩; refine ⟨_, rfl, ?_⟩; have n0_ := Aside0.mk (Kd.R_elder' (by (with_reducible repeat (first | apply Kd.R_alloc | apply Kd.R_drewN | apply Kd.R_drew)); exact HO153.out) (Kd.R_base ho0) hb); have n1_ := Aside0.mk (Kd.R_lower (Kd.R_new' ho0 (Kd.R_lt (by (with_reducible repeat (first | apply Kd.R_alloc | apply Kd.R_drewN | apply Kd.R_drew)); exact HO153.out))) (below_size (by repeat (first | (with_reducible first | exact HB.out | apply below_alloc | apply pw_below_drewN | apply below_drew1) | exact HB.out)))); have n2_ := Aside0.mk (below_step (by repeat (first | (with_reducible first | exact HB.out | apply below_alloc | apply pw_below_drewN | apply below_drew1) | exact HB.out)) hb); clear HO153; clear HB; have HO153 := n0_; have HO156 := n1_; have HB := n2_; clear n0_ n1_ n2_; (try clear hb); (try clear hb2); (try clear hk); (try clear hi); (try clear ho0); obtain ⟨Ao13, co13, eo13⟩ := Kd.R_slice HO156.out; subst eo13; obtain ⟨Ao14, co14, eo14⟩ := Kd.R_slice HO153.out; subst eo14))
    go_ret2
    exact ⟨_, _, by first | rfl | (simp [errW_none, errW_some] <;> rfl) | (simp [*, errW_none, errW_some] <;> rfl), by (with_reducible repeat (first | apply Kd.R_alloc | apply Kd.R_drewN | apply Kd.R_drew)); exact Kd.R_mono HO153.out (fun _ hk => hk.2), by (with_reducible repeat (first | apply Kd.R_alloc | apply Kd.R_drewN | apply Kd.R_drew)); exact Kd.R_mono HO156.out (fun _ hk => hk.2), by repeat (first | (with_reducible first | exact HB.out | apply below_alloc | apply pw_below_drewN | apply below_drew1) | exact HB.out)⟩
end Go.Proofs.YthkpnbelbaljdaaDoor.X
/- The pulses of a wave: what the program's and the reference's ways of finding them tell. Conditions: as each lemma says. -/
namespace Go.Proofs.YthkpnbelbaljdaaDoor.X
open Go.RowKit Go.Proofs.YthkpnbelbaljdaaDoorW.PrintWords Go.Proofs.YthkpnbelbaljdaaDoorW.PrintLast Go.Proofs.YthkpnbelbaljdaaDoorW.PrintMore
set_option linter.unusedVariables false
set_option linter.unusedSimpArgs false
/-- From u up to d, and no farther, a text's levels are high. -/
def Run (s : ByteArray) (u d : Int) : Prop := ∃ a b : Nat, u = a ∧ d = b ∧ a < b ∧ b ≤ s.size ∧ (∀ j : Nat, a ≤ j → j < b → bt s (j : Int) = 49) ∧ (b < s.size → bt s (b : Int) = 48)
def Runs (s : ByteArray) : List Int → List Int → Prop
  | [], [] => True
  | u :: us, d :: ds => Run s u d ∧ Runs s us ds
  | _, _ => False
theorem Runs.len {s : ByteArray} : ∀ {us ds : List Int}, Runs s us ds → us.length = ds.length
  | [], [], _ => rfl
  | _ :: _, _ :: _, h => by simp [Runs.len h.2]
  | [], _ :: _, h => h.elim
  | _ :: _, [], h => h.elim
theorem Runs.snoc {s : ByteArray} {u d : Int} (hr : Run s u d) : ∀ {us ds : List Int}, Runs s us ds → Runs s (us ++ [u]) (ds ++ [d])
  | [], [], _ => ⟨hr, trivial⟩
  | _ :: _, _ :: _, h => ⟨h.1, Runs.snoc hr h.2⟩
  | [], _ :: _, h => h.elim
  | _ :: _, [], h => h.elim
theorem runs_at (s : ByteArray) (hL : Lev s) : ∀ n : Nat, n ≤ s.size → (prv s n = 48 ∧ Runs s (edg s 49 n) (edg s 48 n)) ∨
    (prv s n = 49 ∧ ∃ (us : List Int) (a : Nat), edg s 49 n = us ++ [(a : Int)] ∧ Runs s us (edg s 48 n) ∧ a < n ∧ ∀ j : Nat, a ≤ j → j < n → bt s (j : Int) = 49)
  | 0, _ => .inl ⟨rfl, trivial⟩
  | n + 1, hn => by
    rw [prv_succ, edg_succ, edg_succ]
    rcases runs_at s hL n (by omega) with ⟨hp, hr⟩ | ⟨hp, us, a, he, hr, ha, hj⟩
    · rcases hL n (by omega) with hb | hb
      · have e1 : isE s 49 n = false := by unfold isE; rw [hb]; rfl
        have e2 : isE s 48 n = false := by unfold isE; rw [hb, hp]; rfl
        rw [e1, e2]; exact .inl ⟨hb, hr⟩
      · have e1 : isE s 49 n = true := by unfold isE; rw [hb, hp]; rfl
        have e2 : isE s 48 n = false := by unfold isE; rw [hb]; rfl
        rw [e1, e2]
        exact .inr ⟨hb, _, n, rfl, hr, by omega, fun j h1 h2 => by
          have : j = n := by omega
          rw [this]; exact hb⟩
    · rcases hL n (by omega) with hb | hb
      · have e1 : isE s 49 n = false := by unfold isE; rw [hb]; rfl
        have e2 : isE s 48 n = true := by unfold isE; rw [hb, hp]; rfl
        rw [e1, e2]
        refine .inl ⟨hb, ?_⟩
        rw [if_neg (by decide), if_pos rfl, he]
        exact Runs.snoc ⟨a, n, rfl, rfl, ha, by omega, hj, fun _ => hb⟩ hr
      · have e1 : isE s 49 n = false := by unfold isE; rw [hb, hp]; rfl
        have e2 : isE s 48 n = false := by unfold isE; rw [hb]; rfl
        rw [e1, e2]
        refine .inr ⟨hb, us, a, he, hr, by omega, fun j h1 h2 => ?_⟩
        rcases Nat.lt_or_ge j n with h | h
        · exact hj j h1 h
        · have : j = n := by omega
          rw [this]; exact hb
/-- Where the pulses of a text end. -/
def dns (s : ByteArray) : List Int := if (edg s 48 s.size).length < (edg s 49 s.size).length then edg s 48 s.size ++ [(s.size : Int)] else edg s 48 s.size
theorem runs_all (s : ByteArray) (hL : Lev s) : Runs s (edg s 49 s.size) (dns s) := by
  unfold dns
  rcases runs_at s hL s.size (Nat.le_refl _) with ⟨_, hr⟩ | ⟨_, us, a, he, hr, ha, hj⟩
  · rw [if_neg (by rw [hr.len]; omega)]; exact hr
  · have hl := hr.len
    rw [if_pos (by rw [he, ← hl]; simp), he]
    exact Runs.snoc ⟨a, s.size, rfl, rfl, ha, Nat.le_refl _, hj, fun h => absurd h (by omega)⟩ hr
/-- The pulses, each by its begin and its length. -/
def pz (us ds : List Int) : List S61 := List.zipWith (fun u d => (⟨u, d - u⟩ : S61)) us ds
theorem rd_mid (pre post : List Int) (x : Int) : rd (pre ++ x :: post) (pre.length : Int) = x := by
  rw [rd_nat _ _ (by simp)]; simp
theorem pulse_in (s : ByteArray) (hs : s.size ≤ 400) (out : List S61) (ho : out.length ≤ 1000) (a b : Nat) (l : List Int) (n : Int) (i : Nat) (hi : i ≤ 1000) (hab : b ≤ s.size) (hall : ∀ j : Nat, a ≤ j → j < b → bt s (j : Int) = 49) (hend : b < s.size → bt s (b : Int) = 48)
    (K : Nat) (v : Option (List S61)) (hv : ∀ k, K < k → impl_pulses.l0 k s (out ++ [(⟨(a : Int), (b : Int) - a⟩ : S61)]) l n ((i : Int) + 1) = v) : ∀ (d m k : Nat), a + m + d = b → K + d + 1 < k →
    impl_pulses.l1 k s out a m ((a : Int) + m) l n i = v
  | 0, m, k, hm, hk => by
    cases k with
    | zero => omega
    | succ k =>
      have e1 : (⟨(a : Int), (m : Int)⟩ : S61) = ⟨(a : Int), (b : Int) - a⟩ := by congr 1; omega
      have hv2 := hv k (by omega)
      rw [impl_pulses.l1, w64 (n := (i : Int) + 1) (by omega) (by omega), e1, if_pos (show out.length < 8796093022208 by omega)]
      by_cases h : (a : Int) + m < s.size
      · have hb := hend (by omega)
        rw [show (b : Int) = (a : Int) + m by omega] at hb
        rw [if_pos h, if_pos (by omega), hb, if_neg (by decide)]
        exact hv2
      · rw [if_neg h]; exact hv2
  | d + 1, m, k, hm, hk => by
    cases k with
    | zero => omega
    | succ k =>
      have hb := hall (a + m) (by omega) (by omega)
      rw [Int.natCast_add] at hb
      have ih := pulse_in s hs out ho a b l n i hi hab hall hend K v hv d (m + 1) k (by omega) (by omega)
      rw [impl_pulses.l1, if_pos (by omega), if_pos (by omega), hb, if_pos rfl, w64 (n := (m : Int) + 1) (by omega) (by omega), w64 (n := (a : Int) + m + 1) (by omega) (by omega)]
      rw [Int.natCast_add, Int.natCast_one, ← Int.add_assoc] at ih
      exact ih
theorem pulse_out (s : ByteArray) (hs : s.size ≤ 400) : ∀ (us ds pre : List Int) (out : List S61), Runs s us ds → out.length = pre.length → pre.length + us.length ≤ 400 →
    ∀ k, 500 * us.length + 1 < k → impl_pulses.l0 k s out (pre ++ us) ((pre ++ us).length : Int) (pre.length : Int) = some (out ++ pz us ds)
  | [], [], pre, out, _, ho, hl, k, hk => by
    cases k with
    | zero => omega
    | succ k => rw [impl_pulses.l0, if_neg (by simp)]; simp [pz]
  | u :: us, d :: ds, pre, out, hr, ho, hl, k, hk => by
    obtain ⟨⟨a, b, rfl, rfl, hab, hbs, hall, hend⟩, hr2⟩ := hr
    simp only [List.length_cons] at hl hk
    have key : ∀ k, 500 * us.length + 1 < k → impl_pulses.l0 k s (out ++ [(⟨(a : Int), (b : Int) - a⟩ : S61)]) (pre ++ (a : Int) :: us) ((pre ++ (a : Int) :: us).length : Int) ((pre.length : Int) + 1) = some (out ++ pz ((a : Int) :: us) ((b : Int) :: ds)) := by
      intro k hk
      have ih := pulse_out s hs us ds (pre ++ [(a : Int)]) (out ++ [(⟨(a : Int), (b : Int) - a⟩ : S61)]) hr2 (by simp [ho]) (by simp; omega) k hk
      simp only [List.append_assoc, List.singleton_append, List.length_append, List.length_cons, List.length_nil] at ih
      simp only [List.length_append, List.length_cons]
      have e : ((pre.length + (0 + 1) : Nat) : Int) = (pre.length : Int) + 1 := by omega
      rw [e] at ih
      rw [ih]; rfl
    cases k with
    | zero => omega
    | succ k =>
      have h := pulse_in s hs out (by omega) a b (pre ++ (a : Int) :: us) ((pre ++ (a : Int) :: us).length : Int) pre.length (by omega) hbs hall hend (500 * us.length + 1) _ key (b - a) 0 k (by omega) (by omega)
      rw [impl_pulses.l0, if_pos (by simp; omega), if_pos (by omega), if_pos (by simp; omega), rd_mid]
      simpa using h
  | [], _ :: _, _, _, hr, _, _, _, _ => hr.elim
  | _ :: _, [], _, _, hr, _, _, _, _ => hr.elim
theorem pulses_eq (k : Nat) (s : ByteArray) (hs : s.size ≤ 400) (hL : Lev s) (hk : 300000 < k) : impl_pulses.f k s = some (pz (edg s 49 s.size) (dns s)) := by
  unfold impl_pulses.f
  have hl := edg_len s 49 s.size
  rw [changes_eq k s 49 (by omega) (by omega), Option.bind_some]
  have := pulse_out s hs (edg s 49 s.size) (dns s) [] [] (runs_all s hL) rfl (by simp; omega) k (by omega)
  simpa using this
end Go.Proofs.YthkpnbelbaljdaaDoor.X
-- Written by a program of this session out of the kit's print of the loaded functions: a plain function of a Go function, and its contract.
namespace Go.Proofs.YthkpnbelbaljdaaDoor.X
open Go.RowKit Go.Proofs.YthkpnbelbaljdaaDoorW.PrintWords Go.Proofs.YthkpnbelbaljdaaDoorW.PrintLast Go.Proofs.YthkpnbelbaljdaaDoorW.PrintMore
attribute [local go_sem] max2_int min2_int max_two min_two max_three min_three max_four min_four   -- for this text's walks alone
set_option linter.unusedVariables false
set_option linter.unusedSimpArgs false
class C_impl_pulse_86 where
  f : Int → Int → Option Bool
section
variable [C_impl_pulse_86]
/-! ### impl_pulse_86: function 86 -/
def impl_pulse_86.l0 : Nat → List (S61) → Int → Int → Option (Int)
  | 0, _, _, _ => none
  | k + 1, x0, x7, x8 => if x8 < x7 then (if 0 ≤ x8 then (if x8 < (x0.length : Int) then ((C_impl_pulse_86.f ((rd_T61 x0 x8).f0) ((rd_T61 x0 x8).f1)).bind fun t197 => (if t197 = true then (some x8) else (impl_pulse_86.l0 k x0 x7 (wrap64 (x8 + 1))))) else (none)) else (none)) else (some (-1))
def impl_pulse_86.f (k : Nat) (l0 : List (S61)) (a1 : Int) : Option (Int) := impl_pulse_86.l0 k l0 (l0.length : Int) 0
theorem impl_pulse_86.mono_l : ∀ k, (∀ y0 y1 y2, LeO (impl_pulse_86.l0 k y0 y1 y2) (impl_pulse_86.l0 (k + 1) y0 y1 y2))
  | 0 => fun _ _ _ r h => by simp [impl_pulse_86.l0] at h
  | k + 1 => by
    have ih0 := impl_pulse_86.mono_l k
    · intro y0 y1 y2
      unfold impl_pulse_86.l0
      repeat' first
      | (with_reducible exact ih0 _ _ _)
      | (with_reducible exact LeO.refl _)
      | (with_reducible exact LeO.none _)
      | (with_reducible refine LeO.ite ?_ ?_)
      | (with_reducible refine LeO.bind ?_ (fun _ => ?_))
      | exact ih0 _ _ _
      | exact LeO.none _
      | refine LeO.ite ?_ ?_
      | refine LeO.bind ?_ (fun _ => ?_)
theorem impl_pulse_86.mono : ∀ a0 a1 k, LeO (impl_pulse_86.f k a0 a1) (impl_pulse_86.f (k + 1) a0 a1) := by
  intro a0 a1 k
  have ih0 := impl_pulse_86.mono_l k
  unfold impl_pulse_86.f
  repeat' first
      | (with_reducible exact ih0 _ _ _)
      | (with_reducible exact LeO.refl _)
      | (with_reducible exact LeO.none _)
      | (with_reducible refine LeO.ite ?_ ?_)
      | (with_reducible refine LeO.bind ?_ (fun _ => ?_))
      | exact ih0 _ _ _
      | exact LeO.none _
      | refine LeO.ite ?_ ?_
      | refine LeO.bind ?_ (fun _ => ?_)
set_option maxHeartbeats 8000000 in
set_option maxRecDepth 100000 in
theorem impl_pulse_86.calls (k : Nat) (A0 : Option Addr) (c0 : Nat) (l0 : List (S61)) (a1 : Int) (r : Int) (cf : Nat) (cfn : Func) (caps : Array Value) (hcf : CloIs Tryd.prog cf cfn) (w : World) (hcl : ∀ x0 x1 r W, C_impl_pulse_86.f x0 x1 = some r → Below w.heap.size w W → Calls Tryd.prog cf (#[.agg #[.int .i64 x0, .int .i64 x1]] ++ caps) W fun e w' => e = .returned (.bool r) ∧ Below W.heap.size W w') (hr0 : Kd.C k61 w A0 l0.length l0) (hc0 : l0.length ≤ c0) (h : impl_pulse_86.f k l0 a1 = some r) :
    Calls Tryd.prog 86 #[.slice A0 l0.length c0, .func (.func cf) #[] caps] w fun e w' => e = .returned (.int .i64 r) ∧ Below w.heap.size w w' := by
  have HCF := Aside0.mk hcf
  have HCL := Aside0.mk hcl
  clear hcf hcl
  have hu61 := Tryd.underlying61
  have HR0 := Aside0.mk hr0
  have HC0 := Aside0.mk hc0
  clear hr0 hc0
  have HB := Aside0.mk (Below.refl w.heap.size w)
  have H : (impl_pulse_86.l0 k l0 (l0.length : Int) 0) = some r := h
  clear h
  have H' := Aside0.mk H
  clear H
  go_enter Tryd.func86, Tryd.ntmps86
  go_wp2
  go_loopg [8] k (fun kq v8 w' => ∃ (x8_1 : Int), v8 = .int .i64 x8_1 ∧ Aside0 (impl_pulse_86.l0 kq l0 (l0.length : Int) x8_1 = some r) ∧ Aside0 (kq ≤ k) ∧ Aside0 (Below w.heap.size w w'))
  case atStart => exact ⟨(0), (by first | rfl | (simp; done) | (simp [*]; done)), H', ⟨Nat.le_refl _⟩, ⟨by repeat (first | (with_reducible first | exact HB.out | apply below_alloc | apply pw_below_drewN | apply below_drew1) | exact HB.out)⟩⟩
  case round =>
    clear H'
    try clear p2
    obtain ⟨x8_1, rfl, HA, HK1, HB⟩ := hrel
    cases gk with
    | zero => exact absurd HA.out (by simp [impl_pulse_86.l0])
    | succ k1 =>
      have H := HA.out
      clear HA
      simp only [impl_pulse_86.l0] at H
      by_cases c3 : x8_1 < (l0.length : Int)
      · rw [if_pos c3] at H
        have c3b0 : decide (x8_1 < (l0.length : Int)) = true := decide_eq_true c3
        clear c3
        by_cases c4 : 0 ≤ x8_1
        · rw [if_pos c4] at H
          have c4b0 : decide (0 ≤ x8_1) = true := decide_eq_true c4
          clear c4
          by_cases c5 : x8_1 < (l0.length : Int)
          · rw [if_pos c5] at H
            have c5b0 : decide (x8_1 < (l0.length : Int)) = true := decide_eq_true c5
            clear c5
            replace H := Option.bind_eq_some_iff.mp H
            obtain ⟨t197, A60, H⟩ := H
            replace H : (if t197 = true then (some x8_1) else (impl_pulse_86.l0 k1 l0 (l0.length : Int) (wrap64 (x8_1 + 1)))) = some r := H
            have A6 := Aside0.mk A60
            clear A60
            by_cases c7 : t197 = true
            · subst c7
              have H1 : (some x8_1) = some r := by rw [if_pos rfl] at H; exact H
              clear H
              have H := H1
              clear H1
              obtain rfl := Option.some.inj H
              have p196 : 0 ≤ (x8_1 : Int) := of_decide_eq_true (by first | (with_reducible assumption) | assumption)
              have q196 : x8_1 < (l0.length : Int) := of_decide_eq_true (by first | (with_reducible assumption) | assumption)
              obtain ⟨ad196, e196, hx196_0, hx196_1⟩ := at_T61 HR0.out x8_1 p196 q196
              cases e196
              replace hx196_0 := (HB.out.cell (World.block_lt_of_cell? w _ hx196_0)).trans hx196_0
              replace hx196_1 := (HB.out.cell (World.block_lt_of_cell? w _ hx196_1)).trans hx196_1
              replace p196 := eq_true p196
              replace q196 := eq_true q196
              go_wp2_with (first | ((with_reducible refine gate_dst (N := 16) rfl ?_); refine goesV_ (some 16) rfl rfl HCF.out.hf HCF.out.hname HCF.out.hb #[.agg #[.int .i64 ((rd_T61 l0 x8_1).f0), .int .i64 ((rd_T61 l0 x8_1).f1)]] rfl rfl (by (try simp only [List.map_toArray, List.map_cons, List.map_nil]); first | done | rfl | (simp only [List.length_drop, List.length_take]; rfl)) ?_; (refine (HCL.out ((rd_T61 l0 x8_1).f0) ((rd_T61 l0 x8_1).f1) true _ A6.out (by repeat (first | (with_reducible first | exact HB.out | apply below_alloc | apply pw_below_drewN | apply below_drew1) | exact HB.out | exact Below.refl _ _))).mono ?_); rintro e w8 ⟨rfl, hb⟩; refine ⟨_, rfl, ?_⟩; have n0_ := Aside0.mk (below_step (by repeat (first | (with_reducible first | exact HB.out | apply below_alloc | apply pw_below_drewN | apply below_drew1) | exact HB.out)) hb); clear HB; have HB := n0_; clear n0_; (try clear hb); (try clear hb2); (try clear hk); (try clear hi)))
              go_ret
              exact ⟨by first | rfl | (simp [errW_none, errW_some] <;> rfl) | (simp [*, errW_none, errW_some] <;> rfl), by repeat (first | (with_reducible first | exact HB.out | apply below_alloc | apply pw_below_drewN | apply below_drew1) | exact HB.out)⟩
            · replace c7 := Bool.eq_false_iff.mpr c7
              subst c7
              have H1 : (impl_pulse_86.l0 k1 l0 (l0.length : Int) (wrap64 (x8_1 + 1))) = some r := by rw [if_neg (show ¬ (false = true) by decide)] at H; exact H
              clear H
              have H := H1
              clear H1
              have H' := Aside0.mk H
              clear H
              have p196 : 0 ≤ (x8_1 : Int) := of_decide_eq_true (by first | (with_reducible assumption) | assumption)
              have q196 : x8_1 < (l0.length : Int) := of_decide_eq_true (by first | (with_reducible assumption) | assumption)
              obtain ⟨ad196, e196, hx196_0, hx196_1⟩ := at_T61 HR0.out x8_1 p196 q196
              cases e196
              replace hx196_0 := (HB.out.cell (World.block_lt_of_cell? w _ hx196_0)).trans hx196_0
              replace hx196_1 := (HB.out.cell (World.block_lt_of_cell? w _ hx196_1)).trans hx196_1
              replace p196 := eq_true p196
              replace q196 := eq_true q196
              go_wp2_with (first | ((with_reducible refine gate_dst (N := 16) rfl ?_); refine goesV_ (some 16) rfl rfl HCF.out.hf HCF.out.hname HCF.out.hb #[.agg #[.int .i64 ((rd_T61 l0 x8_1).f0), .int .i64 ((rd_T61 l0 x8_1).f1)]] rfl rfl (by (try simp only [List.map_toArray, List.map_cons, List.map_nil]); first | done | rfl | (simp only [List.length_drop, List.length_take]; rfl)) ?_; (refine (HCL.out ((rd_T61 l0 x8_1).f0) ((rd_T61 l0 x8_1).f1) false _ A6.out (by repeat (first | (with_reducible first | exact HB.out | apply below_alloc | apply pw_below_drewN | apply below_drew1) | exact HB.out | exact Below.refl _ _))).mono ?_); rintro e w9 ⟨rfl, hb⟩; refine ⟨_, rfl, ?_⟩; have n0_ := Aside0.mk (below_step (by repeat (first | (with_reducible first | exact HB.out | apply below_alloc | apply pw_below_drewN | apply below_drew1) | exact HB.out)) hb); clear HB; have HB := n0_; clear n0_; (try clear hb); (try clear hb2); (try clear hk); (try clear hi)))
              go_roundg k1
              case measure => have := HK1.out; omega
              case rel => exact ⟨(wrap64 (x8_1 + 1)), (by first | rfl | (simp; done) | (simp [*]; done)), H', ⟨by have := HK1.out; omega⟩, ⟨by repeat (first | (with_reducible first | exact HB.out | apply below_alloc | apply pw_below_drewN | apply below_drew1) | exact HB.out)⟩⟩
          · rw [if_neg c5] at H
            exact absurd H (by simp)
        · rw [if_neg c4] at H
          exact absurd H (by simp)
      · rw [if_neg c3] at H
        have c3b0 : decide (x8_1 < (l0.length : Int)) = false := decide_eq_false c3
        clear c3
        obtain rfl := Option.some.inj H
        go_wp2
        go_ret
        exact ⟨by first | rfl | (simp [errW_none, errW_some] <;> rfl) | (simp [*, errW_none, errW_some] <;> rfl), by repeat (first | (with_reducible first | exact HB.out | apply below_alloc | apply pw_below_drewN | apply below_drew1) | exact HB.out)⟩
end
end Go.Proofs.YthkpnbelbaljdaaDoor.X
/- The program's IsClean: what it answers. Conditions: texts not past the reach. -/
namespace Go.Proofs.YthkpnbelbaljdaaDoor.X
open Go.RowKit Go.Proofs.YthkpnbelbaljdaaDoorW.PrintWords Go.Proofs.YthkpnbelbaljdaaDoorW.PrintLast Go.Proofs.YthkpnbelbaljdaaDoorW.PrintMore
set_option linter.unusedVariables false
set_option linter.unusedSimpArgs false
theorem eqP (d : Nat) (w : World) (x0 y0 x1 y1 : Int) : (Op.equalIn (d + 2) 61 (.agg #[.int .i64 x0, .int .i64 x1]) (.agg #[.int .i64 y0, .int .i64 y1])).run Tryd.prog w = .ok (x0 == y0 && (x1 == y1)) w := by
  refine eqA_of Tryd.underlying61 (by kernel_rfl) ?_
  refine eqf_cons (by rfl) (by go_simp; rfl) (by go_simp; rfl) (by go_simp) ?_
  exact eqf_last (by rfl) (by go_simp; rfl) (by go_simp; rfl) (by go_simp)
/-- What IsClean asks of a pulse of one of the clocks. -/
def samePulse (p0 p1 : Int) (tl : Bool) (q0 q1 : Int) : Bool := (q0 == p0 && q1 == p1) || (tl && q0 == p0)
set_option maxHeartbeats 4000000 in
set_option maxRecDepth 100000 in
theorem CleanClo (q0 q1 p0 p1 : Int) (tl : Bool) (g1 g2 : Nat) (w : World) (b1 : w.heap[g1]? = some (.cells #[.int .i64 p0, .int .i64 p1] 61 (0, 0))) (b2 : w.heap[g2]? = some (.cells #[.bool tl] 4 (0, 0))) :
    Calls Tryd.prog 57 #[.agg #[.int .i64 q0, .int .i64 q1], .pointer (some ⟨g1, 0, none⟩), .pointer (some ⟨g2, 0, none⟩)] w fun e w' => e = .returned (.bool (samePulse p0 p1 tl q0 q1)) ∧ Below w.heap.size w w' := by
  have B1 := Aside0.mk b1
  have B2 := Aside0.mk b2
  have HB := Aside0.mk (Below.refl w.heap.size w)
  clear b1 b2
  have heq := fun (d : Nat) (W : World) => eqP d W q0 p0 q1 p1
  cases h0 : (q0 == p0) with
  | true =>
    cases h1 : (q1 == p1) with
    | true =>
      have hv : Aside0 (samePulse p0 p1 tl q0 q1 = true) := ⟨by unfold samePulse; rw [h0, h1]; rfl⟩
      rw [h0, h1] at heq
      clear h0 h1
      go_enter Tryd.func57, Tryd.ntmps57
      go_wp2_with (((with_reducible refine gate_dst (N := 3) rfl ?_); refine box_event ?hg (N := 3) ?hd (cs := #[.int .i64 q0, .int .i64 q1]) (t := 61) ?hr ?_; (case hd => rfl); (case hg => rfl); (case hr => first | (go_simp; done) | (go_simp; rfl)); intro g3 hg wn hbox hb; have n0_ := Aside0.mk (below_step HB.out hb); clear HB; have HB := n0_; clear n0_; have k0 := blk_cell hbox 0; have k1 := blk_cell hbox 1; have c30 : wn.cell? ⟨g3, 0, none⟩ = some (.int .i64 q0) := k0.trans rfl; have c31 : wn.cell? ⟨g3, 1, none⟩ = some (.int .i64 q1) := k1.trans rfl; have c10 : wn.cell? ⟨g1, 0, none⟩ = some (.int .i64 p0) := (blk_cell (blk_below B1.out hb) 0).trans rfl; have c11 : wn.cell? ⟨g1, 1, none⟩ = some (.int .i64 p1) := (blk_cell (blk_below B1.out hb) 1).trans rfl; have c20 : wn.cell? ⟨g2, 0, none⟩ = some (.bool tl) := (blk_cell (blk_below B2.out hb) 0).trans rfl; clear k0 k1 hb hg hbox))
      go_ret
      rw [hv.out]
      exact ⟨rfl, HB.out⟩
    | false =>
      cases tl with
      | true =>
        have hv : Aside0 (samePulse p0 p1 true q0 q1 = true) := ⟨by unfold samePulse; rw [h0, h1]; rfl⟩
        rw [h0, h1, Bool.and_false] at heq
        have hq : (q0 = p0) = True := eq_true (beq_iff_eq.1 h0)
        have hq2 : (q0 == p0) = true := h0
        clear h0 h1
        go_enter Tryd.func57, Tryd.ntmps57
        go_wp2_with (((with_reducible refine gate_dst (N := 3) rfl ?_); refine box_event ?hg (N := 3) ?hd (cs := #[.int .i64 q0, .int .i64 q1]) (t := 61) ?hr ?_; (case hd => rfl); (case hg => rfl); (case hr => first | (go_simp; done) | (go_simp; rfl)); intro g3 hg wn hbox hb; have n0_ := Aside0.mk (below_step HB.out hb); clear HB; have HB := n0_; clear n0_; have k0 := blk_cell hbox 0; have k1 := blk_cell hbox 1; have c30 : wn.cell? ⟨g3, 0, none⟩ = some (.int .i64 q0) := k0.trans rfl; have c31 : wn.cell? ⟨g3, 1, none⟩ = some (.int .i64 q1) := k1.trans rfl; have c10 : wn.cell? ⟨g1, 0, none⟩ = some (.int .i64 p0) := (blk_cell (blk_below B1.out hb) 0).trans rfl; have c11 : wn.cell? ⟨g1, 1, none⟩ = some (.int .i64 p1) := (blk_cell (blk_below B1.out hb) 1).trans rfl; have c20 : wn.cell? ⟨g2, 0, none⟩ = some (.bool true) := (blk_cell (blk_below B2.out hb) 0).trans rfl; clear k0 k1 hb hg hbox))
        go_ret
        rw [hv.out]
        exact ⟨by first | rfl | simp [hq], HB.out⟩
      | false =>
        have hv : Aside0 (samePulse p0 p1 false q0 q1 = false) := ⟨by unfold samePulse; rw [h0, h1]; rfl⟩
        rw [h0, h1, Bool.and_false] at heq
        clear h0 h1
        go_enter Tryd.func57, Tryd.ntmps57
        go_wp2_with (((with_reducible refine gate_dst (N := 3) rfl ?_); refine box_event ?hg (N := 3) ?hd (cs := #[.int .i64 q0, .int .i64 q1]) (t := 61) ?hr ?_; (case hd => rfl); (case hg => rfl); (case hr => first | (go_simp; done) | (go_simp; rfl)); intro g3 hg wn hbox hb; have n0_ := Aside0.mk (below_step HB.out hb); clear HB; have HB := n0_; clear n0_; have k0 := blk_cell hbox 0; have k1 := blk_cell hbox 1; have c30 : wn.cell? ⟨g3, 0, none⟩ = some (.int .i64 q0) := k0.trans rfl; have c31 : wn.cell? ⟨g3, 1, none⟩ = some (.int .i64 q1) := k1.trans rfl; have c10 : wn.cell? ⟨g1, 0, none⟩ = some (.int .i64 p0) := (blk_cell (blk_below B1.out hb) 0).trans rfl; have c11 : wn.cell? ⟨g1, 1, none⟩ = some (.int .i64 p1) := (blk_cell (blk_below B1.out hb) 1).trans rfl; have c20 : wn.cell? ⟨g2, 0, none⟩ = some (.bool false) := (blk_cell (blk_below B2.out hb) 0).trans rfl; clear k0 k1 hb hg hbox))
        go_ret
        rw [hv.out]
        exact ⟨rfl, HB.out⟩
  | false =>
    have hv : Aside0 (samePulse p0 p1 tl q0 q1 = false) := ⟨by unfold samePulse; rw [h0]; simp⟩
    rw [h0, Bool.false_and] at heq
    cases tl with
    | true =>
      have hq : (q0 = p0) = False := eq_false (beq_eq_false_iff_ne.1 h0)
      have hq2 : (q0 == p0) = false := h0
      go_enter Tryd.func57, Tryd.ntmps57
      go_wp2_with (((with_reducible refine gate_dst (N := 3) rfl ?_); refine box_event ?hg (N := 3) ?hd (cs := #[.int .i64 q0, .int .i64 q1]) (t := 61) ?hr ?_; (case hd => rfl); (case hg => rfl); (case hr => first | (go_simp; done) | (go_simp; rfl)); intro g3 hg wn hbox hb; have n0_ := Aside0.mk (below_step HB.out hb); clear HB; have HB := n0_; clear n0_; have k0 := blk_cell hbox 0; have k1 := blk_cell hbox 1; have c30 : wn.cell? ⟨g3, 0, none⟩ = some (.int .i64 q0) := k0.trans rfl; have c31 : wn.cell? ⟨g3, 1, none⟩ = some (.int .i64 q1) := k1.trans rfl; have c10 : wn.cell? ⟨g1, 0, none⟩ = some (.int .i64 p0) := (blk_cell (blk_below B1.out hb) 0).trans rfl; have c11 : wn.cell? ⟨g1, 1, none⟩ = some (.int .i64 p1) := (blk_cell (blk_below B1.out hb) 1).trans rfl; have c20 : wn.cell? ⟨g2, 0, none⟩ = some (.bool true) := (blk_cell (blk_below B2.out hb) 0).trans rfl; clear k0 k1 hb hg hbox))
      go_ret
      rw [hv.out]
      exact ⟨by first | rfl | simp [hq], HB.out⟩
    | false =>
      clear h0
      go_enter Tryd.func57, Tryd.ntmps57
      go_wp2_with (((with_reducible refine gate_dst (N := 3) rfl ?_); refine box_event ?hg (N := 3) ?hd (cs := #[.int .i64 q0, .int .i64 q1]) (t := 61) ?hr ?_; (case hd => rfl); (case hg => rfl); (case hr => first | (go_simp; done) | (go_simp; rfl)); intro g3 hg wn hbox hb; have n0_ := Aside0.mk (below_step HB.out hb); clear HB; have HB := n0_; clear n0_; have k0 := blk_cell hbox 0; have k1 := blk_cell hbox 1; have c30 : wn.cell? ⟨g3, 0, none⟩ = some (.int .i64 q0) := k0.trans rfl; have c31 : wn.cell? ⟨g3, 1, none⟩ = some (.int .i64 q1) := k1.trans rfl; have c10 : wn.cell? ⟨g1, 0, none⟩ = some (.int .i64 p0) := (blk_cell (blk_below B1.out hb) 0).trans rfl; have c11 : wn.cell? ⟨g1, 1, none⟩ = some (.int .i64 p1) := (blk_cell (blk_below B1.out hb) 1).trans rfl; have c20 : wn.cell? ⟨g2, 0, none⟩ = some (.bool false) := (blk_cell (blk_below B2.out hb) 0).trans rfl; clear k0 k1 hb hg hbox))
      go_ret
      rw [hv.out]
      exact ⟨rfl, HB.out⟩
set_option maxHeartbeats 4000000 in
set_option maxRecDepth 100000 in
theorem hasPul [C_impl_pulse_86] (k : Nat) (A : Option Addr) (c : Nat) (l : List S61) (r : Int) (cf : Nat) (cfn : Func) (caps : Array Value) (hcf : CloIs Tryd.prog cf cfn) (w : World)
    (hcl : ∀ x0 x1 r W, C_impl_pulse_86.f x0 x1 = some r → Below w.heap.size w W → Calls Tryd.prog cf (#[.agg #[.int .i64 x0, .int .i64 x1]] ++ caps) W fun e w' => e = .returned (.bool r) ∧ Below W.heap.size W w')
    (hr : Kd.C k61 w A l.length l) (hc : l.length ≤ c) (h : impl_pulse_86.f k l 0 = some r) :
    Calls Tryd.prog 56 #[.slice A l.length c, .func (.func cf) #[] caps] w fun e w' => e = .returned (.bool (decide (r ≥ 0))) ∧ Below w.heap.size w w' := by
  have H := Aside0.mk h
  have HR := Aside0.mk hr
  have HC := Aside0.mk hc
  have HF := Aside0.mk hcf
  have HL := Aside0.mk hcl
  clear h hr hc hcf hcl
  have HB := Aside0.mk (Below.refl w.heap.size w)
  go_enter Tryd.func56, Tryd.ntmps56
  go_wp2_with (first
    | (go_at_call 86; refine (impl_pulse_86.calls k A c l 0 r cf cfn caps HF.out _ HL.out HR.out HC.out H.out).mono ?_; rintro e wn ⟨rfl, hb⟩; have n0_ := Aside0.mk (below_step HB.out hb); clear HB hb; have HB := n0_; clear n0_))
  go_ret
  exact ⟨rfl, HB.out⟩
abbrev cleanC (p0 p1 : Int) (tl : Bool) : C_impl_pulse_86 := ⟨fun q0 q1 => some (samePulse p0 p1 tl q0 q1)⟩
theorem clean_cl (p0 p1 : Int) (tl : Bool) (g1 g2 : Nat) (W0 : World) (b1 : W0.heap[g1]? = some (.cells #[.int .i64 p0, .int .i64 p1] 61 (0, 0))) (b2 : W0.heap[g2]? = some (.cells #[.bool tl] 4 (0, 0))) :
    ∀ x0 x1 r W, (cleanC p0 p1 tl).f x0 x1 = some r → Below W0.heap.size W0 W → Calls Tryd.prog 57 (#[.agg #[.int .i64 x0, .int .i64 x1]] ++ #[.pointer (some ⟨g1, 0, none⟩), .pointer (some ⟨g2, 0, none⟩)]) W fun e w' => e = .returned (.bool r) ∧ Below W.heap.size W w' := by
  intro x0 x1 r W hx hW
  obtain rfl := Option.some.inj hx
  exact CleanClo x0 x1 p0 p1 tl g1 g2 W (blk_below b1 hW) (blk_below b2 hW)
theorem index_pul (p0 p1 : Int) (tl : Bool) (l : List S61) (hl : l.length ≤ 10000) : ∀ (d k i : Nat), i + d = l.length → d < k →
    ∃ v : Int, @impl_pulse_86.l0 (cleanC p0 p1 tl) k l l.length i = some v ∧ (v ≥ 0 ↔ ∃ q ∈ l.drop i, samePulse p0 p1 tl q.f0 q.f1 = true)
  | 0, k, i, hi, hk => by
    cases k with
    | zero => omega
    | succ k =>
      refine ⟨-1, by rw [@impl_pulse_86.l0.eq_2 (cleanC p0 p1 tl), if_neg (by omega)], ?_⟩
      rw [List.drop_eq_nil_of_le (by omega)]; simp
  | d + 1, k, i, hi, hk => by
    cases k with
    | zero => omega
    | succ k =>
      obtain ⟨v, hv, hm⟩ := index_pul p0 p1 tl l hl d k (i + 1) (by omega) (by omega)
      have hi2 : i < l.length := by omega
      have e : rd_T61 l (i : Int) = l[i] := by unfold rd_T61; simp [hi2]
      have hp : (cleanC p0 p1 tl).f l[i].f0 l[i].f1 = some (samePulse p0 p1 tl l[i].f0 l[i].f1) := rfl
      rw [@impl_pulse_86.l0.eq_2 (cleanC p0 p1 tl), if_pos (by omega), if_pos (by omega), if_pos (by omega), w64 (by omega) (by omega), e, hp, Option.bind_some]
      rw [Int.natCast_add, Int.natCast_one] at hv
      by_cases h : samePulse p0 p1 tl l[i].f0 l[i].f1 = true
      · rw [if_pos h]; exact ⟨i, rfl, by rw [List.drop_eq_getElem_cons hi2]; exact ⟨fun _ => ⟨_, List.mem_cons_self, h⟩, fun _ => by omega⟩⟩
      · rw [if_neg h]
        refine ⟨v, hv, ?_⟩
        rw [hm, List.drop_eq_getElem_cons hi2]
        constructor
        · rintro ⟨x, hx, h2⟩; exact ⟨x, List.mem_cons_of_mem _ hx, h2⟩
        · rintro ⟨x, hx, h2⟩
          rcases List.mem_cons.1 hx with rfl | hx
          · exact absurd h2 h
          · exact ⟨x, hx, h2⟩
/-- Whether a pulse is one of the clocks'. -/
def oneOf (n : Int) (both : List S61) (p : S61) : Bool := both.any fun q => samePulse p.f0 p.f1 (p.f0 + p.f1 == n) q.f0 q.f1
theorem oneOf_index (n : Int) (both : List S61) (p : S61) (hl : both.length ≤ 10000) : ∃ v : Int, @impl_pulse_86.f (cleanC p.f0 p.f1 (p.f0 + p.f1 == n)) 20000 both 0 = some v ∧ decide (v ≥ 0) = oneOf n both p := by
  obtain ⟨v, hv, hiff⟩ := index_pul p.f0 p.f1 (p.f0 + p.f1 == n) both hl both.length 20000 0 (by omega) (by omega)
  refine ⟨v, hv, ?_⟩
  unfold oneOf
  rw [Bool.eq_iff_iff, decide_eq_true_eq, hiff, List.any_eq_true, List.drop_zero]
theorem areW_three {s z y : ByteArray} (h : impl_areWaves.f [s, z, y] = some true) : s.size ≤ 400 ∧ Lev s ∧ z.size = s.size ∧ Lev z ∧ y.size = s.size ∧ Lev y := by
  unfold impl_areWaves.f at h
  split at h
  · have h := Option.some.inj h
    unfold areW badW at h
    simp only [List.headD_cons, List.any_cons, List.any_nil, Bool.or_false, Bool.not_eq_true', Bool.or_eq_false_iff, Bool.not_eq_false', decide_eq_true_eq] at h
    exact ⟨((isW_iff s).1 h.1.1).1, ((isW_iff s).1 h.1.1).2, of_decide_eq_true h.2.1.2, ((isW_iff z).1 h.2.1.1).2, of_decide_eq_true h.2.2.2, ((isW_iff y).1 h.2.2.1).2⟩
  · cases h
set_option maxHeartbeats 4000000 in
set_option maxRecDepth 100000 in
theorem Clean_no (o a b : ByteArray) (w : World) (h1 : impl_areWaves.f [o, a, b] = some false) :
    Calls Tryd.prog 14 #[.string o, .string a, .string b] w fun e w' => e = .returned (.bool false) ∧ Below w.heap.size w w' := by
  have Hh1 := Aside0.mk h1
  clear h1
  have HB := Aside0.mk (Below.refl w.heap.size w)
  obtain ⟨ls, hls⟩ : ∃ ls : List ByteArray, ls = [o, a, b] := ⟨_, rfl⟩
  have NL := Aside0.mk hls
  clear hls
  go_enter Tryd.func14, Tryd.ntmps14
  go_wp2_with (first
    | ((with_reducible refine gate_dst (N := 14) rfl ?_); refine Kd.R_lit Kd.string _ 9 ?hg (N := 14) ?hd (xs := ([o, a, b] : List ByteArray)) (inner := [.string o, .string a, .string b]) (ok := fun _ => True) (okp := fun _ => True) ?hr ?hp (fun _ hk => hk) trivial (Below.refl _ _) (Nat.le_refl _) (by simp) ?_; (case hd => rfl); (case hg => rfl); (case hr => first | (go_simp; done) | (go_simp; rfl)); (case hp => exact (Reps.one rfl (Reps.one rfl (Reps.one rfl (Reps.none _ _))))); intro vl wn hol hb hg_ hnew_; clear hg_ hnew_; rw [← NL.out] at hol; obtain ⟨Al, cl, el⟩ := Kd.R_slice hol; subst el; have HL := Aside0.mk hol; clear hol; have n0_ := Aside0.mk (below_step HB.out hb); clear HB hb; have HB := n0_; clear n0_)
    | (go_at_call 47; (with_reducible refine (impl_areWaves.calls Al cl ls false _ (Kd.R_reads' HL.out).2.2 (Kd.R_reads' HL.out).2.1 (by rw [NL.out]; exact Hh1.out)).mono ?_); rintro e wn ⟨rfl, hb⟩; clear HL; have n0_ := Aside0.mk (below_step HB.out hb); clear HB hb; have HB := n0_; clear n0_))
  go_ret
  exact ⟨rfl, HB.out⟩
set_option maxHeartbeats 8000000 in
set_option maxRecDepth 100000 in
theorem Clean_yes (o a b : ByteArray) (po pa pb : List S61) (k : Nat) (w : World) (h1 : impl_areWaves.f [o, a, b] = some true) (h2 : impl_pulses.f k o = some po) (h3 : impl_pulses.f k a = some pa) (h4 : impl_pulses.f k b = some pb) (l1 : po.length ≤ 400) (l2 : pa.length ≤ 400) (l3 : pb.length ≤ 400)
    (hin : ∀ p ∈ po, ∃ x n : Nat, p = ⟨(x : Int), (n : Int)⟩ ∧ x + n ≤ o.size) :
    Calls Tryd.prog 14 #[.string o, .string a, .string b] w fun e w' => e = .returned (.bool (po.all (oneOf o.size (pa ++ pb)))) ∧ Below w.heap.size w w' := by
  obtain ⟨hs, _⟩ := areW_three h1
  have Hh1 := Aside0.mk h1
  have H2 := Aside0.mk h2
  have H3 := Aside0.mk h3
  have H4 := Aside0.mk h4
  have HIN := Aside0.mk hin
  clear h1 h2 h3 h4 hin
  have HB := Aside0.mk (Below.refl w.heap.size w)
  obtain ⟨ls, hls⟩ : ∃ ls : List ByteArray, ls = [o, a, b] := ⟨_, rfl⟩
  have NL := Aside0.mk hls
  clear hls
  obtain ⟨both, hbo⟩ : ∃ both, both = pa ++ pb := ⟨_, rfl⟩
  have hbl : both.length ≤ 10000 := by rw [hbo, List.length_append]; omega
  have NB := Aside0.mk hbo
  rw [← hbo]
  clear hbo
  go_enter Tryd.func14, Tryd.ntmps14
  go_wp2_with (first
    | ((with_reducible refine gate_dst (N := 14) rfl ?_); refine Kd.R_lit Kd.string _ 9 ?hg (N := 14) ?hd (xs := ([o, a, b] : List ByteArray)) (inner := [.string o, .string a, .string b]) (ok := fun _ => True) (okp := fun _ => True) ?hr ?hp (fun _ hk => hk) trivial (Below.refl _ _) (Nat.le_refl _) (by simp) ?_; (case hd => rfl); (case hg => rfl); (case hr => first | (go_simp; done) | (go_simp; rfl)); (case hp => exact (Reps.one rfl (Reps.one rfl (Reps.one rfl (Reps.none _ _))))); intro vl wn hol hb hg_ hnew_; clear hg_ hnew_; rw [← NL.out] at hol; obtain ⟨Al, cl, el⟩ := Kd.R_slice hol; subst el; have HL := Aside0.mk hol; clear hol; have n0_ := Aside0.mk (below_step HB.out hb); clear HB hb; have HB := n0_; clear n0_)
    | (go_at_call 47; (with_reducible refine (impl_areWaves.calls Al cl ls true _ (Kd.R_reads' HL.out).2.2 (Kd.R_reads' HL.out).2.1 (by rw [NL.out]; exact Hh1.out)).mono ?_); rintro e wn ⟨rfl, hb⟩; clear HL; have n0_ := Aside0.mk (below_step HB.out hb); clear HB hb; have HB := n0_; clear n0_)
    | (go_at_call 55; (with_reducible refine (impl_pulses.calls k a pa _ H3.out).mono ?_); rintro e w3 ⟨v3, rfl, ho, hb⟩; obtain ⟨A3, c3, e3⟩ := Kd.R_slice ho; subst e3; have R3 := Aside0.mk (Kd.R_reads' ho).2.2; have n0_ := Aside0.mk (below_step HB.out hb); clear HB hb ho; have HB := n0_; clear n0_)
    | (go_at_call 55; (with_reducible refine (impl_pulses.calls k b pb _ H4.out).mono ?_); rintro e w4 ⟨v4, rfl, ho, hb⟩; obtain ⟨A4, c4, e4⟩ := Kd.R_slice ho; subst e4; have R4 := Aside0.mk (Kd.R_reads' ho).2.2; have n1_ := Aside0.mk (Kd.C_below R3.out hb); have n0_ := Aside0.mk (below_step HB.out hb); clear HB R3 hb ho; have HB := n0_; have R3 := n1_; clear n0_ n1_)
    | (go_at_call 54; (with_reducible refine (slices_Concat_pulse_pair ⟨w4.heap.size, 0, none⟩ 2 c3 c4 A3 A4 pa pb (by omega) (by omega) _ ?k0 ?k1 ?r1 ?r2).mono ?_); (case k0 => exact (blk_cell (blk_new w4 _) 0).trans rfl); (case k1 => rw [add_plain]; exact (blk_cell (blk_new w4 _) 1).trans rfl); (case r1 => exact Kd.C_alloc R3.out _); (case r2 => exact Kd.C_alloc R4.out _); rintro e w5 ⟨v5, rfl, ho, hb⟩; rw [← NB.out] at ho; obtain ⟨A5, c5, e5⟩ := Kd.R_slice ho; subst e5; have R5 := Aside0.mk (Kd.R_reads' ho).2.2; have C5 := Aside0.mk (Kd.R_reads' ho).2.1; have n0_ := Aside0.mk (below_step (below_alloc HB.out _) hb); clear HB R3 R4 hb ho; have HB := n0_; clear n0_)
    | (go_at_call 55; (with_reducible refine (impl_pulses.calls k o po _ H2.out).mono ?_); rintro e w6 ⟨v6, rfl, ho, hb⟩; obtain ⟨A6, c6, e6⟩ := Kd.R_slice ho; subst e6; have R6 := Aside0.mk (Kd.R_reads' ho).2.2; have n1_ := Aside0.mk (Kd.C_below R5.out hb); have n0_ := Aside0.mk (below_step HB.out hb); clear HB R5 hb ho; have HB := n0_; have R5 := n1_; clear n0_ n1_))
  clear H2 H3 H4 Hh1 NL NB
  go_loopg [26] po.length (fun kq v26 wr => ∃ i : Nat, v26 = .int .i64 (i : Int) ∧ Aside0 (i + kq = po.length) ∧ Aside0 (po.all (oneOf o.size both) = (po.drop i).all (oneOf o.size both)) ∧ Aside0 (Kd.C k61 wr A6 po.length po) ∧ Aside0 (Kd.C k61 wr A5 both.length both) ∧ Aside0 (Below w.heap.size w wr))
  case atStart => exact ⟨0, rfl, ⟨by omega⟩, ⟨by rw [List.drop_zero]⟩, R6, R5, HB⟩
  case round =>
    clear R6 R5 HB
    obtain ⟨i, rfl, HE, HA, R6, R5, HB⟩ := hrel
    by_cases hlt : i < po.length
    · cases gk with
      | zero => have := HE.out; omega
      | succ g1 =>
      obtain ⟨x, n, hp, hxn⟩ := HIN.out po[i] (List.getElem_mem hlt)
      obtain ⟨ad, he, hx0, hx1⟩ := at_T61 R6.out (i : Int) (by omega) (by omega)
      have hrd : rd_T61 po (i : Int) = ⟨(x : Int), (n : Int)⟩ := by
        unfold rd_T61
        rw [Int.toNat_natCast, List.getD_eq_getElem?_getD, List.getElem?_eq_getElem hlt, Option.getD_some, hp]
      rw [hrd, Int.toNat_natCast] at hx0 hx1
      subst he
      have HD : Aside0 ((po.drop i).all (oneOf o.size both) = (oneOf o.size both ⟨(x : Int), (n : Int)⟩ && (po.drop (i + 1)).all (oneOf o.size both))) := ⟨by rw [List.drop_eq_getElem_cons hlt, List.all_cons, hp]⟩
      obtain ⟨r, hr, hrv⟩ := oneOf_index o.size both ⟨(x : Int), (n : Int)⟩ hbl
      obtain ⟨tl, htl⟩ : ∃ tl : Bool, tl = ((x : Int) + (n : Int) == (o.size : Int)) := ⟨_, rfl⟩
      have hr' : @impl_pulse_86.f (cleanC (x : Int) (n : Int) tl) 20000 both 0 = some r := by rw [htl]; exact hr
      have HR := Aside0.mk hr'
      have HRV := Aside0.mk hrv
      have HTL := Aside0.mk htl
      have s1 : IntKind.i64.wrap ((x : Int) + (n : Int)) = (x : Int) + (n : Int) := IntWalk.i64_in _ ⟨by omega, by omega⟩
      clear hp hrd hr hr' hrv htl
      have ht2 : ((x : Int) + (n : Int) == (o.size : Int)) = tl := HTL.out.symm
      cases hov : oneOf o.size both ⟨(x : Int), (n : Int)⟩ with
      | false =>
        rw [hov] at HRV HD
        clear hov
        go_wp2_with (first
          | ((with_reducible refine gate_dst (N := 9) rfl ?_); refine box_event ?hg (N := 9) ?hd (cs := #[.int .i64 0, .int .i64 0]) (t := 61) ?hr ?_; (case hd => rfl); (case hg => rfl); (case hr => first | (go_simp; done) | (go_simp; rfl)); intro g9 hg wn hbox hb; have BK9 := Aside0.mk hbox; have GE9 := Aside0.mk (by rw [hg]; exact below_size HB.out : w.heap.size ≤ g9); have n0_ := Aside0.mk (below_step HB.out hb); have n1_ := Aside0.mk (Kd.C_below R6.out hb); have n2_ := Aside0.mk (Kd.C_below R5.out hb); have LT9 := Aside0.mk (blk_lt hbox); have GW9 := Aside0.mk (show wr.heap.size ≤ g9 by omega); have KB9 := Aside0.mk hb; clear HB hb hbox hg; have HB := n0_; clear n0_ n1_ n2_; have z0 : wn.cell? ⟨g9, 0, none⟩ = some (.int .i64 0) := (blk_cell BK9.out 0).trans rfl; have z1 : wn.cell? ⟨g9, 1, none⟩ = some (.int .i64 0) := (blk_cell BK9.out 1).trans rfl; have f0 := blk_frozen BK9.out 0; have f1 := blk_frozen BK9.out 1)
          | ((with_reducible refine gate_dst (N := 10) rfl ?_); have q9 := Aside0.mk (blk_put (blk_put BK9.out 0 (.int .i64 (x : Int)) (cs' := #[.int .i64 (x : Int), .int .i64 0]) rfl) 1 (.int .i64 (n : Int)) (cs' := #[.int .i64 (x : Int), .int .i64 (n : Int)]) rfl); have qB := Aside0.mk (below_set (j := 1) (v := .int .i64 (n : Int)) (below_set (j := 0) (v := .int .i64 (x : Int)) HB.out GE9.out) GE9.out); have qK := Aside0.mk (below_set (j := 1) (v := .int .i64 (n : Int)) (below_set (j := 0) (v := .int .i64 (x : Int)) KB9.out GW9.out) GW9.out); refine box_event ?hg (N := 10) ?hd (cs := #[.bool false]) (t := 4) ?hr ?_; (case hd => rfl); (case hg => rfl); (case hr => first | (go_simp; done) | (go_simp; rfl)); intro g10 hg wm hbox hb; have BK10 := Aside0.mk hbox; have GE10 := Aside0.mk (by rw [hg]; exact below_size qB.out : w.heap.size ≤ g10); have GW10 := Aside0.mk (by rw [hg]; exact below_size qK.out : wr.heap.size ≤ g10); have NE := Aside0.mk (show g9 ≠ g10 by have := blk_lt q9.out; omega); have m9 := Aside0.mk (blk_below q9.out hb); have mB := Aside0.mk (below_step qB.out hb); have mK := Aside0.mk (below_step qK.out hb); clear HB KB9 q9 qB qK hb hbox hg z0 z1 f0 f1; have z2 : wm.cell? ⟨g10, 0, none⟩ = some (.bool false) := (blk_cell BK10.out 0).trans rfl; have f2 := blk_frozen BK10.out 0)
          | (go_at_call 56; have n9 := blk_far m9.out (p := ⟨g10, 0, none⟩) NE.out (.bool tl); have n10 := blk_put BK10.out 0 (.bool tl) (cs' := #[.bool tl]) rfl; have nB := below_set (j := 0) (v := .bool tl) mB.out GE10.out; have nK := below_set (j := 0) (v := .bool tl) mK.out GW10.out; refine (@hasPul (cleanC (x : Int) (n : Int) tl) 20000 A5 c5 both r 57 Tryd.f57 #[.pointer (some ⟨g9, 0, none⟩), .pointer (some ⟨g10, 0, none⟩)] ⟨Tryd.func57, rfl, by kernel_rfl⟩ _ (clean_cl (x : Int) (n : Int) tl g9 g10 _ n9 n10) (Kd.C_below R5.out nK) C5.out HR.out).mono ?_; rintro e wz ⟨rfl, hb⟩; have zB := Aside0.mk (below_step nB hb); have zK := Aside0.mk (below_step nK hb); rw [HRV.out]; clear m9 BK10 mB mK n9 n10 nB nK hb z2 f2))
        go_ret
        exact ⟨by rw [HA.out, HD.out]; rfl, zB.out⟩
      | true =>
        rw [hov] at HRV HD
        clear hov
        go_wp2_with (first
          | ((with_reducible refine gate_dst (N := 9) rfl ?_); refine box_event ?hg (N := 9) ?hd (cs := #[.int .i64 0, .int .i64 0]) (t := 61) ?hr ?_; (case hd => rfl); (case hg => rfl); (case hr => first | (go_simp; done) | (go_simp; rfl)); intro g9 hg wn hbox hb; have BK9 := Aside0.mk hbox; have GE9 := Aside0.mk (by rw [hg]; exact below_size HB.out : w.heap.size ≤ g9); have n0_ := Aside0.mk (below_step HB.out hb); have n1_ := Aside0.mk (Kd.C_below R6.out hb); have n2_ := Aside0.mk (Kd.C_below R5.out hb); have LT9 := Aside0.mk (blk_lt hbox); have GW9 := Aside0.mk (show wr.heap.size ≤ g9 by omega); have KB9 := Aside0.mk hb; clear HB hb hbox hg; have HB := n0_; clear n0_ n1_ n2_; have z0 : wn.cell? ⟨g9, 0, none⟩ = some (.int .i64 0) := (blk_cell BK9.out 0).trans rfl; have z1 : wn.cell? ⟨g9, 1, none⟩ = some (.int .i64 0) := (blk_cell BK9.out 1).trans rfl; have f0 := blk_frozen BK9.out 0; have f1 := blk_frozen BK9.out 1)
          | ((with_reducible refine gate_dst (N := 10) rfl ?_); have q9 := Aside0.mk (blk_put (blk_put BK9.out 0 (.int .i64 (x : Int)) (cs' := #[.int .i64 (x : Int), .int .i64 0]) rfl) 1 (.int .i64 (n : Int)) (cs' := #[.int .i64 (x : Int), .int .i64 (n : Int)]) rfl); have qB := Aside0.mk (below_set (j := 1) (v := .int .i64 (n : Int)) (below_set (j := 0) (v := .int .i64 (x : Int)) HB.out GE9.out) GE9.out); have qK := Aside0.mk (below_set (j := 1) (v := .int .i64 (n : Int)) (below_set (j := 0) (v := .int .i64 (x : Int)) KB9.out GW9.out) GW9.out); refine box_event ?hg (N := 10) ?hd (cs := #[.bool false]) (t := 4) ?hr ?_; (case hd => rfl); (case hg => rfl); (case hr => first | (go_simp; done) | (go_simp; rfl)); intro g10 hg wm hbox hb; have BK10 := Aside0.mk hbox; have GE10 := Aside0.mk (by rw [hg]; exact below_size qB.out : w.heap.size ≤ g10); have GW10 := Aside0.mk (by rw [hg]; exact below_size qK.out : wr.heap.size ≤ g10); have NE := Aside0.mk (show g9 ≠ g10 by have := blk_lt q9.out; omega); have m9 := Aside0.mk (blk_below q9.out hb); have mB := Aside0.mk (below_step qB.out hb); have mK := Aside0.mk (below_step qK.out hb); clear HB KB9 q9 qB qK hb hbox hg z0 z1 f0 f1; have z2 : wm.cell? ⟨g10, 0, none⟩ = some (.bool false) := (blk_cell BK10.out 0).trans rfl; have f2 := blk_frozen BK10.out 0)
          | (go_at_call 56; have n9 := blk_far m9.out (p := ⟨g10, 0, none⟩) NE.out (.bool tl); have n10 := blk_put BK10.out 0 (.bool tl) (cs' := #[.bool tl]) rfl; have nB := below_set (j := 0) (v := .bool tl) mB.out GE10.out; have nK := below_set (j := 0) (v := .bool tl) mK.out GW10.out; refine (@hasPul (cleanC (x : Int) (n : Int) tl) 20000 A5 c5 both r 57 Tryd.f57 #[.pointer (some ⟨g9, 0, none⟩), .pointer (some ⟨g10, 0, none⟩)] ⟨Tryd.func57, rfl, by kernel_rfl⟩ _ (clean_cl (x : Int) (n : Int) tl g9 g10 _ n9 n10) (Kd.C_below R5.out nK) C5.out HR.out).mono ?_; rintro e wz ⟨rfl, hb⟩; have zB := Aside0.mk (below_step nB hb); have zK := Aside0.mk (below_step nK hb); rw [HRV.out]; clear m9 BK10 mB mK n9 n10 nB nK hb z2 f2))
        go_roundg g1
        case measure => omega
        case rel => exact ⟨i + 1, by go_num, ⟨by have := HE.out; omega⟩, ⟨by rw [HA.out, HD.out, Bool.true_and]⟩, ⟨Kd.C_below R6.out zK.out⟩, ⟨Kd.C_below R5.out zK.out⟩, zB⟩
    · have e : i = po.length := by have := HE.out; omega
      subst e
      go_wp2
      go_ret
      exact ⟨by rw [HA.out, List.drop_eq_nil_of_le (Nat.le_refl _)]; rfl, HB.out⟩
def cleanB (o a b : ByteArray) : Bool := (pz (edg o 49 o.size) (dns o)).all (oneOf o.size (pz (edg a 49 a.size) (dns a) ++ pz (edg b 49 b.size) (dns b)))
def impl_IsClean.f (a0 a1 a2 : ByteArray) : Option Bool := (impl_areWaves.f [a0, a1, a2]).bind fun t => if t = true then some (cleanB a0 a1 a2) else some false
theorem pz_in2 (s : ByteArray) : ∀ us ds : List Int, Runs s us ds → ∀ p ∈ pz us ds, ∃ a n : Nat, p = ⟨(a : Int), (n : Int)⟩ ∧ a + n ≤ s.size
  | [], [], _, p, hp => by simp [pz] at hp
  | u :: us, d :: ds, h, p, hp => by
    rw [show pz (u :: us) (d :: ds) = ⟨u, d - u⟩ :: pz us ds from rfl, List.mem_cons] at hp
    rcases hp with rfl | hp
    · obtain ⟨a, b, rfl, rfl, h1, h2, _⟩ := h.1
      exact ⟨a, b - a, by congr 1; omega, by omega⟩
    · exact pz_in2 s us ds h.2 p hp
  | [], _ :: _, h, _, _ => h.elim
  | _ :: _, [], h, _, _ => h.elim
theorem pz_len2 (s : ByteArray) (hs : s.size ≤ 400) : (pz (edg s 49 s.size) (dns s)).length ≤ 400 := by
  unfold pz
  rw [List.length_zipWith]
  exact Nat.le_trans (Nat.min_le_left _ _) (Nat.le_trans (edg_len _ _ _) hs)
theorem impl_IsClean.calls (a0 a1 a2 : ByteArray) (r : Bool) (w : World) (h : impl_IsClean.f a0 a1 a2 = some r) :
    Calls Tryd.prog 14 #[.string a0, .string a1, .string a2] w fun e w' => e = .returned (.bool r) ∧ Below w.heap.size w w' := by
  unfold impl_IsClean.f at h
  obtain ⟨t, ht, h⟩ := Option.bind_eq_some_iff.mp h
  cases t with
  | false =>
    rw [if_neg (by simp)] at h
    obtain rfl := Option.some.inj h
    exact Clean_no a0 a1 a2 w ht
  | true =>
    rw [if_pos rfl] at h
    obtain rfl := Option.some.inj h
    obtain ⟨h1, h2, h3, h4, h5, h6⟩ := areW_three ht
    exact Clean_yes a0 a1 a2 _ _ _ 300001 w ht (pulses_eq 300001 a0 h1 h2 (by omega)) (pulses_eq 300001 a1 (by omega) h4 (by omega)) (pulses_eq 300001 a2 (by omega) h6 (by omega)) (pz_len2 a0 h1) (pz_len2 a1 (by omega)) (pz_len2 a2 (by omega)) (pz_in2 a0 _ _ (runs_all a0 h2))
end Go.Proofs.YthkpnbelbaljdaaDoor.X
-- Written by a program of this session out of the kit's print of the loaded functions: a plain function of a Go function, and its contract.
namespace Go.Proofs.YthkpnbelbaljdaaDoor.X
open Go.RowKit Go.Proofs.YthkpnbelbaljdaaDoorW.PrintWords Go.Proofs.YthkpnbelbaljdaaDoorW.PrintLast Go.Proofs.YthkpnbelbaljdaaDoorW.PrintMore
attribute [local go_sem] max2_int min2_int max_two min_two max_three min_three max_four min_four   -- for this text's walks alone
set_option linter.unusedVariables false
set_option linter.unusedSimpArgs false
/-! ### spec_l07Has: function 84 -/
def spec_l07Has.l0 : Nat → ByteArray → Int → Int → List Int → List Int → Int → Option (Bool)
  | 0, _, _, _, _, _, _ => none
  | k + 1, x0, x1, x2, x7, x8, x9 => if x9 < (x7.length : Int) then (if 0 ≤ x9 then (if (rd x7 x9) = x1 then (if x9 < (x8.length : Int) then (if (rd x8 x9) = x2 then (some true) else (if x2 = (x0.size : Int) then (some true) else (spec_l07Has.l0 k x0 x1 x2 x7 x8 (wrap64 (x9 + 1))))) else (none)) else (spec_l07Has.l0 k x0 x1 x2 x7 x8 (wrap64 (x9 + 1)))) else (none)) else (some false)
def spec_l07Has.f (k : Nat) (a0 : ByteArray) (a1 : Int) (a2 : Int) : Option (Bool) := (spec_l07Pulses.f k a0).bind fun bt160 => (spec_l07Has.l0 k a0 a1 a2 bt160.1 bt160.2 0)
theorem spec_l07Has.mono_l : ∀ k, (∀ y0 y1 y2 y3 y4 y5, LeO (spec_l07Has.l0 k y0 y1 y2 y3 y4 y5) (spec_l07Has.l0 (k + 1) y0 y1 y2 y3 y4 y5))
  | 0 => fun _ _ _ _ _ _ r h => by simp [spec_l07Has.l0] at h
  | k + 1 => by
    have ih0 := spec_l07Has.mono_l k
    · intro y0 y1 y2 y3 y4 y5
      unfold spec_l07Has.l0
      repeat' first
      | (with_reducible exact ih0 _ _ _ _ _ _)
      | (with_reducible exact spec_l07Pulses.mono _ _)
      | (with_reducible exact LeO.refl _)
      | (with_reducible exact LeO.none _)
      | (with_reducible refine LeO.ite ?_ ?_)
      | (with_reducible refine LeO.bind ?_ (fun _ => ?_))
      | exact ih0 _ _ _ _ _ _
      | exact spec_l07Pulses.mono _ _
      | exact LeO.none _
      | refine LeO.ite ?_ ?_
      | refine LeO.bind ?_ (fun _ => ?_)
theorem spec_l07Has.mono : ∀ a0 a1 a2 k, LeO (spec_l07Has.f k a0 a1 a2) (spec_l07Has.f (k + 1) a0 a1 a2) := by
  intro a0 a1 a2 k
  have ih0 := spec_l07Has.mono_l k
  unfold spec_l07Has.f
  repeat' first
      | (with_reducible exact ih0 _ _ _ _ _ _)
      | (with_reducible exact spec_l07Pulses.mono _ _)
      | (with_reducible exact LeO.refl _)
      | (with_reducible exact LeO.none _)
      | (with_reducible refine LeO.ite ?_ ?_)
      | (with_reducible refine LeO.bind ?_ (fun _ => ?_))
      | exact ih0 _ _ _ _ _ _
      | exact spec_l07Pulses.mono _ _
      | exact LeO.none _
      | refine LeO.ite ?_ ?_
      | refine LeO.bind ?_ (fun _ => ?_)
set_option maxHeartbeats 8000000 in
set_option maxRecDepth 100000 in
theorem spec_l07Has.calls (k : Nat) (a0 : ByteArray) (a1 : Int) (a2 : Int) (r : Bool) (w : World) (h : spec_l07Has.f k a0 a1 a2 = some r) :
    Calls Tryd.prog 84 #[.string a0, .int .i64 a1, .int .i64 a2] w fun e w' => e = .returned (.bool r) ∧ Below w.heap.size w w' := by
  have HB := Aside0.mk (Below.refl w.heap.size w)
  have H : ((spec_l07Pulses.f k a0).bind fun bt160 => (spec_l07Has.l0 k a0 a1 a2 bt160.1 bt160.2 0)) = some r := h
  clear h
  replace H := Option.bind_eq_some_iff.mp H
  obtain ⟨⟨t160, t161⟩, A40, H⟩ := H
  replace H : (spec_l07Has.l0 k a0 a1 a2 t160 t161 0) = some r := H
  have A4 := Aside0.mk A40
  clear A40
  have H' := Aside0.mk H
  clear H
  go_enter Tryd.func84, Tryd.ntmps84
  go_wp2_with (first | ((with_reducible refine gate_callee (f := 83) rfl ?_); refine goesL_ (some 12) rfl rfl Tryd.func83 (by kernel_rfl) rfl #[.string a0] rfl (by (try simp only [List.map_toArray, List.map_cons, List.map_nil]); first | done | rfl | (simp only [List.length_drop, List.length_take]; rfl)) ?_; (with_reducible refine (spec_l07Pulses.calls k a0 t160 t161 _ A4.out).mono ?_); rintro e w5 ⟨v162, v164, rfl, ho0, ho1, hb⟩; refine ⟨_, rfl, ?_⟩; have n0_ := Aside0.mk (Kd.R_lower ho0 (below_size (by repeat (first | (with_reducible first | exact HB.out | apply below_alloc | apply pw_below_drewN | apply below_drew1) | exact HB.out)))); have n1_ := Aside0.mk (Kd.R_lower ho1 (below_size (by repeat (first | (with_reducible first | exact HB.out | apply below_alloc | apply pw_below_drewN | apply below_drew1) | exact HB.out)))); have n2_ := Aside0.mk (below_step (by repeat (first | (with_reducible first | exact HB.out | apply below_alloc | apply pw_below_drewN | apply below_drew1) | exact HB.out)) hb); clear HB; have HO163 := n0_; have HO165 := n1_; have HB := n2_; clear n0_ n1_ n2_; (try clear hb); (try clear hb2); (try clear hk); (try clear hi); (try clear ho0); (try clear ho1)))
  go_loopg [9] k (fun kq v9 w' => ∃ (x9_1 : Int), v9 = .int .i64 x9_1 ∧ Aside0 (spec_l07Has.l0 kq a0 a1 a2 t160 t161 x9_1 = some r) ∧ Aside0 (kq ≤ k) ∧ Aside0 (Kd.R (Kd.int .i64) 2 w' w.heap.size (fun k_ => some k_ ≠ (v164 : Value).ownBlock) v162 t160) ∧ Aside0 (Kd.R (Kd.int .i64) 2 w' w.heap.size (fun k_ => some k_ ≠ (v162 : Value).ownBlock) v164 t161) ∧ Aside0 (Below w.heap.size w w'))
  case atStart => exact ⟨(0), (by first | rfl | (simp; done) | (simp [*]; done)), H', ⟨Nat.le_refl _⟩, ⟨by (with_reducible repeat (first | apply Kd.R_alloc | apply Kd.R_drewN | apply Kd.R_drew)); exact HO163.out⟩, ⟨by (with_reducible repeat (first | apply Kd.R_alloc | apply Kd.R_drewN | apply Kd.R_drew)); exact HO165.out⟩, ⟨by repeat (first | (with_reducible first | exact HB.out | apply below_alloc | apply pw_below_drewN | apply below_drew1) | exact HB.out)⟩⟩
  case round =>
    clear H'
    try clear p2
    obtain ⟨x9_1, rfl, HA, HK1, HO_7, HO_8, HB⟩ := hrel
    cases gk with
    | zero => exact absurd HA.out (by simp [spec_l07Has.l0])
    | succ k1 =>
      have H := HA.out
      clear HA
      simp only [spec_l07Has.l0] at H
      by_cases c6 : x9_1 < (t160.length : Int)
      · rw [if_pos c6] at H
        have c6b0 : decide (x9_1 < (t160.length : Int)) = true := decide_eq_true c6
        clear c6
        by_cases c7 : 0 ≤ x9_1
        · rw [if_pos c7] at H
          have c7b0 : decide (0 ≤ x9_1) = true := decide_eq_true c7
          clear c7
          by_cases c8 : (rd t160 x9_1) = a1
          · rw [if_pos c8] at H
            have c8b0 : ((rd t160 x9_1) == a1) = true := beq_iff_eq.mpr c8
            have c8b1 : ((rd t160 x9_1) != a1) = false := bne_eq_false_iff_eq.mpr c8
            clear c8
            by_cases c9 : x9_1 < (t161.length : Int)
            · rw [if_pos c9] at H
              have c9b0 : decide (x9_1 < (t161.length : Int)) = true := decide_eq_true c9
              clear c9
              by_cases c10 : (rd t161 x9_1) = a2
              · rw [if_pos c10] at H
                have c10b0 : ((rd t161 x9_1) == a2) = true := beq_iff_eq.mpr c10
                have c10b1 : ((rd t161 x9_1) != a2) = false := bne_eq_false_iff_eq.mpr c10
                clear c10
                obtain rfl := Option.some.inj H
                obtain ⟨Ao11, co11, eo11⟩ := Kd.R_slice HO_7.out
                subst eo11
                have p166 : 0 ≤ (x9_1 : Int) := of_decide_eq_true (by first | (with_reducible assumption) | assumption)
                have q166 : x9_1 < (t160.length : Int) := of_decide_eq_true (by first | (with_reducible assumption) | assumption)
                obtain ⟨ad166, e166, hx166_0⟩ := Kd.at_int (Kd.R_reads' HO_7.out).2.2 x9_1 p166 q166
                cases e166
                replace p166 := eq_true p166
                replace q166 := eq_true q166
                obtain ⟨Ao12, co12, eo12⟩ := Kd.R_slice HO_8.out
                subst eo12
                have p167 : 0 ≤ (x9_1 : Int) := of_decide_eq_true (by first | (with_reducible assumption) | assumption)
                have q167 : x9_1 < (t161.length : Int) := of_decide_eq_true (by first | (with_reducible assumption) | assumption)
                obtain ⟨ad167, e167, hx167_0⟩ := Kd.at_int (Kd.R_reads' HO_8.out).2.2 x9_1 p167 q167
                cases e167
                replace p167 := eq_true p167
                replace q167 := eq_true q167
                go_wp2
                go_ret
                exact ⟨by first | rfl | (simp [errW_none, errW_some] <;> rfl) | (simp [*, errW_none, errW_some] <;> rfl), by repeat (first | (with_reducible first | exact HB.out | apply below_alloc | apply pw_below_drewN | apply below_drew1) | exact HB.out)⟩
              · rw [if_neg c10] at H
                have c10b0 : ((rd t161 x9_1) == a2) = false := beq_eq_false_iff_ne.mpr c10
                have c10b1 : ((rd t161 x9_1) != a2) = true := bne_iff_ne.mpr c10
                by_cases c13 : a2 = (a0.size : Int)
                · rw [if_pos c13] at H
                  have c13b0 : (a2 == (a0.size : Int)) = true := beq_iff_eq.mpr c13
                  have c13b1 : (a2 != (a0.size : Int)) = false := bne_eq_false_iff_eq.mpr c13
                  clear c13
                  obtain rfl := Option.some.inj H
                  obtain ⟨Ao14, co14, eo14⟩ := Kd.R_slice HO_7.out
                  subst eo14
                  have p166 : 0 ≤ (x9_1 : Int) := of_decide_eq_true (by first | (with_reducible assumption) | assumption)
                  have q166 : x9_1 < (t160.length : Int) := of_decide_eq_true (by first | (with_reducible assumption) | assumption)
                  obtain ⟨ad166, e166, hx166_0⟩ := Kd.at_int (Kd.R_reads' HO_7.out).2.2 x9_1 p166 q166
                  cases e166
                  replace p166 := eq_true p166
                  replace q166 := eq_true q166
                  obtain ⟨Ao15, co15, eo15⟩ := Kd.R_slice HO_8.out
                  subst eo15
                  have p167 : 0 ≤ (x9_1 : Int) := of_decide_eq_true (by first | (with_reducible assumption) | assumption)
                  have q167 : x9_1 < (t161.length : Int) := of_decide_eq_true (by first | (with_reducible assumption) | assumption)
                  obtain ⟨ad167, e167, hx167_0⟩ := Kd.at_int (Kd.R_reads' HO_8.out).2.2 x9_1 p167 q167
                  cases e167
                  replace p167 := eq_true p167
                  replace q167 := eq_true q167
                  go_wp2
                  go_ret
                  exact ⟨by first | rfl | (simp [errW_none, errW_some] <;> rfl) | (simp [*, errW_none, errW_some] <;> rfl), by repeat (first | (with_reducible first | exact HB.out | apply below_alloc | apply pw_below_drewN | apply below_drew1) | exact HB.out)⟩
                · rw [if_neg c13] at H
                  have c13b0 : (a2 == (a0.size : Int)) = false := beq_eq_false_iff_ne.mpr c13
                  have c13b1 : (a2 != (a0.size : Int)) = true := bne_iff_ne.mpr c13
                  have H' := Aside0.mk H
                  clear H
                  obtain ⟨Ao16, co16, eo16⟩ := Kd.R_slice HO_7.out
                  subst eo16
                  have p166 : 0 ≤ (x9_1 : Int) := of_decide_eq_true (by first | (with_reducible assumption) | assumption)
                  have q166 : x9_1 < (t160.length : Int) := of_decide_eq_true (by first | (with_reducible assumption) | assumption)
                  obtain ⟨ad166, e166, hx166_0⟩ := Kd.at_int (Kd.R_reads' HO_7.out).2.2 x9_1 p166 q166
                  cases e166
                  replace p166 := eq_true p166
                  replace q166 := eq_true q166
                  obtain ⟨Ao17, co17, eo17⟩ := Kd.R_slice HO_8.out
                  subst eo17
                  have p167 : 0 ≤ (x9_1 : Int) := of_decide_eq_true (by first | (with_reducible assumption) | assumption)
                  have q167 : x9_1 < (t161.length : Int) := of_decide_eq_true (by first | (with_reducible assumption) | assumption)
                  obtain ⟨ad167, e167, hx167_0⟩ := Kd.at_int (Kd.R_reads' HO_8.out).2.2 x9_1 p167 q167
                  cases e167
                  replace p167 := eq_true p167
                  replace q167 := eq_true q167
                  go_wp2
                  go_roundg k1
                  case measure => have := HK1.out; omega
                  case rel => exact ⟨(wrap64 (x9_1 + 1)), (by first | rfl | (simp; done) | (simp [*]; done)), H', ⟨by have := HK1.out; omega⟩, ⟨by (with_reducible repeat (first | apply Kd.R_alloc | apply Kd.R_drewN | apply Kd.R_drew)); exact HO_7.out⟩, ⟨by (with_reducible repeat (first | apply Kd.R_alloc | apply Kd.R_drewN | apply Kd.R_drew)); exact HO_8.out⟩, ⟨by repeat (first | (with_reducible first | exact HB.out | apply below_alloc | apply pw_below_drewN | apply below_drew1) | exact HB.out)⟩⟩
            · rw [if_neg c9] at H
              exact absurd H (by simp)
          · rw [if_neg c8] at H
            have c8b0 : ((rd t160 x9_1) == a1) = false := beq_eq_false_iff_ne.mpr c8
            have c8b1 : ((rd t160 x9_1) != a1) = true := bne_iff_ne.mpr c8
            have H' := Aside0.mk H
            clear H
            obtain ⟨Ao18, co18, eo18⟩ := Kd.R_slice HO_7.out
            subst eo18
            have p166 : 0 ≤ (x9_1 : Int) := of_decide_eq_true (by first | (with_reducible assumption) | assumption)
            have q166 : x9_1 < (t160.length : Int) := of_decide_eq_true (by first | (with_reducible assumption) | assumption)
            obtain ⟨ad166, e166, hx166_0⟩ := Kd.at_int (Kd.R_reads' HO_7.out).2.2 x9_1 p166 q166
            cases e166
            replace p166 := eq_true p166
            replace q166 := eq_true q166
            go_wp2
            go_roundg k1
            case measure => have := HK1.out; omega
            case rel => exact ⟨(wrap64 (x9_1 + 1)), (by first | rfl | (simp; done) | (simp [*]; done)), H', ⟨by have := HK1.out; omega⟩, ⟨by (with_reducible repeat (first | apply Kd.R_alloc | apply Kd.R_drewN | apply Kd.R_drew)); exact HO_7.out⟩, ⟨by (with_reducible repeat (first | apply Kd.R_alloc | apply Kd.R_drewN | apply Kd.R_drew)); exact HO_8.out⟩, ⟨by repeat (first | (with_reducible first | exact HB.out | apply below_alloc | apply pw_below_drewN | apply below_drew1) | exact HB.out)⟩⟩
        · rw [if_neg c7] at H
          exact absurd H (by simp)
      · rw [if_neg c6] at H
        have c6b0 : decide (x9_1 < (t160.length : Int)) = false := decide_eq_false c6
        clear c6
        obtain rfl := Option.some.inj H
        obtain ⟨Ao19, co19, eo19⟩ := Kd.R_slice HO_7.out
        subst eo19
        go_wp2
        go_ret
        exact ⟨by first | rfl | (simp [errW_none, errW_some] <;> rfl) | (simp [*, errW_none, errW_some] <;> rfl), by repeat (first | (with_reducible first | exact HB.out | apply below_alloc | apply pw_below_drewN | apply below_drew1) | exact HB.out)⟩
end Go.Proofs.YthkpnbelbaljdaaDoor.X
end
