/- My own texts of this seat and its words, merged: G4, G1. Conditions: as each lemma says. -/
import Derived.Test.YthkpnbelbaljdaaDoorL21
import Derived.Deep.RegionLaw
import Derived.Deep.DeepCutAuto
import Derived.BigQuiet
import Derived.Laws.CopyOwn
section
/- My own texts of this seat, merged: Xp16, Xp30, XWave2, XRunLib, XRunClo, XRepBool, XRunI, XRun, Xp17. Conditions: as each lemma says. -/
-- Written by a program of this session out of the kit's print of the loaded functions: a plain function of a Go function, and its contract.
namespace Go.Proofs.YthkpnbelbaljdaaDoor.X
open Go.RowKit Go.Proofs.YthkpnbelbaljdaaDoorW.PrintWords Go.Proofs.YthkpnbelbaljdaaDoorW.PrintLast Go.Proofs.YthkpnbelbaljdaaDoorW.PrintMore
attribute [local go_sem] max2_int min2_int max_two min_two max_three min_three max_four min_four   -- for this text's walks alone
set_option linter.unusedVariables false
set_option linter.unusedSimpArgs false
/-! ### laws_toSwitch: function 16 -/
end Go.Proofs.YthkpnbelbaljdaaDoor.X
-- Written by a program of this session out of the kit's print of the loaded functions: a plain function of a Go function, and its contract.
namespace Go.Proofs.YthkpnbelbaljdaaDoor.X
open Go.RowKit Go.Proofs.YthkpnbelbaljdaaDoorW.PrintWords Go.Proofs.YthkpnbelbaljdaaDoorW.PrintLast Go.Proofs.YthkpnbelbaljdaaDoorW.PrintMore
attribute [local go_sem] max2_int min2_int max_two min_two max_three min_three max_four min_four   -- for this text's walks alone
set_option linter.unusedVariables false
set_option linter.unusedSimpArgs false
/-! ### impl_ValidSwitch: function 30 -/
def impl_ValidSwitch.f (a0_0 : Int) (a0_1 : Int) : Option (Bool) := (impl_within.f a0_0 0 5).bind fun t210 => (if t210 = true then ((impl_within.f a0_1 0 1).bind fun t211 => (some t211)) else (some false))
set_option maxHeartbeats 8000000 in
set_option maxRecDepth 100000 in
theorem impl_ValidSwitch.calls (a0_0 : Int) (a0_1 : Int) (r : Bool) (w : World) (h : impl_ValidSwitch.f a0_0 a0_1 = some r) :
    Calls Tryd.prog 30 #[.agg #[.int .i64 a0_0, .int .i64 a0_1]] w fun e w' => e = .returned (.bool r) ∧ Below w.heap.size w w' := by
  have hu30 := Tryd.underlying30
  have HB := Aside0.mk (Below.refl w.heap.size w)
  have H : ((impl_within.f a0_0 0 5).bind fun t210 => (if t210 = true then ((impl_within.f a0_1 0 1).bind fun t211 => (some t211)) else (some false))) = some r := h
  clear h
  replace H := Option.bind_eq_some_iff.mp H
  obtain ⟨t210, A20, H⟩ := H
  replace H : (if t210 = true then ((impl_within.f a0_1 0 1).bind fun t211 => (some t211)) else (some false)) = some r := H
  have A2 := Aside0.mk A20
  clear A20
  by_cases c3 : t210 = true
  · subst c3
    have H1 : ((impl_within.f a0_1 0 1).bind fun t211 => (some t211)) = some r := by rw [if_pos rfl] at H; exact H
    clear H
    have H := H1
    clear H1
    replace H := Option.bind_eq_some_iff.mp H
    obtain ⟨t211, A40, H⟩ := H
    replace H : (some t211) = some r := H
    have A4 := Aside0.mk A40
    clear A40
    obtain rfl := Option.some.inj H
    go_enter Tryd.func30, Tryd.ntmps30
    go_wp2_with (first | ((with_reducible refine gate_dst (N := 1) rfl ?_); refine box_event ?hg (N := 1) ?hd (cs := #[.int .i64 a0_0, .int .i64 a0_1]) (t := 30) ?hr ?_; (case hd => rfl); (case hg => rfl); (case hr => first | (go_simp; done) | (go_simp; rfl)); intro gb209 hg w5 hbox hb; have n0_ := Aside0.mk (below_step (by repeat (first | (with_reducible first | exact HB.out | apply below_alloc | apply pw_below_drewN | apply below_drew1) | exact HB.out)) hb); have n1_ := Aside0.mk (hbox); have n2_ := Aside0.mk ((by rw [hg]; exact (below_size (by repeat (first | (with_reducible first | exact HB.out | apply below_alloc | apply pw_below_drewN | apply below_drew1) | exact HB.out))) : w.heap.size ≤ gb209)); have n3_ := Aside0.mk ((by rw [hg]; exact (below_size (by repeat (first | (with_reducible first | exact HB.out | apply below_alloc | apply pw_below_drewN | apply below_drew1) | exact HB.out))) : w.heap.size ≤ gb209)); clear HB; have HB := n0_; have BK209 := n1_; have GW209 := n2_; have GE209 := n3_; clear n0_ n1_ n2_ n3_; clear hb hbox hg; have hcz6_0 : w5.cell? ⟨gb209, 0, none⟩ = some (.int .i64 a0_0) := (blk_cell BK209.out 0).trans rfl; have hcz6_1 : w5.cell? ⟨gb209, 1, none⟩ = some (.int .i64 a0_1) := (blk_cell BK209.out 1).trans rfl; have hfz6_0 := blk_frozen BK209.out 0; have hfz6_1 := blk_frozen BK209.out 1) | ((with_reducible refine gate_callee (f := 48) rfl ?_); refine goesL_ (some 5) rfl rfl Tryd.func48 (by kernel_rfl) rfl #[.int .i64 a0_0, .int .i64 0, .int .i64 5] rfl (by (try simp only [List.map_toArray, List.map_cons, List.map_nil]); first | done | rfl | (simp only [List.length_drop, List.length_take]; rfl)) ?_; (with_reducible refine (impl_within.calls a0_0 0 5 true _ A2.out).mono ?_); rintro e w' ⟨rfl, ⟨nd, rfl⟩⟩; refine ⟨_, rfl, ?_⟩) | (go_at_call 48; (with_reducible refine (impl_within.calls a0_1 0 1 t211 _ A4.out).mono ?_); rintro e w' ⟨rfl, ⟨nd, rfl⟩⟩))
    go_ret
    exact ⟨by first | rfl | (simp [errW_none, errW_some] <;> rfl) | (simp [*, errW_none, errW_some] <;> rfl), by repeat (first | (with_reducible first | exact HB.out | apply below_alloc | apply pw_below_drewN | apply below_drew1 | refine below_set ?_ GE209.out) | exact HB.out)⟩
  · replace c3 := Bool.eq_false_iff.mpr c3
    subst c3
    have H1 : (some false) = some r := by rw [if_neg (show ¬ (false = true) by decide)] at H; exact H
    clear H
    have H := H1
    clear H1
    obtain rfl := Option.some.inj H
    go_enter Tryd.func30, Tryd.ntmps30
    go_wp2_with (first | ((with_reducible refine gate_dst (N := 1) rfl ?_); refine box_event ?hg (N := 1) ?hd (cs := #[.int .i64 a0_0, .int .i64 a0_1]) (t := 30) ?hr ?_; (case hd => rfl); (case hg => rfl); (case hr => first | (go_simp; done) | (go_simp; rfl)); intro gb209 hg w7 hbox hb; have n0_ := Aside0.mk (below_step (by repeat (first | (with_reducible first | exact HB.out | apply below_alloc | apply pw_below_drewN | apply below_drew1) | exact HB.out)) hb); have n1_ := Aside0.mk (hbox); have n2_ := Aside0.mk ((by rw [hg]; exact (below_size (by repeat (first | (with_reducible first | exact HB.out | apply below_alloc | apply pw_below_drewN | apply below_drew1) | exact HB.out))) : w.heap.size ≤ gb209)); have n3_ := Aside0.mk ((by rw [hg]; exact (below_size (by repeat (first | (with_reducible first | exact HB.out | apply below_alloc | apply pw_below_drewN | apply below_drew1) | exact HB.out))) : w.heap.size ≤ gb209)); clear HB; have HB := n0_; have BK209 := n1_; have GW209 := n2_; have GE209 := n3_; clear n0_ n1_ n2_ n3_; clear hb hbox hg; have hcz8_0 : w7.cell? ⟨gb209, 0, none⟩ = some (.int .i64 a0_0) := (blk_cell BK209.out 0).trans rfl; have hcz8_1 : w7.cell? ⟨gb209, 1, none⟩ = some (.int .i64 a0_1) := (blk_cell BK209.out 1).trans rfl; have hfz8_0 := blk_frozen BK209.out 0; have hfz8_1 := blk_frozen BK209.out 1) | ((with_reducible refine gate_callee (f := 48) rfl ?_); refine goesL_ (some 5) rfl rfl Tryd.func48 (by kernel_rfl) rfl #[.int .i64 a0_0, .int .i64 0, .int .i64 5] rfl (by (try simp only [List.map_toArray, List.map_cons, List.map_nil]); first | done | rfl | (simp only [List.length_drop, List.length_take]; rfl)) ?_; (with_reducible refine (impl_within.calls a0_0 0 5 false _ A2.out).mono ?_); rintro e w' ⟨rfl, ⟨nd, rfl⟩⟩; refine ⟨_, rfl, ?_⟩))
    go_ret
    exact ⟨by first | rfl | (simp [errW_none, errW_some] <;> rfl) | (simp [*, errW_none, errW_some] <;> rfl), by repeat (first | (with_reducible first | exact HB.out | apply below_alloc | apply pw_below_drewN | apply below_drew1 | refine below_set ?_ GE209.out) | exact HB.out)⟩
end Go.Proofs.YthkpnbelbaljdaaDoor.X
/- The program's waveOf, over a closure that writes memory of its own making: what keeps the two apart is the blocks' types. Conditions: as the lemma says. -/
namespace Go.Proofs.YthkpnbelbaljdaaDoor.X
open Go.RowKit Go.Proofs.YthkpnbelbaljdaaDoorW.PrintWords Go.Proofs.YthkpnbelbaljdaaDoorW.PrintLast Go.Proofs.YthkpnbelbaljdaaDoorW.PrintMore
set_option linter.unusedVariables false
set_option linter.unusedSimpArgs false
/-- Blocks of a type stay. -/
def KeepT (t : Nat) (w w' : World) : Prop := w.heap.size ≤ w'.heap.size ∧ ∀ (k : Nat) (cs : Array Value) (fr : Nat × Nat), w.heap[k]? = some (Obj.cells cs t fr) → w'.heap[k]? = w.heap[k]?
/-- All blocks of other types stay. -/
def ButT (t : Nat) (w w' : World) : Prop := w.heap.size ≤ w'.heap.size ∧ ∀ (k : Nat) (o : Obj), w.heap[k]? = some o → (∀ (cs : Array Value) (fr : Nat × Nat), o ≠ Obj.cells cs t fr) → w'.heap[k]? = some o
theorem KeepT.refl (t : Nat) (w : World) : KeepT t w w := ⟨Nat.le_refl _, fun _ _ _ _ => rfl⟩
theorem KeepT.trans {t : Nat} {a b c : World} (h : KeepT t a b) (k : KeepT t b c) : KeepT t a c := ⟨Nat.le_trans h.1 k.1, fun q cs fr hq => (k.2 q cs fr ((h.2 q cs fr hq).trans hq)).trans (h.2 q cs fr hq)⟩
theorem KeepT.of_below {t : Nat} {a b : World} (h : Below a.heap.size a b) : KeepT t a b := ⟨h.size, fun q _ _ hq => h.block q (blk_lt hq)⟩
theorem KeepT.set {t : Nat} {a b : World} (h : KeepT t a b) {g : Nat} {cs : Array Value} {t' : TypeId} {fr : Nat × Nat} (hb : b.heap[g]? = some (.cells cs t' fr)) (ht : t' ≠ t) (j : Nat) (v : Value) : KeepT t a (b.setCell ⟨g, j, none⟩ v) :=
  ⟨by simpa [World.setCell] using h.1, fun q cs' fr' hq => by
    rw [← h.2 q cs' fr' hq]
    refine Below.heap_setCell b ⟨g, j, none⟩ v q (fun e => ?_)
    have := h.2 q cs' fr' hq
    rw [hq] at this
    rw [show q = g from e, hb] at this
    injection this with this
    injection this with _ h2
    exact ht h2⟩
theorem KeepT.grown {t : Nat} {a b c : World} (h : KeepT t a b) {row : Option Nat} (hg : b.grownBy c row) (hr : ∀ k, row = some k → ∃ cs t' fr, b.heap[k]? = some (.cells cs t' fr) ∧ t' ≠ t) : KeepT t a c :=
  h.trans ⟨hg.size, fun q cs fr hq => hg.block q (blk_lt hq) (fun e => by
    obtain ⟨cs', t', fr', h1, h2⟩ := hr q e.symm
    rw [hq] at h1
    injection h1 with h1
    injection h1 with _ h3
    exact h2 h3.symm)⟩
theorem ButT.of_below {t : Nat} {a b : World} (h : Below a.heap.size a b) : ButT t a b := ⟨h.size, fun q o hq _ => (h.block q (blk_lt hq)).trans hq⟩
theorem ButT.grown {t : Nat} {a b : World} {row : Option Nat} (hg : a.grownBy b row) (hr : ∀ k, row = some k → ∃ cs fr, a.heap[k]? = some (.cells cs t fr)) : ButT t a b :=
  ⟨hg.size, fun q o hq ho => (hg.block q (blk_lt hq) (fun e => by
    obtain ⟨cs, fr, h1⟩ := hr q e.symm
    rw [hq] at h1
    exact ho cs fr (Option.some.inj h1))).trans hq⟩
/-- A row of bytes of the call's own lives on. -/
theorem R_keepT {w w' : World} {base : Nat} {ok : Nat → Prop} {v : Value} {xs : List Int} (h : Kd.R (Kd.int .u8) 5 w base ok v xs) (hk : KeepT 5 w w') : Kd.R (Kd.int .u8) 5 w' base ok v xs :=
  Kd.R_mono (Kd.R_move (Kd.R_bound h) (fun k hq => by
    obtain ⟨_, _, _, q, hq, cs, hc⟩ := hq
    have : q = 5 := by simpa [Kd.int, Kd.scalar] using hq
    subst this
    exact hk.2 k cs (0, 0) hc)) (fun _ hq => hq.1)
def Stable2 (Inv : Nat → World → Prop) : Prop := ∀ i wa wb, Inv i wa → ButT 5 wa wb → Inv i wb
def Clo2 (f : Nat) (caps : Array Value) (lv : Nat → Bool) (Inv : Nat → World → Prop) (B0 : Nat) (n : Nat) : Prop :=
  ∀ i, i < n → ∀ wr, Inv i wr → B0 ≤ wr.heap.size → Calls Tryd.prog f (#[.int .i64 i] ++ caps) wr fun e w' => e = .returned (.bool (lv i)) ∧ Inv (i + 1) w' ∧ Below B0 wr w' ∧ KeepT 5 wr w'
set_option maxHeartbeats 4000000 in
set_option maxRecDepth 100000 in
theorem waveOf_typed (n : Nat) (hn : n ≤ 1000000) (f : Nat) (fn : Func) (caps : Array Value) (lv : Nat → Bool) (Inv : Nat → World → Prop) (B0 : Nat) (w : World)
    (hf : Tryd.prog.funcs[f]? = some fn) (hname : (fn.name == "runtime.NumGoroutine") = false) (hb : fn.body.isSome = true)
    (h0 : Inv 0 w) (hB0 : B0 ≤ w.heap.size) (hst : Stable2 Inv) (hcl : Clo2 f caps lv Inv B0 n) :
    Calls Tryd.prog 50 #[.int .i64 n, .func (.func f) #[] caps] w fun e w' => e = .returned (.string (strOfNums (lvs lv n))) ∧ Inv n w' ∧ Below B0 w w' := by
  have HF := Aside0.mk hf
  have HN := Aside0.mk hname
  have HBD := Aside0.mk hb
  have HI := Aside0.mk h0
  have HST := Aside0.mk hst
  have HCL := Aside0.mk hcl
  clear hf hname hb h0 hst hcl
  go_enter Tryd.func50, Tryd.ntmps50
  have HB0 := Aside0.mk (Below.refl B0 w)
  go_wp2_with (((with_reducible refine gate_dst (N := 7) rfl ?_); refine Kd.R_lit (Kd.int .u8) w.heap.size 5 ?hg (N := 7) ?hd (xs := ([] : List Int)) (inner := []) (ok := fun k => w.heap.size ≤ k) (okp := fun _ => False) ?hr ?hp (fun _ hk => hk.elim) (Nat.le_refl _) (Below.refl _ _) (Nat.le_refl _) (by simp) ?_; (case hd => rfl); (case hg => rfl); (case hr => first | (go_simp; done) | (go_simp; rfl)); (case hp => exact (Reps.none _ _)); intro v1 w1 ho1 hb1 hg_ hnew_; clear hg_ hnew_; have HO := Aside0.mk ho1; have HBL := Aside0.mk hb1; clear ho1 hb1))
  go_loopg [5, 9] n (fun kq v5 v9 w' => ∃ i : Nat, v9 = .int .i64 i ∧ Aside0 (i + kq = n) ∧ Aside0 (Kd.R (Kd.int .u8) 5 w' w.heap.size (fun k => w.heap.size ≤ k) v5 (lvs lv i)) ∧ Aside0 (Inv i w') ∧ Aside0 (Below B0 w w') ∧ Aside0 (w.heap.size ≤ w'.heap.size))
  case atStart => exact ⟨0, by first | rfl | (simp; done), ⟨by omega⟩, ⟨HO.out⟩, ⟨HST.out 0 _ _ HI.out (ButT.of_below HBL.out)⟩, ⟨HBL.out.mono hB0⟩, ⟨HBL.out.size⟩⟩
  case round =>
    clear HO HBL HI HB0
    obtain ⟨i, rfl, HE, HO, HI, HB, HK⟩ := hrel
    by_cases hlt : i < n
    · cases gk with
      | zero => have := HE.out; omega
      | succ g1 =>
      rcases hl : lv i with _ | _
      · have HL := Aside0.mk hl
        have HC := Aside0.mk (HCL.out i hlt wr HI.out (Nat.le_trans hB0 HK.out))
        rw [hl] at HC
        clear hl
        go_wp2_with (first | ((with_reducible refine gate_dst (N := 14) rfl ?_); refine goesV_ (some 14) rfl rfl HF.out HN.out HBD.out #[.int .i64 i] rfl rfl (by (try simp only [List.map_toArray, List.map_cons, List.map_nil]); first | done | rfl) ?_; refine HC.out.mono ?_; rintro e w2 ⟨rfl, hI, hB, hK⟩; refine ⟨_, rfl, ?_⟩; have n0_ := Aside0.mk (R_keepT HO.out hK); have n1_ := Aside0.mk hI; have n2_ := Aside0.mk (HB.out.trans hB); have n3_ := Aside0.mk (Nat.le_trans HK.out hK.1); clear HO HI HB HK HC hI hB hK; have HO := n0_; have HI := n1_; have HB := n2_; have HK := n3_; clear n0_ n1_ n2_ n3_) | ((with_reducible refine gate_builtin (b := .append) (xs := #[.tmp 18, .tmp 19]) rfl ?_); at_builtin; refine Kd.R_append (Kd.int .u8) (w0 := w2) w.heap.size rfl (.tmp 18) (.tmp 19) 39 5 (.int .u8 0) 1 rfl Tryd.underlying39 waveInfo rfl (by decide) (by omega) u5 (lvs lv i) 48 [.int .u8 48] (fun k => w.heap.size ≤ k) (fun _ => False) rfl rfl ?aP (fun _ hk => hk.elim) ?aF ?aO ?aB ?aS ?aL ?_; (case aP => exact rfl); (case aB => exact Below.refl _ _); (case aF => exact (fun _ hk => Nat.le_trans HK.out hk)); (case aO => exact HO.out); (case aS => exact HK.out); (case aL => rw [lvs_len]; omega); intro v3 w3 ho hb hg hat; rw [← lvs_zero lv i HL.out] at ho; have n0_ := Aside0.mk ho; have n1_ := Aside0.mk (HST.out (i + 1) _ _ HI.out (ButT.grown hg (fun k hk => by obtain ⟨inner, hown⟩ := Kd.R_own HO.out; obtain ⟨cs, hc⟩ := own_typed hown k hk; exact ⟨cs, (0, 0), hc⟩))); have n2_ := Aside0.mk (HB.out.trans (hb.mono hB0)); have n3_ := Aside0.mk (Nat.le_trans HK.out hb.size); clear HO HI HB HK; have HO := n0_; have HI := n1_; have HB := n2_; have HK := n3_; clear n0_ n1_ n2_ n3_; clear ho hb hg hat))
        go_roundg g1
        case measure => omega
        case rel => exact ⟨i + 1, by go_num, ⟨by have := HE.out; omega⟩, HO, HI, HB, HK⟩
      · have HL := Aside0.mk hl
        have HC := Aside0.mk (HCL.out i hlt wr HI.out (Nat.le_trans hB0 HK.out))
        rw [hl] at HC
        clear hl
        go_wp2_with (first | ((with_reducible refine gate_dst (N := 14) rfl ?_); refine goesV_ (some 14) rfl rfl HF.out HN.out HBD.out #[.int .i64 i] rfl rfl (by (try simp only [List.map_toArray, List.map_cons, List.map_nil]); first | done | rfl) ?_; refine HC.out.mono ?_; rintro e w2 ⟨rfl, hI, hB, hK⟩; refine ⟨_, rfl, ?_⟩; have n0_ := Aside0.mk (R_keepT HO.out hK); have n1_ := Aside0.mk hI; have n2_ := Aside0.mk (HB.out.trans hB); have n3_ := Aside0.mk (Nat.le_trans HK.out hK.1); clear HO HI HB HK HC hI hB hK; have HO := n0_; have HI := n1_; have HB := n2_; have HK := n3_; clear n0_ n1_ n2_ n3_) | ((with_reducible refine gate_builtin (b := .append) (xs := #[.tmp 15, .tmp 16]) rfl ?_); at_builtin; refine Kd.R_append (Kd.int .u8) (w0 := w2) w.heap.size rfl (.tmp 15) (.tmp 16) 39 5 (.int .u8 0) 1 rfl Tryd.underlying39 waveInfo rfl (by decide) (by omega) u5 (lvs lv i) 49 [.int .u8 49] (fun k => w.heap.size ≤ k) (fun _ => False) rfl rfl ?aP (fun _ hk => hk.elim) ?aF ?aO ?aB ?aS ?aL ?_; (case aP => exact rfl); (case aB => exact Below.refl _ _); (case aF => exact (fun _ hk => Nat.le_trans HK.out hk)); (case aO => exact HO.out); (case aS => exact HK.out); (case aL => rw [lvs_len]; omega); intro v3 w3 ho hb hg hat; rw [← lvs_one lv i HL.out] at ho; have n0_ := Aside0.mk ho; have n1_ := Aside0.mk (HST.out (i + 1) _ _ HI.out (ButT.grown hg (fun k hk => by obtain ⟨inner, hown⟩ := Kd.R_own HO.out; obtain ⟨cs, hc⟩ := own_typed hown k hk; exact ⟨cs, (0, 0), hc⟩))); have n2_ := Aside0.mk (HB.out.trans (hb.mono hB0)); have n3_ := Aside0.mk (Nat.le_trans HK.out hb.size); clear HO HI HB HK; have HO := n0_; have HI := n1_; have HB := n2_; have HK := n3_; clear n0_ n1_ n2_ n3_; clear ho hb hg hat))
        go_roundg g1
        case measure => omega
        case rel => exact ⟨i + 1, by go_num, ⟨by have := HE.out; omega⟩, HO, HI, HB, HK⟩
    · have e : i = n := by have := HE.out; omega
      subst e
      have hcv := own_string (P := Tryd.prog) Tryd.underlying39 Tryd.underlying5 Tryd.underlying9 (Kd.own_of_R HO.out)
      go_wp2
      go_ret
      exact ⟨rfl, HI.out, HB.out⟩
end Go.Proofs.YthkpnbelbaljdaaDoor.X
/- The switch: what its boxes hold, and what a tick does to it. Conditions: as each lemma says. -/
namespace Go.Proofs.YthkpnbelbaljdaaDoor.X
open Go.RowKit Go.Proofs.YthkpnbelbaljdaaDoorW.PrintWords Go.Proofs.YthkpnbelbaljdaaDoorW.PrintLast Go.Proofs.YthkpnbelbaljdaaDoorW.PrintMore
set_option linter.unusedVariables false
set_option linter.unusedSimpArgs false
/-- append to a row of the call's own, as one step of a region that draws its order. -/
theorem step_append_own {P : Program} {ops : Array Oper} {o : Oper} {a : Act} {w : World} {K : Act → World → Prop} {Q : Exit → Act → World → Prop} {E : Prop} (hgd : o.guard = none) (s x : Operand) (t : TypeId)
    (ho : o.op = Op.call { callee := Callee.builtin Builtin.append, args := #[s, x], argTypes := #[t, t] }) (e : TypeId) (z : Value) (bytes : Nat)
    (ht : P.underlying t = some (.slice e)) (hinfo : (P.info? e).map (fun i => (i.zero, i.size, i.bytes)) = some (some z, 1, bytes)) (hz : z.cells.size = 1) (hb0 : 0 < bytes)
    (base : Nat) (v : Value) (n : Nat) (xs : List Value) (hs : a.eval s = v) (ad : Addr) (c : Nat) (y : Value) (hx : a.eval x = .slice (some ad) 1 c) (hc : w.cell? ad = some y) (h1 : y.oneCell' = true)
    (HO : w.ownsRow base e 1 v n xs) (hbase : base ≤ w.heap.size) (hl : (n + 1) * bytes ≤ 140737488355328)
    (hK : ∀ v' w', w'.ownsRow base e 1 v' (n + 1) (xs ++ [y]) → w.grownBy w' v.ownBlock → (v'.ownBlock = v.ownBlock ∨ ∃ b, v'.ownBlock = some b ∧ w.heap.size ≤ b) → K (a.put o.dst v') w') :
    if Region.wanted o (yielded ops a.tmps) = true then Oper.wp P o a w K Q else E := by
  have hw : Region.wanted o (yielded ops a.tmps) = true := by simp [Region.wanted, hgd]
  rw [if_pos hw]
  obtain ⟨i0, hi, hzz⟩ := Option.map_eq_some_iff.1 hinfo
  simp only [Prod.mk.injEq] at hzz
  obtain ⟨hz0, hz1, hz2⟩ := hzz
  have hlen : n + 1 ≤ 140737488355328 := Nat.le_trans (Nat.le_mul_of_pos_right _ hb0) hl
  obtain ⟨v1, w1, hr, h2, h3, _, h5⟩ := run_append_own_at (P := P) (w := w) base t o.type e i0 z 1 bytes ht hi hz0 hz1 hz2 hz (by omega) v n xs HO ad 1 c [y] rfl
    (fun j u hj => by
      cases j with
      | zero => rw [← Option.some.inj hj]; simpa [Addr.add] using hc
      | succ j => simp at hj)
    (by intro u hu; obtain rfl := List.mem_singleton.1 hu; exact h1) (by simp only [maxLen]; omega) hl hbase
  unfold Oper.wp
  simp [execOp, ho, resolve, invoke, builtin, hs, hx, hr, Result.andThen]
  refine hK v1 w1 h2 h3 ?_
  rcases h5 with h5 | h5
  · exact .inl h5
  · exact .inr ⟨_, h5, Nat.le_refl _⟩
theorem boolInfo : (Tryd.prog.info? 4).map (fun i => (i.zero, i.size, i.bytes)) = some (some (.bool false), 1, 1) := by kernel_rfl
def RowB (B : Nat) (w : World) (v : Value) (r : List Bool) : Prop := w.ownsRow B 4 1 v r.length (encs Value.bool r)
/-- What the boxes of a switch hold, and that it is reached from a world by writes of its own. -/
structure StW (a b c : ByteArray) (g1 g2 g3 g4 g5 B : Nat) (w0 w : World) (e0 e1 : Bool) (r0 r1 t0 t1 : List Bool) (v0 v1 u0 u1 : Value) : Prop where
  b1 : w.heap[g1]? = some (.cells #[.string a, .string b] 100 (0, 0))
  b2 : w.heap[g2]? = some (.cells #[.string c] 9 (0, 0))
  b3 : w.heap[g3]? = some (.cells #[.bool e0, .bool e1] 101 (0, 0))
  b4 : w.heap[g4]? = some (.cells #[v0, v1] 102 (0, 0))
  b5 : w.heap[g5]? = some (.cells #[u0, u1] 102 (0, 0))
  o0 : RowB B w v0 r0
  o1 : RowB B w v1 r1
  p0 : RowB B w u0 t0
  p1 : RowB B w u1 t1
  n45 : g4 ≠ g5
  m00 : NeRow u0 v0
  m01 : NeRow u0 v1
  m10 : NeRow u1 v0
  m11 : NeRow u1 v1
  muu : NeRow u0 u1
  h3 : B ≤ g3
  h4 : B ≤ g4
  h5 : B ≤ g5
  hB : B ≤ w.heap.size
  fb : Below B w0 w
  fk : KeepT 5 w0 w
variable {a b c : ByteArray} {g1 g2 g3 g4 g5 B : Nat} {w0 w : World} {e0 e1 : Bool} {r0 r1 t0 t1 : List Bool} {v0 v1 u0 u1 : Value}
theorem StW.from (h : StW a b c g1 g2 g3 g4 g5 B w0 w e0 e1 r0 r1 t0 t1 v0 v1 u0 u1) : StW a b c g1 g2 g3 g4 g5 B w w e0 e1 r0 r1 t0 t1 v0 v1 u0 u1 :=
  { h with fb := Below.refl _ _, fk := KeepT.refl _ _ }
theorem StW.move (h : StW a b c g1 g2 g3 g4 g5 B w0 w e0 e1 r0 r1 t0 t1 v0 v1 u0 u1) {w1 : World} (hb : Below w.heap.size w w1) : StW a b c g1 g2 g3 g4 g5 B w0 w1 e0 e1 r0 r1 t0 t1 v0 v1 u0 u1 :=
  { h with
    b1 := blk_below h.b1 hb, b2 := blk_below h.b2 hb, b3 := blk_below h.b3 hb, b4 := blk_below h.b4 hb, b5 := blk_below h.b5 hb
    o0 := own_move h.o0 (fun k hk => hb.block k (own_lt h.o0 k hk)), o1 := own_move h.o1 (fun k hk => hb.block k (own_lt h.o1 k hk))
    p0 := own_move h.p0 (fun k hk => hb.block k (own_lt h.p0 k hk)), p1 := own_move h.p1 (fun k hk => hb.block k (own_lt h.p1 k hk))
    hB := Nat.le_trans h.hB hb.size
    fb := h.fb.trans (hb.mono h.hB)
    fk := h.fk.trans (KeepT.of_below hb) }
theorem StW.drew (h : StW a b c g1 g2 g3 g4 g5 B w0 w e0 e1 r0 r1 t0 t1 v0 v1 u0 u1) : StW a b c g1 g2 g3 g4 g5 B w0 w.drew e0 e1 r0 r1 t0 t1 v0 v1 u0 u1 := h.move (below_drew1 (Below.refl _ _))
theorem StW.alloc (h : StW a b c g1 g2 g3 g4 g5 B w0 w e0 e1 r0 r1 t0 t1 v0 v1 u0 u1) (o : Obj) : StW a b c g1 g2 g3 g4 g5 B w0 (w.alloc o) e0 e1 r0 r1 t0 t1 v0 v1 u0 u1 := h.move (below_alloc (Below.refl _ _) _)
theorem RowB.far {v : Value} {r : List Bool} (h : RowB B w v r) {g : Nat} {cs : Array Value} {t : TypeId} (hg : w.heap[g]? = some (.cells cs t (0, 0))) (ht : 4 ≠ t) (j : Nat) (u : Value) : RowB B (w.setCell ⟨g, j, none⟩ u) v r :=
  own_setCell h (p := ⟨g, j, none⟩) (own_ne h hg ht) u
theorem size_set (w : World) (p : Addr) (u : Value) : (w.setCell p u).heap.size = w.heap.size := by simp [World.setCell]
theorem StW.put (h : StW a b c g1 g2 g3 g4 g5 B w0 w e0 e1 r0 r1 t0 t1 v0 v1 u0 u1) (j : Nat) (x : Bool) {e0' e1' : Bool} (he : (#[Value.bool e0, .bool e1] : Array Value).setIfInBounds j (.bool x) = #[.bool e0', .bool e1']) :
    StW a b c g1 g2 g3 g4 g5 B w0 (w.setCell ⟨g3, j, none⟩ (.bool x)) e0' e1' r0 r1 t0 t1 v0 v1 u0 u1 :=
  { h with
    b1 := blk_far h.b1 (p := ⟨g3, j, none⟩) (blk_ne h.b1 h.b3 (by decide)) _, b2 := blk_far h.b2 (p := ⟨g3, j, none⟩) (blk_ne h.b2 h.b3 (by decide)) _, b3 := blk_put h.b3 j _ he
    b4 := blk_far h.b4 (p := ⟨g3, j, none⟩) (blk_ne h.b4 h.b3 (by decide)) _, b5 := blk_far h.b5 (p := ⟨g3, j, none⟩) (blk_ne h.b5 h.b3 (by decide)) _
    o0 := RowB.far h.o0 h.b3 (by decide) _ _, o1 := RowB.far h.o1 h.b3 (by decide) _ _, p0 := RowB.far h.p0 h.b3 (by decide) _ _, p1 := RowB.far h.p1 h.b3 (by decide) _ _
    hB := by rw [size_set]; exact h.hB
    fb := h.fb.setCell h.h3 _
    fk := h.fk.set h.b3 (by decide) _ _ }
/-- A row anew, of memory made since. -/
theorem StW.row (h : StW a b c g1 g2 g3 g4 g5 B w0 w e0 e1 r0 r1 t0 t1 v0 v1 u0 u1) {w1 : World} (hb : Below w.heap.size w w1) {v : Value} {r : List Bool} (ho : RowB w.heap.size w1 v r) (j : Nat) {v0' v1' : Value} {r0' r1' : List Bool}
    (hj : (j = 0 ∧ v0' = v ∧ v1' = v1 ∧ r0' = r ∧ r1' = r1) ∨ (j = 1 ∧ v0' = v0 ∧ v1' = v ∧ r0' = r0 ∧ r1' = r)) :
    StW a b c g1 g2 g3 g4 g5 B w0 (w1.setCell ⟨g4, j, none⟩ v) e0 e1 r0' r1' t0 t1 v0' v1' u0 u1 := by
  have h' := h.move hb
  have n0 : NeRow u0 v := ne_symm (ne_below ho h.p0)
  have n1 : NeRow u1 v := ne_symm (ne_below ho h.p1)
  have hv : RowB B w1 v r := own_weaken ho h.hB
  have q := RowB.far hv h'.b4 (by decide) j v
  have k0 := RowB.far h'.o0 h'.b4 (by decide) j v
  have k1 := RowB.far h'.o1 h'.b4 (by decide) j v
  have k2 := RowB.far h'.p0 h'.b4 (by decide) j v
  have k3 := RowB.far h'.p1 h'.b4 (by decide) j v
  have e4 : (w1.setCell ⟨g4, j, none⟩ v).heap[g4]? = some (.cells #[v0', v1'] 102 (0, 0)) := by
    refine blk_put h'.b4 j _ ?_
    rcases hj with ⟨rfl, rfl, rfl, _, _⟩ | ⟨rfl, rfl, rfl, _, _⟩ <;> rfl
  have all : RowB B (w1.setCell ⟨g4, j, none⟩ v) v0' r0' ∧ RowB B (w1.setCell ⟨g4, j, none⟩ v) v1' r1' ∧ NeRow u0 v0' ∧ NeRow u0 v1' ∧ NeRow u1 v0' ∧ NeRow u1 v1' := by
    rcases hj with ⟨rfl, rfl, rfl, rfl, rfl⟩ | ⟨rfl, rfl, rfl, rfl, rfl⟩
    · exact ⟨q, k1, n0, h.m01, n1, h.m11⟩
    · exact ⟨k0, q, h.m00, n0, h.m10, n1⟩
  exact { h' with
    b1 := blk_far h'.b1 (p := ⟨g4, j, none⟩) (blk_ne h'.b1 h'.b4 (by decide)) _, b2 := blk_far h'.b2 (p := ⟨g4, j, none⟩) (blk_ne h'.b2 h'.b4 (by decide)) _
    b3 := blk_far h'.b3 (p := ⟨g4, j, none⟩) (blk_ne h'.b3 h'.b4 (by decide)) _, b4 := e4, b5 := blk_far h'.b5 (p := ⟨g4, j, none⟩) (fun e => h.n45 e.symm) _
    o0 := all.1, o1 := all.2.1, p0 := k2, p1 := k3
    m00 := all.2.2.1, m01 := all.2.2.2.1, m10 := all.2.2.2.2.1, m11 := all.2.2.2.2.2
    hB := by rw [size_set]; exact h'.hB
    fb := h'.fb.setCell h.h4 _
    fk := h'.fk.set h'.b4 (by decide) _ _ }
/-- A trace that has been appended to. -/
theorem StW.trace0 (h : StW a b c g1 g2 g3 g4 g5 B w0 w e0 e1 r0 r1 t0 t1 v0 v1 u0 u1) {w1 : World} (hg : w.grownBy w1 u0.ownBlock) {u : Value} {t : List Bool} (ho : RowB B w1 u t) (hat : u.ownBlock = u0.ownBlock ∨ ∃ b, u.ownBlock = some b ∧ w.heap.size ≤ b) :
    StW a b c g1 g2 g3 g4 g5 B w0 (w1.setCell ⟨g5, 0, none⟩ u) e0 e1 r0 r1 t t1 v0 v1 u u1 := by
  have f1 := blk_grown h.b1 hg (own_ne h.p0 h.b1 (by decide))
  have f2 := blk_grown h.b2 hg (own_ne h.p0 h.b2 (by decide))
  have f3 := blk_grown h.b3 hg (own_ne h.p0 h.b3 (by decide))
  have f4 := blk_grown h.b4 hg (own_ne h.p0 h.b4 (by decide))
  have f5 := blk_grown h.b5 hg (own_ne h.p0 h.b5 (by decide))
  have q0 : RowB B w1 v0 r0 := own_other h.o0 hg (ne_other h.m00)
  have q1 : RowB B w1 v1 r1 := own_other h.o1 hg (ne_other h.m01)
  have q3 : RowB B w1 u1 t1 := own_other h.p1 hg (ne_other h.muu)
  exact { h with
    b1 := blk_far f1 (p := ⟨g5, 0, none⟩) (blk_ne f1 f5 (by decide)) _, b2 := blk_far f2 (p := ⟨g5, 0, none⟩) (blk_ne f2 f5 (by decide)) _
    b3 := blk_far f3 (p := ⟨g5, 0, none⟩) (blk_ne f3 f5 (by decide)) _, b4 := blk_far f4 (p := ⟨g5, 0, none⟩) h.n45 _, b5 := blk_put f5 0 _ rfl
    o0 := RowB.far q0 f5 (by decide) _ _, o1 := RowB.far q1 f5 (by decide) _ _, p0 := RowB.far ho f5 (by decide) _ _, p1 := RowB.far q3 f5 (by decide) _ _
    m00 := ne_append h.m00 hat h.o0, m01 := ne_append h.m01 hat h.o1, muu := ne_append h.muu hat h.p1
    hB := by rw [size_set]; exact Nat.le_trans h.hB hg.size
    fb := (h.fb.grown hg h.hB (own_base h.p0)).setCell h.h5 _
    fk := (h.fk.grown hg (fun k hk => by obtain ⟨cs, hc⟩ := own_typed h.p0 k hk; exact ⟨cs, 4, (0, 0), hc, by decide⟩)).set f5 (by decide) _ _ }
theorem StW.trace1 (h : StW a b c g1 g2 g3 g4 g5 B w0 w e0 e1 r0 r1 t0 t1 v0 v1 u0 u1) {w1 : World} (hg : w.grownBy w1 u1.ownBlock) {u : Value} {t : List Bool} (ho : RowB B w1 u t) (hat : u.ownBlock = u1.ownBlock ∨ ∃ b, u.ownBlock = some b ∧ w.heap.size ≤ b) :
    StW a b c g1 g2 g3 g4 g5 B w0 (w1.setCell ⟨g5, 1, none⟩ u) e0 e1 r0 r1 t0 t v0 v1 u0 u := by
  have f1 := blk_grown h.b1 hg (own_ne h.p1 h.b1 (by decide))
  have f2 := blk_grown h.b2 hg (own_ne h.p1 h.b2 (by decide))
  have f3 := blk_grown h.b3 hg (own_ne h.p1 h.b3 (by decide))
  have f4 := blk_grown h.b4 hg (own_ne h.p1 h.b4 (by decide))
  have f5 := blk_grown h.b5 hg (own_ne h.p1 h.b5 (by decide))
  have q0 : RowB B w1 v0 r0 := own_other h.o0 hg (ne_other h.m10)
  have q1 : RowB B w1 v1 r1 := own_other h.o1 hg (ne_other h.m11)
  have q3 : RowB B w1 u0 t0 := own_other h.p0 hg (ne_other (ne_symm h.muu))
  exact { h with
    b1 := blk_far f1 (p := ⟨g5, 1, none⟩) (blk_ne f1 f5 (by decide)) _, b2 := blk_far f2 (p := ⟨g5, 1, none⟩) (blk_ne f2 f5 (by decide)) _
    b3 := blk_far f3 (p := ⟨g5, 1, none⟩) (blk_ne f3 f5 (by decide)) _, b4 := blk_far f4 (p := ⟨g5, 1, none⟩) h.n45 _, b5 := blk_put f5 1 _ rfl
    o0 := RowB.far q0 f5 (by decide) _ _, o1 := RowB.far q1 f5 (by decide) _ _, p0 := RowB.far q3 f5 (by decide) _ _, p1 := RowB.far ho f5 (by decide) _ _
    m10 := ne_append h.m10 hat h.o0, m11 := ne_append h.m11 hat h.o1, muu := ne_symm (ne_append (ne_symm h.muu) hat h.p0)
    hB := by rw [size_set]; exact Nat.le_trans h.hB hg.size
    fb := (h.fb.grown hg h.hB (own_base h.p1)).setCell h.h5 _
    fk := (h.fk.grown hg (fun k hk => by obtain ⟨cs, hc⟩ := own_typed h.p1 k hk; exact ⟨cs, 4, (0, 0), hc, by decide⟩)).set f5 (by decide) _ _ }
/-- A switch's state, and what a tick does to it. -/
structure SW where
  e0 : Bool
  e1 : Bool
  r0 : List Bool
  r1 : List Bool
def sideRow (row : List Bool) (wish : Bool) : List Bool := if row = [] then [] else wish :: row.dropLast
def sideUse (row : List Bool) (wish : Bool) : Bool := if row = [] then wish else row.getLastD false
def dn (z : ByteArray) (i : Int) : Bool := decide (0 < i) && ((bt z (i - 1) == 49) && (bt z i == 48))
def side0 (a c : ByteArray) (i : Int) (s : SW) : SW :=
  if dn a i = true then ⟨sideUse s.r0 ((bt c i == 48) && !s.e1) && !s.e1, s.e1, sideRow s.r0 ((bt c i == 48) && !s.e1), s.r1⟩ else s
def side1 (b c : ByteArray) (i : Int) (s : SW) : SW :=
  if dn b i = true then ⟨s.e0, sideUse s.r1 ((bt c i == 49) && !s.e0) && !s.e0, s.r0, sideRow s.r1 ((bt c i == 49) && !s.e0)⟩ else s
def tick (a b c : ByteArray) (i : Int) (s : SW) : SW := side1 b c i (side0 a c i s)
def lvl (a b : ByteArray) (i : Int) (s : SW) : Bool := ((bt a i == 49) && s.e0) || ((bt b i == 49) && s.e1)
theorem sideRow_len (row : List Bool) (x : Bool) : (sideRow row x).length = row.length := by
  unfold sideRow
  split
  · simp [*]
  · rename_i h
    have : 0 < row.length := List.length_pos_iff.2 h
    simp only [List.length_cons, List.length_dropLast]; omega
theorem tick_len (a b c : ByteArray) (i : Int) (s : SW) : (tick a b c i s).r0.length = s.r0.length ∧ (tick a b c i s).r1.length = s.r1.length := by
  unfold tick side1 side0
  split <;> split <;> simp [sideRow_len]
theorem side0_len (a c : ByteArray) (i : Int) (s : SW) : (side0 a c i s).r0.length = s.r0.length ∧ (side0 a c i s).r1.length = s.r1.length := by
  unfold side0
  split <;> simp [sideRow_len]
end Go.Proofs.YthkpnbelbaljdaaDoor.X
/- The switch's closure: what it tells of a tick, and what it leaves. Conditions: as the lemma says. -/
namespace Go.Proofs.YthkpnbelbaljdaaDoor.X
open Go.RowKit Go.Proofs.YthkpnbelbaljdaaDoorW.PrintWords Go.Proofs.YthkpnbelbaljdaaDoorW.PrintLast Go.Proofs.YthkpnbelbaljdaaDoorW.PrintMore
set_option linter.unusedVariables false
set_option linter.unusedSimpArgs false
theorem ix0 (x y : ByteArray) (W : World) : (Instr.index 100 (.agg #[.string x, .string y]) (.int .i64 0)).run Tryd.prog W = .ok (.string x) W := by
  have hi := (show (Tryd.prog.info? 9).map (fun i => i.size) = some 1 by kernel_rfl)
  obtain ⟨i0, h1, h2⟩ := Option.map_eq_some_iff.1 hi
  simp [Instr.index, run_underlying Tryd.underlying100, asIntOf, go_sem, sizeOf, typeInfo, h1, h2]
theorem ix1 (x y : ByteArray) (W : World) : (Instr.index 100 (.agg #[.string x, .string y]) (.int .i64 1)).run Tryd.prog W = .ok (.string y) W := by
  have hi := (show (Tryd.prog.info? 9).map (fun i => i.size) = some 1 by kernel_rfl)
  obtain ⟨i0, h1, h2⟩ := Option.map_eq_some_iff.1 hi
  simp [Instr.index, run_underlying Tryd.underlying100, asIntOf, go_sem, sizeOf, typeInfo, h1, h2]
theorem RowB.last {B : Nat} {w : World} {A : Option Addr} {n c : Nat} {r : List Bool} (h : RowB B w (.slice A n c) r) (hn : n = r.length) (h0 : 0 < n) :
    ∃ g, A = some ⟨g, 0, none⟩ ∧ w.cell? ⟨g, n - 1, none⟩ = some (.bool (r.getLastD false)) ∧ ReadsOf Value.bool false w (some ⟨g, 0, none⟩) (n - 1) r.dropLast ∧ n ≤ c := by
  subst hn
  have h' : w.ownsRow B 4 1 (.slice A r.length c) r.length (encs Value.bool r) := h
  obtain ⟨g, cap, hv, _, _⟩ := World.ownsRow.form h' h0
  injection hv with hA _ hc
  subst hA
  have hcell : ∀ j, j < r.length → w.cell? ⟨g, j, none⟩ = some (.bool (r.getD j false)) := by
    intro j hj
    have := h'.cells (g := g) rfl j _ (encs_get (d := false) r j hj)
    rwa [add_plain] at this
  refine ⟨g, rfl, ?_, ⟨by simp, ?_, fun _ => ⟨_, rfl, fun j hj => ?_⟩⟩, own_cap h'⟩
  · rw [hcell _ (by omega)]
    congr 2
    rw [List.getLastD_eq_getLast?, List.getLast?_eq_getElem?, List.getD_eq_getElem?_getD]
  · rcases h'.2 with ⟨_, h1⟩ | ⟨g', cap', cur, he, _, _, h1, h2, _⟩
    · omega
    · simp only [maxLen] at h2; omega
  · rw [add_plain, hcell j (by omega)]
    congr 2
    rw [List.getD_eq_getElem?_getD, List.getD_eq_getElem?_getD, List.getElem?_dropLast, if_pos hj]
theorem ReadsOf.below {w w1 : World} {A : Option Addr} {n : Nat} {r : List Bool} (h : ReadsOf Value.bool false w A n r) (hb : Below w.heap.size w w1) : ReadsOf Value.bool false w1 A n r :=
  ⟨h.1, h.2.1, fun hn => by obtain ⟨ad, h1, h2⟩ := h.2.2 hn; exact ⟨ad, h1, fun j hj => pw_cell_below hb (h2 j hj)⟩⟩
theorem snocB {B : Nat} {w : World} {v : Value} {r : List Bool} {x : Bool} (h : w.ownsRow B 4 1 v (r.length + 1) (encs Value.bool r ++ [.bool x])) : RowB B w v (r ++ [x]) := by
  unfold RowB
  simpa [encs] using h
theorem w_in (i : Int) (h0 : 0 ≤ i) (h1 : i < 1000000000) : IntKind.i64.wrap i = i := IntWalk.i64_in _ ⟨by omega, by omega⟩
set_option maxHeartbeats 4000000 in
set_option maxRecDepth 100000 in
theorem RunClo (a b c : ByteArray) (i : Int) (s : SW) (t0 t1 : List Bool) (g1 g2 g3 g4 g5 B : Nat) (v0 v1 u0 u1 : Value) (w : World)
    (h : StW a b c g1 g2 g3 g4 g5 B w w s.e0 s.e1 s.r0 s.r1 t0 t1 v0 v1 u0 u1) (hi0 : 0 ≤ i) (hia : i < (a.size : Int)) (hib : i < (b.size : Int)) (hic : i < (c.size : Int)) (hm : (a.size : Int) < 1000000000)
    (hl0 : s.r0.length ≤ 100) (hl1 : s.r1.length ≤ 100) (ht0 : t0.length ≤ 2000000) (ht1 : t1.length ≤ 2000000) :
    Calls Tryd.prog 90 #[.int .i64 i, .pointer (some ⟨g1, 0, none⟩), .pointer (some ⟨g2, 0, none⟩), .pointer (some ⟨g3, 0, none⟩), .pointer (some ⟨g4, 0, none⟩), .pointer (some ⟨g5, 0, none⟩)] w fun e w' => e = .returned (.bool (lvl a b i (tick a b c i s))) ∧
      ∃ v0 v1 u0 u1, StW a b c g1 g2 g3 g4 g5 B w w' (tick a b c i s).e0 (tick a b c i s).e1 (tick a b c i s).r0 (tick a b c i s).r1 (t0 ++ [(tick a b c i s).e0]) (t1 ++ [(tick a b c i s).e1]) v0 v1 u0 u1 := by
  have HS0 := Aside0.mk h
  have HT0 := Aside0.mk ht0
  have HT1 := Aside0.mk ht1
  have HL0 := Aside0.mk hl0
  have HL1 := Aside0.mk hl1
  have cA := (blk_cell h.b1 0).trans (show (#[Value.string a, .string b] : Array Value)[0]? = some (.string a) from rfl)
  have cB := (blk_cell h.b1 1).trans (show (#[Value.string a, .string b] : Array Value)[1]? = some (.string b) from rfl)
  clear h ht0 ht1 hl0 hl1
  have k01 : ∀ h, (({ data := #[48, 49] } : ByteArray)[0]'h).toNat = 48 := fun _ => rfl
  have k02 : ∀ h, (({ data := #[48, 49] } : ByteArray)[1]'h).toNat = 49 := fun _ => rfl
  have k03 : IntKind.i64.wrap 1 = 1 := by decide
  have k04 : IntKind.i64.wrap 0 = 0 := by decide
  have hx0 := ix0 a b
  have hx1 := ix1 a b
  have hba := bt_at a i
  have hbb := bt_at b i
  have hbc := bt_at c i
  obtain ⟨j, hj⟩ : ∃ j, j = i - 1 := ⟨_, rfl⟩
  have hba1 := bt_at a j
  have hbb1 := bt_at b j
  have HJ := Aside0.mk hj
  clear hj
  have p0 := eq_true hi0
  have pa := eq_true hia
  have pb := eq_true hib
  have pc := eq_true hic
  have wi : i < 1000000000 := by omega
  go_enter Tryd.func90, Tryd.ntmps90
  go_wp2
  go_loopg [17] 2 (fun kq v17 w' => (v17 = .int .i64 0 ∧ Aside0 (kq = 2) ∧ ∃ v0 v1, Aside0 (StW a b c g1 g2 g3 g4 g5 B w w' s.e0 s.e1 s.r0 s.r1 t0 t1 v0 v1 u0 u1))
    ∨ (v17 = .int .i64 1 ∧ Aside0 (kq = 1) ∧ ∃ S v0 v1, Aside0 (S = side0 a c i s) ∧ Aside0 (StW a b c g1 g2 g3 g4 g5 B w w' S.e0 S.e1 S.r0 S.r1 t0 t1 v0 v1 u0 u1))
    ∨ (v17 = .int .i64 2 ∧ Aside0 (kq = 0) ∧ ∃ S v0 v1, Aside0 (S = tick a b c i s) ∧ Aside0 (StW a b c g1 g2 g3 g4 g5 B w w' S.e0 S.e1 S.r0 S.r1 t0 t1 v0 v1 u0 u1)))
  case atStart => exact .inl ⟨rfl, ⟨rfl⟩, v0, v1, HS0⟩
  case round =>
    clear HS0 cA cB
    rcases hrel with ⟨rfl, HK, v0, v1, HS⟩ | ⟨rfl, HK, S, v0, v1, HX, HS⟩ | ⟨rfl, HK, S, v0, v1, HX, HS⟩
    · cases gk with
      | zero => exact absurd HK.out (by omega)
      | succ g1' =>
      obtain ⟨e0, e1, r0, r1⟩ := s
      by_cases hi : 0 < i
      · have hp := eq_true hi
        have q0 := HJ.out
        have q1 : (0 ≤ j) = True := eq_true (by omega)
        have q2 : (j < (a.size : Int)) = True := eq_true (by omega)
        have wm : IntKind.i64.wrap (i - 1) = j := by rw [← q0]; exact w_in _ (by omega) (by omega)
        clear q0
        by_cases h49 : bt a j = 49
        · have m49 : (bt a j == 49) = true := beq_iff_eq.mpr h49
          by_cases h48 : bt a i = 48
          · have m48 : (bt a i == 48) = true := beq_iff_eq.mpr h48
            have HD : Aside0 (dn a i = true) := ⟨by unfold dn; rw [← HJ.out, m49, m48, decide_eq_true hi]; rfl⟩
            have cC : wr.cell? ⟨g2, 0, none⟩ = some (.string c) := (blk_cell HS.out.b2 0).trans rfl
            have cO : wr.cell? ⟨g3, 1, none⟩ = some (.bool e1) := (blk_cell HS.out.b3 1).trans rfl
            go_upto_region 6 with (fail)
            go_cut [11] (fun v11 wc => ∃ wish : Bool, v11 = .bool wish ∧ Aside0 (wish = ((bt c i == 48) && !e1)) ∧ Aside0 (StW a b c g1 g2 g3 g4 g5 B w wc e0 e1 r0 r1 t0 t1 v0 v1 u0 u1))
            case first =>
              by_cases hc : bt c i = 48
              · have mc : (bt c i == 48) = true := beq_iff_eq.mpr hc
                have HMC := Aside0.mk mc
                go_quiet (fail)
                go_wp2
                go_meet
                case rel => exact ⟨!e1, rfl, ⟨by rw [HMC.out]; rfl⟩, ⟨HS.out.move (by first | exact below_drew1 (Below.refl _ _) | exact pw_below_drewN (Below.refl _ _) _)⟩⟩
              · have mc : (bt c i == 48) = false := beq_eq_false_iff_ne.mpr hc
                have HMC := Aside0.mk mc
                go_quiet (fail)
                go_wp2
                go_meet
                case rel => exact ⟨false, rfl, ⟨by rw [HMC.out]; rfl⟩, ⟨HS.out.move (by first | exact below_drew1 (Below.refl _ _) | exact pw_below_drewN (Below.refl _ _) _)⟩⟩
            case rest =>
              clear HS cC cO wm hp hi q1 q2 HJ hba hbb hbc hba1 hbb1 p0 pa pb pc wi hi0 hia hib hic hm m48 m49 h48 h49 k01 k02
              obtain ⟨wish, rfl, HW, HS⟩ := hcut
              obtain ⟨N, hN⟩ : ∃ N, N = r0.length := ⟨_, rfl⟩
              obtain ⟨A0, c0, hv⟩ := own_slice HS.out.o0
              rw [← hN] at hv
              subst hv
              have HN := Aside0.mk hN
              clear hN
              have cR : wc.cell? ⟨g4, 0, none⟩ = some (.slice A0 N c0) := (blk_cell HS.out.b4 0).trans rfl
              go_upto_if 54 with (fail)
              go_cut [11] (fun v11 wd => ∃ (used : Bool) (rr : List Bool) (vv : Value), v11 = .bool used ∧ Aside0 (used = sideUse r0 wish ∧ rr = sideRow r0 wish) ∧ Aside0 (StW a b c g1 g2 g3 g4 g5 B w wd e0 e1 rr r1 t0 t1 vv v1 u0 u1))
              case first =>
                rcases Nat.eq_zero_or_pos N with h0 | h0
                · subst h0
                  have HE : Aside0 (r0 = []) := ⟨List.eq_nil_of_length_eq_zero HN.out.symm⟩
                  go_wp2
                  go_meet
                  case rel => exact ⟨wish, [], _, rfl, ⟨by rw [HE.out]; exact ⟨rfl, rfl⟩⟩, by rw [HE.out] at HS; exact HS⟩
                · obtain ⟨g, hA, hcell, hrd, hcap⟩ := RowB.last HS.out.o0 HN.out h0
                  subst hA
                  have HE : Aside0 (r0 ≠ []) := ⟨fun e => by have := HN.out; rw [e] at this; simp at this; omega⟩
                  have HML : Aside0 (N ≤ 100) := ⟨by have h2 : r0.length ≤ 100 := HL0.out; have := HN.out; omega⟩
                  obtain ⟨M, hM⟩ : ∃ M, M = N - 1 := ⟨_, rfl⟩
                  have pn : (0 < (N : Int)) = True := eq_true (by omega)
                  have pn2 : decide (0 < N) = true := decide_eq_true h0
                  have pn3 : decide (0 < (N : Int)) = true := decide_eq_true (by omega)
                  have pn4 := h0
                  have wn : IntKind.i64.wrap ((N : Int) - 1) = (M : Int) := by rw [w_in _ (by omega) (by have := HML.out; omega)]; omega
                  have pm : ((M : Int) < (N : Int)) = True := eq_true (by omega)
                  have pc0 : ((M : Int) ≤ (c0 : Int)) = True := eq_true (by omega)
                  have pc1 : (M ≤ c0) = True := eq_true (by omega)
                  rw [← hM] at hrd hcell
                  have HR := Aside0.mk hrd
                  obtain ⟨L, hL⟩ : ∃ L, L = r0.getLastD false := ⟨_, rfl⟩
                  rw [← hL] at hcell
                  have HLL := Aside0.mk hL
                  clear hL
                  have cRa : ∀ o, (wc.alloc o).cell? ⟨g4, 0, none⟩ = some (.slice (some ⟨g, 0, none⟩) N c0) := fun o => pw_cell_below (below_alloc (Below.refl _ _) _) cR
                  have HM := Aside0.mk hM
                  clear hM hrd h0 hcap
                  have z4 := blk_frozen HS.out.b4 0
                  go_wp2_with ((with_reducible refine gate_builtin (b := .append) (xs := #[.tmp 65, .tmp 71]) rfl ?_); at_builtin; refine print_append_row_of (w0 := wc) Value.bool false wc.heap.size rfl (.tmp 65) (.tmp 71) 97 4 (.bool false) 1 rfl Tryd.underlying97 boolInfo rfl (by decide) (fun _ => rfl) (.slice (some ⟨wc.heap.size, 0, none⟩) 1 1) [wish] r0.dropLast (some ⟨g, 0, none⟩) M c0 rfl rfl ?aO ?aR ?aB ?aS ?aL ?_; (case aO => exact own_lit_of wc _ 4 [wish] (Nat.le_refl _) (by simp)); (case aR => exact ReadsOf.below HR.out (below_alloc (Below.refl _ _) _)); (case aB => exact below_alloc (Below.refl _ _) _); (case aS => exact (below_alloc (Below.refl wc.heap.size wc) _).size); (case aL => have := HML.out; have := HM.out; simp only [List.length_cons, List.length_nil]; omega); intro v3 w3 ho hb hg hat; obtain ⟨A3, c3, hv3⟩ := own_slice ho; obtain ⟨N3, hN3⟩ : ∃ N3, N3 = ([wish] ++ r0.dropLast).length := ⟨_, rfl⟩; rw [← hN3] at hv3; clear hN3; subst hv3; have HO3 := Aside0.mk ho; have HB3 := Aside0.mk hb; have z4 := blk_frozen (HS.out.move hb).b4 0; have c4 := (blk_cell (HS.out.move hb).b4 0); clear ho hb hg hat)
                  go_meet
                  case rel => exact ⟨L, wish :: r0.dropLast, _, rfl, ⟨by unfold sideUse sideRow; rw [if_neg HE.out, if_neg HE.out]; exact ⟨HLL.out, rfl⟩⟩, ⟨HS.out.row HB3.out HO3.out 0 (.inl ⟨rfl, rfl, rfl, rfl, rfl⟩)⟩⟩
              case rest =>
                clear cR
                clear HS
                obtain ⟨used, rr, vv, rfl, HU, HS⟩ := hcut
                have cO : wc.cell? ⟨g3, 1, none⟩ = some (.bool e1) := (blk_cell HS.out.b3 1).trans rfl
                have cM : wc.cell? ⟨g3, 0, none⟩ = some (.bool e0) := (blk_cell HS.out.b3 0).trans rfl
                have z3 := blk_frozen HS.out.b3 0
                cases used with
                | false =>
                  go_wp2
                  go_roundg g1'
                  case measure => exact Nat.lt_succ_self _
                  case rel => exact .inr (.inl ⟨rfl, ⟨by have := HK.out; omega⟩, ⟨false, e1, rr, r1⟩, vv, v1, ⟨by unfold side0; rw [if_pos HD.out]; simp only [← HW.out, ← HU.out.1, ← HU.out.2]; rfl⟩, ⟨HS.out.put 0 (false) rfl⟩⟩)
                | true =>
                  go_wp2
                  go_roundg g1'
                  case measure => exact Nat.lt_succ_self _
                  case rel => exact .inr (.inl ⟨rfl, ⟨by have := HK.out; omega⟩, ⟨!e1, e1, rr, r1⟩, vv, v1, ⟨by unfold side0; rw [if_pos HD.out]; simp only [← HW.out, ← HU.out.1, ← HU.out.2]; rfl⟩, ⟨HS.out.put 0 (!e1) rfl⟩⟩)
          · have m48 : (bt a i == 48) = false := beq_eq_false_iff_ne.mpr h48
            have HD : Aside0 (dn a i = false) := ⟨by unfold dn; rw [m48]; simp⟩
            go_wp2
            go_roundg g1'
            case measure => exact Nat.lt_succ_self _
            case rel => exact .inr (.inl ⟨rfl, ⟨by have := HK.out; omega⟩, ⟨e0, e1, r0, r1⟩, v0, v1, ⟨(if_neg (by rw [HD.out]; decide) : side0 a c i ⟨e0, e1, r0, r1⟩ = ⟨e0, e1, r0, r1⟩).symm⟩, HS⟩)
        · have m49 : (bt a j == 49) = false := beq_eq_false_iff_ne.mpr h49
          have HD : Aside0 (dn a i = false) := ⟨by unfold dn; rw [← HJ.out, m49]; simp⟩
          go_wp2
          go_roundg g1'
          case measure => exact Nat.lt_succ_self _
          case rel => exact .inr (.inl ⟨rfl, ⟨by have := HK.out; omega⟩, ⟨e0, e1, r0, r1⟩, v0, v1, ⟨(if_neg (by rw [HD.out]; decide) : side0 a c i ⟨e0, e1, r0, r1⟩ = ⟨e0, e1, r0, r1⟩).symm⟩, HS⟩)
      · have hp := eq_false hi
        have HD : Aside0 (dn a i = false) := ⟨by unfold dn; rw [decide_eq_false hi]; rfl⟩
        go_wp2
        go_roundg g1'
        case measure => exact Nat.lt_succ_self _
        case rel => exact .inr (.inl ⟨rfl, ⟨by have := HK.out; omega⟩, ⟨e0, e1, r0, r1⟩, v0, v1, ⟨(if_neg (by rw [HD.out]; decide) : side0 a c i ⟨e0, e1, r0, r1⟩ = ⟨e0, e1, r0, r1⟩).symm⟩, HS⟩)
    · cases gk with
      | zero => exact absurd HK.out (by omega)
      | succ g1' =>
      obtain ⟨e0, e1, r0, r1⟩ := S
      by_cases hi : 0 < i
      · have hp := eq_true hi
        have q0 := HJ.out
        have q1 : (0 ≤ j) = True := eq_true (by omega)
        have q2 : (j < (b.size : Int)) = True := eq_true (by omega)
        have wm : IntKind.i64.wrap (i - 1) = j := by rw [← q0]; exact w_in _ (by omega) (by omega)
        clear q0
        by_cases h49 : bt b j = 49
        · have m49 : (bt b j == 49) = true := beq_iff_eq.mpr h49
          by_cases h48 : bt b i = 48
          · have m48 : (bt b i == 48) = true := beq_iff_eq.mpr h48
            have HD : Aside0 (dn b i = true) := ⟨by unfold dn; rw [← HJ.out, m49, m48, decide_eq_true hi]; rfl⟩
            have cC : wr.cell? ⟨g2, 0, none⟩ = some (.string c) := (blk_cell HS.out.b2 0).trans rfl
            have cO : wr.cell? ⟨g3, 0, none⟩ = some (.bool e0) := (blk_cell HS.out.b3 0).trans rfl
            go_upto_region 6 with (fail)
            go_cut [11] (fun v11 wc => ∃ wish : Bool, v11 = .bool wish ∧ Aside0 (wish = ((bt c i == 49) && !e0)) ∧ Aside0 (StW a b c g1 g2 g3 g4 g5 B w wc e0 e1 r0 r1 t0 t1 v0 v1 u0 u1))
            case first =>
              by_cases hc : bt c i = 49
              · have mc : (bt c i == 49) = true := beq_iff_eq.mpr hc
                have HMC := Aside0.mk mc
                go_quiet (fail)
                go_wp2
                go_meet
                case rel => exact ⟨!e0, rfl, ⟨by rw [HMC.out]; rfl⟩, ⟨HS.out.move (by first | exact below_drew1 (Below.refl _ _) | exact pw_below_drewN (Below.refl _ _) _)⟩⟩
              · have mc : (bt c i == 49) = false := beq_eq_false_iff_ne.mpr hc
                have HMC := Aside0.mk mc
                go_quiet (fail)
                go_wp2
                go_meet
                case rel => exact ⟨false, rfl, ⟨by rw [HMC.out]; rfl⟩, ⟨HS.out.move (by first | exact below_drew1 (Below.refl _ _) | exact pw_below_drewN (Below.refl _ _) _)⟩⟩
            case rest =>
              clear HS cC cO wm hp hi q1 q2 HJ hba hbb hbc hba1 hbb1 p0 pa pb pc wi hi0 hia hib hic hm m48 m49 h48 h49 k01 k02
              obtain ⟨wish, rfl, HW, HS⟩ := hcut
              obtain ⟨N, hN⟩ : ∃ N, N = r1.length := ⟨_, rfl⟩
              obtain ⟨A0, c0, hv⟩ := own_slice HS.out.o1
              rw [← hN] at hv
              subst hv
              have HN := Aside0.mk hN
              clear hN
              have cR : wc.cell? ⟨g4, 1, none⟩ = some (.slice A0 N c0) := (blk_cell HS.out.b4 1).trans rfl
              go_upto_if 54 with (fail)
              go_cut [11] (fun v11 wd => ∃ (used : Bool) (rr : List Bool) (vv : Value), v11 = .bool used ∧ Aside0 (used = sideUse r1 wish ∧ rr = sideRow r1 wish) ∧ Aside0 (StW a b c g1 g2 g3 g4 g5 B w wd e0 e1 r0 rr t0 t1 v0 vv u0 u1))
              case first =>
                rcases Nat.eq_zero_or_pos N with h0 | h0
                · subst h0
                  have HE : Aside0 (r1 = []) := ⟨List.eq_nil_of_length_eq_zero HN.out.symm⟩
                  go_wp2
                  go_meet
                  case rel => exact ⟨wish, [], _, rfl, ⟨by rw [HE.out]; exact ⟨rfl, rfl⟩⟩, by rw [HE.out] at HS; exact HS⟩
                · obtain ⟨g, hA, hcell, hrd, hcap⟩ := RowB.last HS.out.o1 HN.out h0
                  subst hA
                  have HE : Aside0 (r1 ≠ []) := ⟨fun e => by have := HN.out; rw [e] at this; simp at this; omega⟩
                  have HML : Aside0 (N ≤ 100) := ⟨by have h1 := (side0_len a c i s).2; rw [← HX.out] at h1; have h2 : r1.length = s.r1.length := h1; have := HL1.out; have := HN.out; omega⟩
                  obtain ⟨M, hM⟩ : ∃ M, M = N - 1 := ⟨_, rfl⟩
                  have pn : (0 < (N : Int)) = True := eq_true (by omega)
                  have pn2 : decide (0 < N) = true := decide_eq_true h0
                  have pn3 : decide (0 < (N : Int)) = true := decide_eq_true (by omega)
                  have pn4 := h0
                  have wn : IntKind.i64.wrap ((N : Int) - 1) = (M : Int) := by rw [w_in _ (by omega) (by have := HML.out; omega)]; omega
                  have pm : ((M : Int) < (N : Int)) = True := eq_true (by omega)
                  have pc0 : ((M : Int) ≤ (c0 : Int)) = True := eq_true (by omega)
                  have pc1 : (M ≤ c0) = True := eq_true (by omega)
                  rw [← hM] at hrd hcell
                  have HR := Aside0.mk hrd
                  obtain ⟨L, hL⟩ : ∃ L, L = r1.getLastD false := ⟨_, rfl⟩
                  rw [← hL] at hcell
                  have HLL := Aside0.mk hL
                  clear hL
                  have cRa : ∀ o, (wc.alloc o).cell? ⟨g4, 1, none⟩ = some (.slice (some ⟨g, 0, none⟩) N c0) := fun o => pw_cell_below (below_alloc (Below.refl _ _) _) cR
                  have HM := Aside0.mk hM
                  clear hM hrd h0 hcap
                  have z4 := blk_frozen HS.out.b4 1
                  go_wp2_with ((with_reducible refine gate_builtin (b := .append) (xs := #[.tmp 65, .tmp 71]) rfl ?_); at_builtin; refine print_append_row_of (w0 := wc) Value.bool false wc.heap.size rfl (.tmp 65) (.tmp 71) 97 4 (.bool false) 1 rfl Tryd.underlying97 boolInfo rfl (by decide) (fun _ => rfl) (.slice (some ⟨wc.heap.size, 0, none⟩) 1 1) [wish] r1.dropLast (some ⟨g, 0, none⟩) M c0 rfl rfl ?aO ?aR ?aB ?aS ?aL ?_; (case aO => exact own_lit_of wc _ 4 [wish] (Nat.le_refl _) (by simp)); (case aR => exact ReadsOf.below HR.out (below_alloc (Below.refl _ _) _)); (case aB => exact below_alloc (Below.refl _ _) _); (case aS => exact (below_alloc (Below.refl wc.heap.size wc) _).size); (case aL => have := HML.out; have := HM.out; simp only [List.length_cons, List.length_nil]; omega); intro v3 w3 ho hb hg hat; obtain ⟨A3, c3, hv3⟩ := own_slice ho; obtain ⟨N3, hN3⟩ : ∃ N3, N3 = ([wish] ++ r1.dropLast).length := ⟨_, rfl⟩; rw [← hN3] at hv3; clear hN3; subst hv3; have HO3 := Aside0.mk ho; have HB3 := Aside0.mk hb; have z4 := blk_frozen (HS.out.move hb).b4 1; have c4 := (blk_cell (HS.out.move hb).b4 1); clear ho hb hg hat)
                  go_meet
                  case rel => exact ⟨L, wish :: r1.dropLast, _, rfl, ⟨by unfold sideUse sideRow; rw [if_neg HE.out, if_neg HE.out]; exact ⟨HLL.out, rfl⟩⟩, ⟨HS.out.row HB3.out HO3.out 1 (.inr ⟨rfl, rfl, rfl, rfl, rfl⟩)⟩⟩
              case rest =>
                clear cR
                clear HS
                obtain ⟨used, rr, vv, rfl, HU, HS⟩ := hcut
                have cO : wc.cell? ⟨g3, 0, none⟩ = some (.bool e0) := (blk_cell HS.out.b3 0).trans rfl
                have cM : wc.cell? ⟨g3, 1, none⟩ = some (.bool e1) := (blk_cell HS.out.b3 1).trans rfl
                have z3 := blk_frozen HS.out.b3 1
                cases used with
                | false =>
                  go_wp2
                  go_roundg g1'
                  case measure => exact Nat.lt_succ_self _
                  case rel => exact .inr (.inr ⟨rfl, ⟨by have := HK.out; omega⟩, ⟨e0, false, r0, rr⟩, v0, vv, ⟨by rw [show tick a b c i s = side1 b c i (side0 a c i s) from rfl, ← HX.out]; exact (by unfold side1; rw [if_pos HD.out]; simp only [← HW.out, ← HU.out.1, ← HU.out.2]; rfl)⟩, ⟨HS.out.put 1 (false) rfl⟩⟩)
                | true =>
                  go_wp2
                  go_roundg g1'
                  case measure => exact Nat.lt_succ_self _
                  case rel => exact .inr (.inr ⟨rfl, ⟨by have := HK.out; omega⟩, ⟨e0, !e0, r0, rr⟩, v0, vv, ⟨by rw [show tick a b c i s = side1 b c i (side0 a c i s) from rfl, ← HX.out]; exact (by unfold side1; rw [if_pos HD.out]; simp only [← HW.out, ← HU.out.1, ← HU.out.2]; rfl)⟩, ⟨HS.out.put 1 (!e0) rfl⟩⟩)
          · have m48 : (bt b i == 48) = false := beq_eq_false_iff_ne.mpr h48
            have HD : Aside0 (dn b i = false) := ⟨by unfold dn; rw [m48]; simp⟩
            go_wp2
            go_roundg g1'
            case measure => exact Nat.lt_succ_self _
            case rel => exact .inr (.inr ⟨rfl, ⟨by have := HK.out; omega⟩, ⟨e0, e1, r0, r1⟩, v0, v1, ⟨by rw [show tick a b c i s = side1 b c i (side0 a c i s) from rfl, ← HX.out]; exact ((if_neg (by rw [HD.out]; decide) : side1 b c i ⟨e0, e1, r0, r1⟩ = ⟨e0, e1, r0, r1⟩).symm)⟩, HS⟩)
        · have m49 : (bt b j == 49) = false := beq_eq_false_iff_ne.mpr h49
          have HD : Aside0 (dn b i = false) := ⟨by unfold dn; rw [← HJ.out, m49]; simp⟩
          go_wp2
          go_roundg g1'
          case measure => exact Nat.lt_succ_self _
          case rel => exact .inr (.inr ⟨rfl, ⟨by have := HK.out; omega⟩, ⟨e0, e1, r0, r1⟩, v0, v1, ⟨by rw [show tick a b c i s = side1 b c i (side0 a c i s) from rfl, ← HX.out]; exact ((if_neg (by rw [HD.out]; decide) : side1 b c i ⟨e0, e1, r0, r1⟩ = ⟨e0, e1, r0, r1⟩).symm)⟩, HS⟩)
      · have hp := eq_false hi
        have HD : Aside0 (dn b i = false) := ⟨by unfold dn; rw [decide_eq_false hi]; rfl⟩
        go_wp2
        go_roundg g1'
        case measure => exact Nat.lt_succ_self _
        case rel => exact .inr (.inr ⟨rfl, ⟨by have := HK.out; omega⟩, ⟨e0, e1, r0, r1⟩, v0, v1, ⟨by rw [show tick a b c i s = side1 b c i (side0 a c i s) from rfl, ← HX.out]; exact ((if_neg (by rw [HD.out]; decide) : side1 b c i ⟨e0, e1, r0, r1⟩ = ⟨e0, e1, r0, r1⟩).symm)⟩, HS⟩)
    · obtain ⟨e0, e1, r0, r1⟩ := S
      have cA := (blk_cell HS.out.b1 0).trans (show (#[Value.string a, .string b] : Array Value)[0]? = some (.string a) from rfl)
      have cB := (blk_cell HS.out.b1 1).trans (show (#[Value.string a, .string b] : Array Value)[1]? = some (.string b) from rfl)
      clear HJ
      go_wp2
      go_loopg [86, 8] 2 (fun kq v86 v8 w' => (v86 = .int .i64 0 ∧ v8 = .bool false ∧ Aside0 (kq = 2) ∧ ∃ u0 u1, Aside0 (StW a b c g1 g2 g3 g4 g5 B w w' e0 e1 r0 r1 t0 t1 v0 v1 u0 u1))
        ∨ (v86 = .int .i64 1 ∧ v8 = .bool ((bt a i == 49) && e0) ∧ Aside0 (kq = 1) ∧ ∃ u0 u1, Aside0 (StW a b c g1 g2 g3 g4 g5 B w w' e0 e1 r0 r1 (t0 ++ [e0]) t1 v0 v1 u0 u1))
        ∨ (v86 = .int .i64 2 ∧ v8 = .bool (lvl a b i ⟨e0, e1, r0, r1⟩) ∧ Aside0 (kq = 0) ∧ ∃ u0 u1, Aside0 (StW a b c g1 g2 g3 g4 g5 B w w' e0 e1 r0 r1 (t0 ++ [e0]) (t1 ++ [e1]) v0 v1 u0 u1)))
      case atStart => exact .inl ⟨rfl, rfl, ⟨rfl⟩, u0, u1, HS⟩
      case round =>
        clear HS cA cB HK
        rcases hrel with ⟨rfl, rfl, HK, u0, u1, HS⟩ | ⟨rfl, rfl, HK, u0, u1, HS⟩ | ⟨rfl, rfl, HK, u0, u1, HS⟩
        · cases gk with
          | zero => exact absurd HK.out (by omega)
          | succ g1' =>
          obtain ⟨N, hN⟩ : ∃ N, N = t0.length := ⟨_, rfl⟩
          obtain ⟨A0, c0, hv⟩ := own_slice HS.out.p0
          rw [← hN] at hv
          subst hv
          clear hN
          have cT : wr.cell? ⟨g5, 0, none⟩ = some (.slice A0 N c0) := (blk_cell HS.out.b5 0).trans rfl
          have cTa : ∀ o, (wr.alloc o).cell? ⟨g5, 0, none⟩ = some (.slice A0 N c0) := fun o => pw_cell_below (below_alloc (Below.refl _ _) _) cT
          have cTb : ∀ o, (wr.alloc o).drew.cell? ⟨g5, 0, none⟩ = some (.slice A0 N c0) := fun o => pw_cell_below (below_alloc (Below.refl _ _) _) cT
          have cE0 : wr.cell? ⟨g3, 0, none⟩ = some (.bool e0) := (blk_cell HS.out.b3 0).trans rfl
          by_cases h49 : bt a i = 49
          · have m49 : (bt a i == 49) = true := beq_iff_eq.mpr h49
            have HM := Aside0.mk m49
            go_wp2
            go_region_law (refine step_append_own rfl (.tmp 93) (.tmp 97) 97 rfl 4 (.bool false) 1 Tryd.underlying97 boolInfo rfl (by decide) B (.slice A0 N c0) t0.length (encs Value.bool t0) (by simp [Act.eval, Act.put]) ⟨wr.heap.size, 0, none⟩ 1 (.bool e0) (by simp [Act.eval, Act.put]) ((blk_cell (blk_new wr.drew (.cells #[.bool e0] 4)) 0).trans (rfl : (#[Value.bool e0] : Array Value)[0]? = some (.bool e0))) rfl (HS.out.drew.alloc (.cells #[.bool e0] 4)).p0 (HS.out.drew.alloc (.cells #[.bool e0] 4)).hB (by have := HT0.out; omega) ?_; intro v3 w3 ho hg hat; obtain ⟨A3, c3, hv3⟩ := own_slice ho; subst hv3; have HT := Aside0.mk ((HS.out.drew.alloc (.cells #[.bool e0] 4)).trace0 hg (snocB ho) hat); have z5 := blk_frozen (blk_grown (HS.out.drew.alloc (.cells #[.bool e0] 4)).b5 hg (own_ne (HS.out.drew.alloc (.cells #[.bool e0] 4)).p0 (HS.out.drew.alloc (.cells #[.bool e0] 4)).b5 (by decide))) 0; have c5 := blk_cell (blk_grown (HS.out.drew.alloc (.cells #[.bool e0] 4)).b5 hg (own_ne (HS.out.drew.alloc (.cells #[.bool e0] 4)).p0 (HS.out.drew.alloc (.cells #[.bool e0] 4)).b5 (by decide))) 0; have cE := (blk_cell HT.out.b3 0).trans (rfl : (#[Value.bool e0, .bool e1] : Array Value)[0]? = some (.bool e0)); clear ho hg hat)
            all_goals
              (try simp only [List.getElem_toArray, List.getElem_cons_succ, List.getElem_cons_zero])
              (try simp only [Act.put, List.setIfInBounds_toArray, List.set_cons_zero, List.set_cons_succ])
              go_wp2
              go_roundg g1'
              case measure => exact Nat.lt_succ_self _
              case rel => exact .inr (.inl ⟨rfl, by rw [HM.out]; rfl, ⟨by have := HK.out; omega⟩, _, u1, HT⟩)
          · have m49 : (bt a i == 49) = false := beq_eq_false_iff_ne.mpr h49
            have HM := Aside0.mk m49
            go_wp2
            go_region_law (refine step_append_own rfl (.tmp 93) (.tmp 97) 97 rfl 4 (.bool false) 1 Tryd.underlying97 boolInfo rfl (by decide) B (.slice A0 N c0) t0.length (encs Value.bool t0) (by simp [Act.eval, Act.put]) ⟨wr.heap.size, 0, none⟩ 1 (.bool e0) (by simp [Act.eval, Act.put]) ((blk_cell (blk_new wr.drew (.cells #[.bool e0] 4)) 0).trans (rfl : (#[Value.bool e0] : Array Value)[0]? = some (.bool e0))) rfl (HS.out.drew.alloc (.cells #[.bool e0] 4)).p0 (HS.out.drew.alloc (.cells #[.bool e0] 4)).hB (by have := HT0.out; omega) ?_; intro v3 w3 ho hg hat; obtain ⟨A3, c3, hv3⟩ := own_slice ho; subst hv3; have HT := Aside0.mk ((HS.out.drew.alloc (.cells #[.bool e0] 4)).trace0 hg (snocB ho) hat); have z5 := blk_frozen (blk_grown (HS.out.drew.alloc (.cells #[.bool e0] 4)).b5 hg (own_ne (HS.out.drew.alloc (.cells #[.bool e0] 4)).p0 (HS.out.drew.alloc (.cells #[.bool e0] 4)).b5 (by decide))) 0; have c5 := blk_cell (blk_grown (HS.out.drew.alloc (.cells #[.bool e0] 4)).b5 hg (own_ne (HS.out.drew.alloc (.cells #[.bool e0] 4)).p0 (HS.out.drew.alloc (.cells #[.bool e0] 4)).b5 (by decide))) 0; have cE := (blk_cell HT.out.b3 0).trans (rfl : (#[Value.bool e0, .bool e1] : Array Value)[0]? = some (.bool e0)); clear ho hg hat)
            all_goals
              (try simp only [List.getElem_toArray, List.getElem_cons_succ, List.getElem_cons_zero])
              (try simp only [Act.put, List.setIfInBounds_toArray, List.set_cons_zero, List.set_cons_succ])
              go_wp2
              go_roundg g1'
              case measure => exact Nat.lt_succ_self _
              case rel => exact .inr (.inl ⟨rfl, by rw [HM.out]; rfl, ⟨by have := HK.out; omega⟩, _, u1, HT⟩)
        · cases gk with
          | zero => exact absurd HK.out (by omega)
          | succ g1' =>
          obtain ⟨N, hN⟩ : ∃ N, N = t1.length := ⟨_, rfl⟩
          obtain ⟨A0, c0, hv⟩ := own_slice HS.out.p1
          rw [← hN] at hv
          subst hv
          clear hN
          have cT : wr.cell? ⟨g5, 1, none⟩ = some (.slice A0 N c0) := (blk_cell HS.out.b5 1).trans rfl
          have cTa : ∀ o, (wr.alloc o).cell? ⟨g5, 1, none⟩ = some (.slice A0 N c0) := fun o => pw_cell_below (below_alloc (Below.refl _ _) _) cT
          have cTb : ∀ o, (wr.alloc o).drew.cell? ⟨g5, 1, none⟩ = some (.slice A0 N c0) := fun o => pw_cell_below (below_alloc (Below.refl _ _) _) cT
          have cE0 : wr.cell? ⟨g3, 1, none⟩ = some (.bool e1) := (blk_cell HS.out.b3 1).trans rfl
          obtain ⟨L, hL⟩ : ∃ L, L = ((bt a i == 49) && e0) := ⟨_, rfl⟩
          rw [← hL]
          have HLv := Aside0.mk hL
          clear hL
          cases L with
          | true =>
            go_wp2
            go_region_law (refine step_append_own rfl (.tmp 93) (.tmp 97) 97 rfl 4 (.bool false) 1 Tryd.underlying97 boolInfo rfl (by decide) B (.slice A0 N c0) t1.length (encs Value.bool t1) (by simp [Act.eval, Act.put]) ⟨wr.heap.size, 0, none⟩ 1 (.bool e1) (by simp [Act.eval, Act.put]) ((blk_cell (blk_new wr.drew (.cells #[.bool e1] 4)) 0).trans (rfl : (#[Value.bool e1] : Array Value)[0]? = some (.bool e1))) rfl (HS.out.drew.alloc (.cells #[.bool e1] 4)).p1 (HS.out.drew.alloc (.cells #[.bool e1] 4)).hB (by have := HT1.out; omega) ?_; intro v3 w3 ho hg hat; obtain ⟨A3, c3, hv3⟩ := own_slice ho; subst hv3; have HT := Aside0.mk ((HS.out.drew.alloc (.cells #[.bool e1] 4)).trace1 hg (snocB ho) hat); have z5 := blk_frozen (blk_grown (HS.out.drew.alloc (.cells #[.bool e1] 4)).b5 hg (own_ne (HS.out.drew.alloc (.cells #[.bool e1] 4)).p1 (HS.out.drew.alloc (.cells #[.bool e1] 4)).b5 (by decide))) 1; have c5 := blk_cell (blk_grown (HS.out.drew.alloc (.cells #[.bool e1] 4)).b5 hg (own_ne (HS.out.drew.alloc (.cells #[.bool e1] 4)).p1 (HS.out.drew.alloc (.cells #[.bool e1] 4)).b5 (by decide))) 1; have cE := (blk_cell HT.out.b3 1).trans (rfl : (#[Value.bool e0, .bool e1] : Array Value)[1]? = some (.bool e1)); clear ho hg hat)
            all_goals
              (try simp only [List.getElem_toArray, List.getElem_cons_succ, List.getElem_cons_zero])
              (try simp only [Act.put, List.setIfInBounds_toArray, List.set_cons_zero, List.set_cons_succ])
              go_wp2
              go_roundg g1'
              case measure => exact Nat.lt_succ_self _
              case rel => exact .inr (.inr ⟨rfl, by unfold lvl; rw [← HLv.out]; rfl, ⟨by have := HK.out; omega⟩, u0, _, HT⟩)
          | false =>
            by_cases h49 : bt b i = 49
            · have m49 : (bt b i == 49) = true := beq_iff_eq.mpr h49
              have HM := Aside0.mk m49
              go_wp2
              go_region_law (refine step_append_own rfl (.tmp 93) (.tmp 97) 97 rfl 4 (.bool false) 1 Tryd.underlying97 boolInfo rfl (by decide) B (.slice A0 N c0) t1.length (encs Value.bool t1) (by simp [Act.eval, Act.put]) ⟨wr.heap.size, 0, none⟩ 1 (.bool e1) (by simp [Act.eval, Act.put]) ((blk_cell (blk_new wr.drew (.cells #[.bool e1] 4)) 0).trans (rfl : (#[Value.bool e1] : Array Value)[0]? = some (.bool e1))) rfl (HS.out.drew.alloc (.cells #[.bool e1] 4)).p1 (HS.out.drew.alloc (.cells #[.bool e1] 4)).hB (by have := HT1.out; omega) ?_; intro v3 w3 ho hg hat; obtain ⟨A3, c3, hv3⟩ := own_slice ho; subst hv3; have HT := Aside0.mk ((HS.out.drew.alloc (.cells #[.bool e1] 4)).trace1 hg (snocB ho) hat); have z5 := blk_frozen (blk_grown (HS.out.drew.alloc (.cells #[.bool e1] 4)).b5 hg (own_ne (HS.out.drew.alloc (.cells #[.bool e1] 4)).p1 (HS.out.drew.alloc (.cells #[.bool e1] 4)).b5 (by decide))) 1; have c5 := blk_cell (blk_grown (HS.out.drew.alloc (.cells #[.bool e1] 4)).b5 hg (own_ne (HS.out.drew.alloc (.cells #[.bool e1] 4)).p1 (HS.out.drew.alloc (.cells #[.bool e1] 4)).b5 (by decide))) 1; have cE := (blk_cell HT.out.b3 1).trans (rfl : (#[Value.bool e0, .bool e1] : Array Value)[1]? = some (.bool e1)); clear ho hg hat)
              all_goals
                (try simp only [List.getElem_toArray, List.getElem_cons_succ, List.getElem_cons_zero])
                (try simp only [Act.put, List.setIfInBounds_toArray, List.set_cons_zero, List.set_cons_succ])
                go_wp2
                go_roundg g1'
                case measure => exact Nat.lt_succ_self _
                case rel => exact .inr (.inr ⟨rfl, by unfold lvl; rw [← HLv.out, HM.out]; rfl, ⟨by have := HK.out; omega⟩, u0, _, HT⟩)
            · have m49 : (bt b i == 49) = false := beq_eq_false_iff_ne.mpr h49
              have HM := Aside0.mk m49
              go_wp2
              go_region_law (refine step_append_own rfl (.tmp 93) (.tmp 97) 97 rfl 4 (.bool false) 1 Tryd.underlying97 boolInfo rfl (by decide) B (.slice A0 N c0) t1.length (encs Value.bool t1) (by simp [Act.eval, Act.put]) ⟨wr.heap.size, 0, none⟩ 1 (.bool e1) (by simp [Act.eval, Act.put]) ((blk_cell (blk_new wr.drew (.cells #[.bool e1] 4)) 0).trans (rfl : (#[Value.bool e1] : Array Value)[0]? = some (.bool e1))) rfl (HS.out.drew.alloc (.cells #[.bool e1] 4)).p1 (HS.out.drew.alloc (.cells #[.bool e1] 4)).hB (by have := HT1.out; omega) ?_; intro v3 w3 ho hg hat; obtain ⟨A3, c3, hv3⟩ := own_slice ho; subst hv3; have HT := Aside0.mk ((HS.out.drew.alloc (.cells #[.bool e1] 4)).trace1 hg (snocB ho) hat); have z5 := blk_frozen (blk_grown (HS.out.drew.alloc (.cells #[.bool e1] 4)).b5 hg (own_ne (HS.out.drew.alloc (.cells #[.bool e1] 4)).p1 (HS.out.drew.alloc (.cells #[.bool e1] 4)).b5 (by decide))) 1; have c5 := blk_cell (blk_grown (HS.out.drew.alloc (.cells #[.bool e1] 4)).b5 hg (own_ne (HS.out.drew.alloc (.cells #[.bool e1] 4)).p1 (HS.out.drew.alloc (.cells #[.bool e1] 4)).b5 (by decide))) 1; have cE := (blk_cell HT.out.b3 1).trans (rfl : (#[Value.bool e0, .bool e1] : Array Value)[1]? = some (.bool e1)); clear ho hg hat)
              all_goals
                (try simp only [List.getElem_toArray, List.getElem_cons_succ, List.getElem_cons_zero])
                (try simp only [Act.put, List.setIfInBounds_toArray, List.set_cons_zero, List.set_cons_succ])
                go_wp2
                go_roundg g1'
                case measure => exact Nat.lt_succ_self _
                case rel => exact .inr (.inr ⟨rfl, by unfold lvl; rw [← HLv.out, HM.out]; rfl, ⟨by have := HK.out; omega⟩, u0, _, HT⟩)
        · go_wp2
          go_ret
          rw [← HX.out]
          exact ⟨rfl, _, _, _, _, HS.out⟩
end Go.Proofs.YthkpnbelbaljdaaDoor.X
/- The library's Repeat of a list of one number. Conditions: a small count. -/
namespace Go.Proofs.YthkpnbelbaljdaaDoor.X
open Go.RowKit Go.Proofs.YthkpnbelbaljdaaDoorW.PrintWords Go.Proofs.YthkpnbelbaljdaaDoorW.PrintLast Go.Proofs.YthkpnbelbaljdaaDoorW.PrintMore
set_option linter.unusedVariables false
set_option linter.unusedSimpArgs false
/-- A row of which n cells have been written. -/
def fillRow (V Z : Value) (n m : Nat) : List Value := List.replicate n V ++ List.replicate (m - n) Z
theorem fillRow_len (V Z : Value) (n m : Nat) (h : n ≤ m) : (fillRow V Z n m).length = m := by simp [fillRow]; omega
theorem fillRow_splice (V Z : Value) (n m j : Nat) (h : n + j ≤ m) : splice (fillRow V Z n m) n (List.replicate j V) = fillRow V Z (n + j) m := by
  unfold splice fillRow
  rw [List.take_left' (by simp), List.drop_append, List.drop_eq_nil_of_le (by simp)]
  simp only [List.length_replicate, List.nil_append, List.drop_replicate]
  rw [← List.append_assoc, List.replicate_append_replicate]
  congr 2
  omega
theorem fillRow_get (V Z : Value) (n m j : Nat) (h : j < n) : (fillRow V Z n m)[j]? = some V := by
  unfold fillRow
  rw [List.getElem?_append_left (by simpa using h)]
  simp [h]
theorem fill_cell {w : World} {g e : Nat} {V Z : Value} {n m : Nat} (hb : w.heap[g]? = some (.cells (fillRow V Z n m).toArray e (0, 0))) (j : Nat) (h : j < n) : w.cell? ⟨g, j, none⟩ = some V := by
  rw [blk_cell hb j]
  simpa using fillRow_get V Z n m j h
theorem made_fill (Z : Value) (m : Nat) : (madeCells #[Z] m) = (fillRow Z Z 0 m).toArray := by
  apply Array.ext
  · simp [madeCells, fillRow]
  · intro i h1 h2
    simp [madeCells, fillRow, Nat.mod_one]
theorem one_rep (ad : Addr) (x : Value) (m : Nat) (w : World) (h : w.cell? ad = some x) : ∀ j v, (List.replicate (min 1 m) x)[j]? = some v → w.cell? (ad.add j) = some v := by
  intro j v hv
  rw [List.getElem?_replicate] at hv
  split at hv
  · obtain rfl : j = 0 := by omega
    obtain rfl := Option.some.inj hv
    simpa [Addr.add] using h
  · cases hv
set_option maxHeartbeats 4000000 in
set_option maxRecDepth 100000 in
theorem rep_walk (ad : Addr) (c0 : Nat) (x : Bool) (m : Nat) (hm : m ≤ 1000) (w : World) (hr : w.cell? ad = some (.bool x)) :
    Calls Tryd.prog 89 #[.slice (some ad) 1 c0, .int .i64 (m : Int)] w fun e w' => ∃ g, e = .returned (.slice (some ⟨g, 0, none⟩) m m) ∧ w'.heap[g]? = some (.cells (fillRow (.bool x) (.bool false) m m).toArray 4 (0, 0)) ∧ w.heap.size ≤ g ∧ Below w.heap.size w w' := by
  have hmul : ∀ W : World, Calls Tryd.prog 110 #[.int .u64 1, .int .u64 (m : Int)] W fun e w' => e = .returned (.tuple #[.int .u64 0, .int .u64 (m : Int)]) ∧ W = w' := by
    intro W
    refine (Tryd.bits_Mul 1 m (by omega) (by omega) W).mono fun e w' ⟨he, hw⟩ => ⟨?_, hw.symm⟩
    rw [he, Nat.one_mul, Nat.div_eq_of_lt (by omega), Nat.mod_eq_of_lt (by omega)]
    rfl
  have HM := Aside0.mk hmul
  have u0 : IntKind.u64.wrap (m : Int) = m := IntWalk.u64_in _ ⟨by omega, by omega⟩
  have u1 : IntKind.i64.wrap (m : Int) = m := IntWalk.i64_in _ ⟨by omega, by omega⟩
  have mk : ∀ W : World, (Instr.makeSlice 97 (.int .i64 (m : Int)) (.int .i64 (m : Int))).run Tryd.prog W = .ok (.slice (some ⟨W.heap.size, 0, none⟩) m m) (W.alloc (.cells (fillRow (.bool x) (.bool false) 0 m).toArray 4)) := by
    intro W
    rw [print_make_of (P := Tryd.prog) 97 4 (.bool false) 1 Tryd.underlying97 boolInfo rfl (by omega) m (by omega) W, made_fill]
    rfl
  have ng : ¬ (9223372036854775807 : Int) < (m : Int) := by omega
  have HR := Aside0.mk (one_rep ad (.bool x) m (w.alloc (.cells (fillRow (.bool x) (.bool false) 0 m).toArray 4)) (pw_cell_below (below_alloc (Below.refl _ _) _) hr))
  clear hmul hr
  have HB := Aside0.mk (Below.refl w.heap.size w)
  obtain ⟨R0, hR0⟩ : ∃ R0, R0 = fillRow (.bool x) (.bool false) 0 m := ⟨_, rfl⟩
  obtain ⟨C0, hC0⟩ : ∃ C0, C0 = List.replicate (min 1 m) (Value.bool x) := ⟨_, rfl⟩
  have hL0 : C0.length = min 1 m := by rw [hC0]; simp
  rw [← hR0] at mk HR
  rw [← hC0] at HR
  have HR0 := Aside0.mk hR0
  have HC0 := Aside0.mk hC0
  have HL0 := Aside0.mk hL0
  clear hR0 hC0 hL0
  go_enter Tryd.func89, Tryd.ntmps89
  go_wp2_with (first
    | (go_at_call 110; (with_reducible refine (HM.out _).mono ?_); rintro e wn ⟨rfl, rfl⟩)
    | (refine wpList_copy_splice (o := ⟨some 33, _, _, _, _, _⟩) rfl (.tmp 31) (.tmp 32) 97 97 rfl 4 Tryd.underlying97 (by kernel_rfl) _ _ m m 1 c0 rfl rfl w.heap.size 0 R0 4 ?c1 C0 ?c2 ?c3 ?c4 ?c5 w.heap.size w ?c6 (Nat.le_refl _) ?_))
  case c1 => exact blk_new w _
  case c2 => exact HL0.out
  case c3 => exact fun _ => HR.out
  case c4 => rw [HR0.out, fillRow_len _ _ _ _ (Nat.zero_le _), HL0.out]; omega
  case c5 => rw [HC0.out]; intro v hv; rw [(List.mem_replicate.1 hv).2]; rfl
  case c6 => exact below_alloc (Below.refl _ _) _
  intro w2 hg2 hb2
  have HG : Aside0 (w2.heap[w.heap.size]? = some (.cells (fillRow (.bool x) (.bool false) (min 1 m) m).toArray 4 (0, 0))) := ⟨by
    have h := hg2.out
    rw [HR0.out, HC0.out, fillRow_splice _ _ _ _ _ (by omega), Nat.zero_add] at h
    exact h⟩
  have HB2 := Aside0.mk hb2
  have hl0 : C0.length = min 1 m := HL0.out
  rw [hl0]
  clear hg2 hb2 HB HR HR0 HC0 HL0 hl0
  go_wp2
  go_loopw [8] (fun v8 wr => ∃ n : Nat, v8 = .int .i64 (n : Int) ∧ n ≤ m ∧ (0 < m → 0 < n) ∧ Aside0 (wr.heap[w.heap.size]? = some (.cells (fillRow (.bool x) (.bool false) n m).toArray 4 (0, 0))) ∧ Aside0 (Below w.heap.size w wr)) (fun v8 _ => m - (intOf v8).toNat)
  case atStart => exact ⟨min 1 m, rfl, by omega, by omega, HG, HB2⟩
  case round =>
    clear HG HB2
    obtain ⟨n, rfl, hn, hn0, HG, HB⟩ := hrel
    by_cases hlt : n < m
    · have h0 : 0 < n := hn0 (by omega)
      clear hn0 hn
      have hmn : ¬ m = n := by omega
      have hnm : ¬ n = m := by omega
      have hle : n ≤ m := by omega
      obtain ⟨C1, hC1⟩ : ∃ C1, C1 = List.replicate (min n (m - n)) (Value.bool x) := ⟨_, rfl⟩
      have hL1 : C1.length = min n (m - n) := by rw [hC1]; simp
      have HC1 := Aside0.mk hC1
      have HL1 := Aside0.mk hL1
      have HS1 : Aside0 (∀ j v, C1[j]? = some v → wr.drew.cell? ((⟨w.heap.size, 0, none⟩ : Addr).add j) = some v) := ⟨by
        intro j v hv
        rw [hC1, List.getElem?_replicate] at hv
        split at hv
        · obtain rfl := Option.some.inj hv
          rw [add_plain]
          exact fill_cell HG.out j (by omega)
        · cases hv⟩
      clear hC1 hL1
      have sm : IntKind.i64.wrap ((n : Int) + ((min n (m - n) : Nat) : Int)) = ((n + min n (m - n) : Nat) : Int) := by rw [IntWalk.i64_in _ ⟨by omega, by omega⟩]; omega
      go_wp2
      go_region_law (refine step_copy_splice rfl (.tmp 41) (.tmp 44) 97 97 rfl 4 Tryd.underlying97 (by kernel_rfl) (some ⟨w.heap.size, n, none⟩) (some ⟨w.heap.size, 0, none⟩) (m - n) (m - n) n m (by simp [Act.eval, Act.put]) (by simp [Act.eval, Act.put]) w.heap.size n (fillRow (.bool x) (.bool false) n m) 4 HG.out C1 HL1.out (fun _ => ⟨rfl, _, rfl, HS1.out⟩) (by rw [fillRow_len _ _ _ _ (by omega), HL1.out]; omega) (by rw [HC1.out]; intro v hv; rw [(List.mem_replicate.1 hv).2]; rfl) w.heap.size w (below_drew1 HB.out) (Nat.le_refl _) ?_; intro w4 hg4 hb4; have HG4 := Aside0.mk hg4.out; have HB4 := Aside0.mk hb4; clear hg4 hb4; rw [HL1.out])
      all_goals
        have HN : Aside0 (w4.heap[w.heap.size]? = some (.cells (fillRow (.bool x) (.bool false) (n + min n (m - n)) m).toArray 4 (0, 0))) := ⟨by
          have h := HG4.out
          rw [HC1.out, fillRow_splice _ _ _ _ _ (by omega)] at h
          exact h⟩
        clear HG4 HC1 HL1 HS1 HG HB
        simp only [List.getElem_toArray, List.getElem_cons_succ, List.getElem_cons_zero]
        simp only [Act.put, List.setIfInBounds_toArray, List.set_cons_zero, List.set_cons_succ]
        go_wp2
        go_roundw
        case rel => exact ⟨n + min n (m - n), by first | rfl | (rw [sm]) | go_num, by omega, by omega, HN, HB4⟩
        case measure => simp [intOf]; omega
    · obtain rfl : n = m := by omega
      go_wp2
      go_ret
      exact ⟨_, rfl, HG.out, Nat.le_refl _, HB.out⟩
theorem rep_row (ad : Addr) (c0 : Nat) (x : Bool) (m : Nat) (hm : m ≤ 1000) (w : World) (hr : w.cell? ad = some (.bool x)) :
    Calls Tryd.prog 89 #[.slice (some ad) 1 c0, .int .i64 (m : Int)] w fun e w' => ∃ v, e = .returned v ∧ RowB w.heap.size w' v (List.replicate m x) ∧ Below w.heap.size w w' := by
  refine (rep_walk ad c0 x m hm w hr).mono fun e w' ⟨g, he, hg, hb, hw⟩ => ⟨_, he, ?_, hw⟩
  have e1 : fillRow (.bool x) (.bool false) m m = encs Value.bool (List.replicate m x) := by simp [fillRow, encs]
  rw [e1] at hg
  refine ⟨by simp [encs], .inr ⟨g, m, (encs Value.bool (List.replicate m x)).toArray, by rw [List.length_replicate], hb, hg, ?_⟩⟩
  simp [encs, maxLen]
  omega
end Go.Proofs.YthkpnbelbaljdaaDoor.X
/- The program's runSwitch: what it answers. Conditions: as the lemma says. -/
namespace Go.Proofs.YthkpnbelbaljdaaDoor.X
open Go.RowKit Go.Proofs.YthkpnbelbaljdaaDoorW.PrintWords Go.Proofs.YthkpnbelbaljdaaDoorW.PrintLast Go.Proofs.YthkpnbelbaljdaaDoorW.PrintMore
set_option linter.unusedVariables false
set_option linter.unusedSimpArgs false
/-- The states that a switch runs through, and what it tells. -/
def swAt (a b c : ByteArray) (s : SW) : Nat → SW
  | 0 => s
  | n + 1 => tick a b c (n : Int) (swAt a b c s n)
def tr0 (a b c : ByteArray) (s : SW) (n : Nat) : List Bool := (List.range n).map fun k => (swAt a b c s (k + 1)).e0
def tr1 (a b c : ByteArray) (s : SW) (n : Nat) : List Bool := (List.range n).map fun k => (swAt a b c s (k + 1)).e1
def sw0 (st fi : Int) : SW := ⟨fi == 0, fi == 1, List.replicate st.toNat (fi == 0), List.replicate st.toNat (fi == 1)⟩
theorem tr0_len (a b c : ByteArray) (s : SW) (n : Nat) : (tr0 a b c s n).length = n := by simp [tr0]
theorem tr1_len (a b c : ByteArray) (s : SW) (n : Nat) : (tr1 a b c s n).length = n := by simp [tr1]
theorem tr0_succ (a b c : ByteArray) (s : SW) (n : Nat) : tr0 a b c s (n + 1) = tr0 a b c s n ++ [(swAt a b c s (n + 1)).e0] := by simp [tr0, List.range_succ]
theorem tr1_succ (a b c : ByteArray) (s : SW) (n : Nat) : tr1 a b c s (n + 1) = tr1 a b c s n ++ [(swAt a b c s (n + 1)).e1] := by simp [tr1, List.range_succ]
theorem swAt_len (a b c : ByteArray) (s : SW) : ∀ n, (swAt a b c s n).r0.length = s.r0.length ∧ (swAt a b c s n).r1.length = s.r1.length
  | 0 => ⟨rfl, rfl⟩
  | n + 1 => by
    have h1 := tick_len a b c (n : Int) (swAt a b c s n)
    have h2 := swAt_len a b c s n
    exact ⟨h1.1.trans h2.1, h1.2.trans h2.2⟩
/-- What lies in memory behind so many ticks. -/
def RunI (a b c : ByteArray) (s : SW) (g1 g2 g3 g4 g5 B : Nat) (n : Nat) (w : World) : Prop :=
  ∃ v0 v1 u0 u1, StW a b c g1 g2 g3 g4 g5 B w w (swAt a b c s n).e0 (swAt a b c s n).e1 (swAt a b c s n).r0 (swAt a b c s n).r1 (tr0 a b c s n) (tr1 a b c s n) v0 v1 u0 u1
theorem StW.stable {a b c : ByteArray} {g1 g2 g3 g4 g5 B : Nat} {e0 e1 : Bool} {r0 r1 t0 t1 : List Bool} {v0 v1 u0 u1 : Value} {wa wb : World} (h : StW a b c g1 g2 g3 g4 g5 B wa wa e0 e1 r0 r1 t0 t1 v0 v1 u0 u1) (hk : ButT 5 wa wb) :
    StW a b c g1 g2 g3 g4 g5 B wb wb e0 e1 r0 r1 t0 t1 v0 v1 u0 u1 := by
  have mv : ∀ {v : Value} {r : List Bool}, RowB B wa v r → RowB B wb v r := fun {v r} h => own_move h (fun k hk' => by
    obtain ⟨cs, hc⟩ := own_typed h k hk'
    rw [hk.2 k _ hc (fun cs' fr e => by injection e with _ e; exact absurd e (by decide)), hc])
  exact { h with
    b1 := hk.2 _ _ h.b1 (fun cs' fr e => by injection e with _ e; exact absurd e (by decide)), b2 := hk.2 _ _ h.b2 (fun cs' fr e => by injection e with _ e; exact absurd e (by decide))
    b3 := hk.2 _ _ h.b3 (fun cs' fr e => by injection e with _ e; exact absurd e (by decide)), b4 := hk.2 _ _ h.b4 (fun cs' fr e => by injection e with _ e; exact absurd e (by decide))
    b5 := hk.2 _ _ h.b5 (fun cs' fr e => by injection e with _ e; exact absurd e (by decide))
    o0 := mv h.o0, o1 := mv h.o1, p0 := mv h.p0, p1 := mv h.p1
    hB := Nat.le_trans h.hB hk.1, fb := Below.refl _ _, fk := KeepT.refl _ _ }
theorem RunI.stable (a b c : ByteArray) (s : SW) (g1 g2 g3 g4 g5 B : Nat) : Stable2 (RunI a b c s g1 g2 g3 g4 g5 B) := fun i wa wb ⟨v0, v1, u0, u1, h⟩ hk => ⟨v0, v1, u0, u1, h.stable hk⟩
theorem RunI.stable_at (a b c : ByteArray) (s : SW) (g1 g2 g3 g4 g5 B n : Nat) : Stable2 (fun _ W => RunI a b c s g1 g2 g3 g4 g5 B n W) := fun i wa wb ⟨v0, v1, u0, u1, h⟩ hk => ⟨v0, v1, u0, u1, h.stable hk⟩
theorem RunI.clo (a b c : ByteArray) (s : SW) (g1 g2 g3 g4 g5 B n : Nat) (hn : n ≤ 1000000) (ha : a.size = n) (hb : b.size = n) (hc : c.size = n) (h0 : s.r0.length ≤ 100) (h1 : s.r1.length ≤ 100) :
    Clo2 90 #[.pointer (some ⟨g1, 0, none⟩), .pointer (some ⟨g2, 0, none⟩), .pointer (some ⟨g3, 0, none⟩), .pointer (some ⟨g4, 0, none⟩), .pointer (some ⟨g5, 0, none⟩)]
      (fun i => lvl a b i (swAt a b c s (i + 1))) (RunI a b c s g1 g2 g3 g4 g5 B) B n := by
  intro i hi wr ⟨v0, v1, u0, u1, h⟩ hB
  have hl := swAt_len a b c s i
  refine (RunClo a b c i (swAt a b c s i) _ _ g1 g2 g3 g4 g5 B v0 v1 u0 u1 wr h (by omega) (by omega) (by omega) (by omega) (by omega) (by omega) (by omega) (by rw [tr0_len]; omega) (by rw [tr1_len]; omega)).mono ?_
  rintro e w' ⟨rfl, v0', v1', u0', u1', h'⟩
  refine ⟨rfl, ⟨v0', v1', u0', u1', ?_⟩, h'.fb, h'.fk⟩
  rw [tr0_succ, tr1_succ]
  exact h'.from
theorem RowB.get {B : Nat} {w : World} {v : Value} {r : List Bool} (h : RowB B w v r) {i : Nat} (hi : i < r.length) : ∃ g c, v = .slice (some ⟨g, 0, none⟩) r.length c ∧ w.cell? ⟨g, i, none⟩ = some (.bool (r.getD i false)) := by
  have h' : w.ownsRow B 4 1 v r.length (encs Value.bool r) := h
  obtain ⟨g, cap, rfl, _, _⟩ := World.ownsRow.form h' (by omega)
  refine ⟨g, cap, rfl, ?_⟩
  have := h'.cells (g := g) rfl i _ (encs_get (d := false) r i hi)
  rwa [add_plain] at this
set_option maxHeartbeats 4000000 in
set_option maxRecDepth 100000 in
theorem TraceClo0 (a b c : ByteArray) (s : SW) (g1 g2 g3 g4 g5 B n : Nat) (i : Nat) (hi : i < n) (hn : n ≤ 1000000) (w : World) (h : RunI a b c s g1 g2 g3 g4 g5 B n w) :
    Calls Tryd.prog 91 #[.int .i64 i, .pointer (some ⟨g5, 0, none⟩)] w fun e w' => e = .returned (.bool (swAt a b c s (i + 1)).e0) ∧ w' = w := by
  obtain ⟨v0, v1, u0, u1, h⟩ := h
  obtain ⟨g, cc, hv, hc⟩ := RowB.get h.p0 (i := i) (by rw [tr0_len]; exact hi)
  rw [tr0_len] at hv
  have hx : (tr0 a b c s n).getD i false = (swAt a b c s (i + 1)).e0 := by
    unfold tr0
    rw [List.getD_eq_getElem?_getD, List.getElem?_map, List.getElem?_range hi]
    rfl
  rw [hx] at hc
  have c5 := (blk_cell h.b5 0).trans (show (#[u0, u1] : Array Value)[0]? = some u0 from rfl)
  rw [hv] at c5
  have ci := hc
  have p1 : ((i : Int) < (n : Int)) = True := eq_true (by omega)
  clear h hv hx hc
  generalize (swAt a b c s (i + 1)).e0 = x at *
  go_enter Tryd.func91, Tryd.ntmps91
  go_wp2
  go_ret
  exact ⟨rfl, rfl⟩
set_option maxHeartbeats 4000000 in
set_option maxRecDepth 100000 in
theorem TraceClo1 (a b c : ByteArray) (s : SW) (g1 g2 g3 g4 g5 B n : Nat) (i : Nat) (hi : i < n) (hn : n ≤ 1000000) (w : World) (h : RunI a b c s g1 g2 g3 g4 g5 B n w) :
    Calls Tryd.prog 92 #[.int .i64 i, .pointer (some ⟨g5, 0, none⟩)] w fun e w' => e = .returned (.bool (swAt a b c s (i + 1)).e1) ∧ w' = w := by
  obtain ⟨v0, v1, u0, u1, h⟩ := h
  obtain ⟨g, cc, hv, hc⟩ := RowB.get h.p1 (i := i) (by rw [tr1_len]; exact hi)
  rw [tr1_len] at hv
  have hx : (tr1 a b c s n).getD i false = (swAt a b c s (i + 1)).e1 := by
    unfold tr1
    rw [List.getD_eq_getElem?_getD, List.getElem?_map, List.getElem?_range hi]
    rfl
  rw [hx] at hc
  have c5 := (blk_cell h.b5 1).trans (show (#[u0, u1] : Array Value)[1]? = some u1 from rfl)
  rw [hv] at c5
  have ci := hc
  have p1 : ((i : Int) < (n : Int)) = True := eq_true (by omega)
  clear h hv hx hc
  generalize (swAt a b c s (i + 1)).e1 = x at *
  go_enter Tryd.func92, Tryd.ntmps92
  go_wp2
  go_ret
  exact ⟨rfl, rfl⟩
/-- What lies in memory ahead of the ticks. -/
structure PreW (a b c : ByteArray) (st fi : Int) (gs g1 g2 g3 g4 B : Nat) (w0 w : World) (e0 e1 : Bool) (r0 r1 : List Bool) (v0 v1 : Value) : Prop where
  bs : w.heap[gs]? = some (.cells #[.int .i64 st, .int .i64 fi] 30 (0, 0))
  b1 : w.heap[g1]? = some (.cells #[.string a, .string b] 100 (0, 0))
  b2 : w.heap[g2]? = some (.cells #[.string c] 9 (0, 0))
  b3 : w.heap[g3]? = some (.cells #[.bool e0, .bool e1] 101 (0, 0))
  b4 : w.heap[g4]? = some (.cells #[v0, v1] 102 (0, 0))
  o0 : RowB B w v0 r0
  o1 : RowB B w v1 r1
  h3 : B ≤ g3
  h4 : B ≤ g4
  hB : B ≤ w.heap.size
  fb : Below B w0 w
section
variable {a b c : ByteArray} {st fi : Int} {gs g1 g2 g3 g4 B : Nat} {w0 w : World} {e0 e1 : Bool} {r0 r1 : List Bool} {v0 v1 : Value}
theorem PreW.move (h : PreW a b c st fi gs g1 g2 g3 g4 B w0 w e0 e1 r0 r1 v0 v1) {w1 : World} (hb : Below w.heap.size w w1) : PreW a b c st fi gs g1 g2 g3 g4 B w0 w1 e0 e1 r0 r1 v0 v1 :=
  { h with
    bs := blk_below h.bs hb, b1 := blk_below h.b1 hb, b2 := blk_below h.b2 hb, b3 := blk_below h.b3 hb, b4 := blk_below h.b4 hb
    o0 := own_move h.o0 (fun k hk => hb.block k (own_lt h.o0 k hk)), o1 := own_move h.o1 (fun k hk => hb.block k (own_lt h.o1 k hk))
    hB := Nat.le_trans h.hB hb.size, fb := h.fb.trans (hb.mono h.hB) }
theorem PreW.row (h : PreW a b c st fi gs g1 g2 g3 g4 B w0 w e0 e1 r0 r1 v0 v1) {v : Value} {r : List Bool} (hv : RowB B w v r) (j : Nat) {v0' v1' : Value} {r0' r1' : List Bool}
    (hj : (j = 0 ∧ v0' = v ∧ v1' = v1 ∧ r0' = r ∧ r1' = r1) ∨ (j = 1 ∧ v0' = v0 ∧ v1' = v ∧ r0' = r0 ∧ r1' = r)) :
    PreW a b c st fi gs g1 g2 g3 g4 B w0 (w.setCell ⟨g4, j, none⟩ v) e0 e1 r0' r1' v0' v1' := by
  have q := RowB.far hv h.b4 (by decide) j v
  have k0 := RowB.far h.o0 h.b4 (by decide) j v
  have k1 := RowB.far h.o1 h.b4 (by decide) j v
  have e4 : (w.setCell ⟨g4, j, none⟩ v).heap[g4]? = some (.cells #[v0', v1'] 102 (0, 0)) := by
    refine blk_put h.b4 j _ ?_
    rcases hj with ⟨rfl, rfl, rfl, _, _⟩ | ⟨rfl, rfl, rfl, _, _⟩ <;> rfl
  have all : RowB B (w.setCell ⟨g4, j, none⟩ v) v0' r0' ∧ RowB B (w.setCell ⟨g4, j, none⟩ v) v1' r1' := by
    rcases hj with ⟨rfl, rfl, rfl, rfl, rfl⟩ | ⟨rfl, rfl, rfl, rfl, rfl⟩
    · exact ⟨q, k1⟩
    · exact ⟨k0, q⟩
  exact { h with
    bs := blk_far h.bs (p := ⟨g4, j, none⟩) (blk_ne h.bs h.b4 (by decide)) _, b1 := blk_far h.b1 (p := ⟨g4, j, none⟩) (blk_ne h.b1 h.b4 (by decide)) _, b2 := blk_far h.b2 (p := ⟨g4, j, none⟩) (blk_ne h.b2 h.b4 (by decide)) _
    b3 := blk_far h.b3 (p := ⟨g4, j, none⟩) (blk_ne h.b3 h.b4 (by decide)) _, b4 := e4
    o0 := all.1, o1 := all.2
    hB := by rw [size_set]; exact h.hB
    fb := h.fb.setCell h.h4 _ }
theorem PreW.start (h : PreW a b c st fi gs g1 g2 g3 g4 B w0 w e0 e1 r0 r1 v0 v1) :
    StW a b c g1 g2 g3 g4 w.heap.size B (w.alloc (.cells #[.slice none 0 0, .slice none 0 0] 102)) (w.alloc (.cells #[.slice none 0 0, .slice none 0 0] 102)) e0 e1 r0 r1 [] [] v0 v1 (.slice none 0 0) (.slice none 0 0) := by
  have h' := h.move (below_alloc (Below.refl _ _) (.cells #[.slice none 0 0, .slice none 0 0] 102))
  exact { b1 := h'.b1, b2 := h'.b2, b3 := h'.b3, b4 := h'.b4, b5 := blk_new w _, o0 := h'.o0, o1 := h'.o1, p0 := own_nil _ _ _ _, p1 := own_nil _ _ _ _, n45 := Nat.ne_of_lt (blk_lt h.b4), m00 := ne_nil _, m01 := ne_nil _, m10 := ne_nil _, m11 := ne_nil _, muu := ne_nil _, h3 := h'.h3, h4 := h'.h4, h5 := h.hB, hB := h'.hB, fb := Below.refl _ _, fk := KeepT.refl _ _ }
end
theorem RunI.start {a b c : ByteArray} {m : Nat} {fi : Int} {g1 g2 g3 g4 g5 B : Nat} {w : World} {e0 e1 : Bool} {v0 v1 u0 u1 : Value} (h : StW a b c g1 g2 g3 g4 g5 B w w e0 e1 (List.replicate m e0) (List.replicate m e1) [] [] v0 v1 u0 u1) (h0 : e0 = (fi == 0)) (h1 : e1 = (fi == 1)) :
    RunI a b c (sw0 m fi) g1 g2 g3 g4 g5 B 0 w := by
  subst h0
  subst h1
  exact ⟨v0, v1, u0, u1, h⟩
theorem al1 (W : World) (X Y Z : Obj) : (((W.alloc X).alloc Y).alloc Z).drew.heap[W.heap.size]? = some X := blk_alloc (blk_alloc (blk_new W X) Y) Z
theorem al2 (W : World) (X Y Z : Obj) : (((W.alloc X).alloc Y).alloc Z).drew.heap[W.heap.size + 1]? = some Y := by
  have := blk_new (W.alloc X) Y
  rw [show (W.alloc X).heap.size = W.heap.size + 1 by simp] at this
  exact blk_alloc this Z
theorem al3 (W : World) (X Y Z : Obj) : (((W.alloc X).alloc Y).alloc Z).drew.heap[W.heap.size + 1 + 1]? = some Z := by
  have := blk_new ((W.alloc X).alloc Y) Z
  rw [show ((W.alloc X).alloc Y).heap.size = W.heap.size + 1 + 1 by simp] at this
  exact this
end Go.Proofs.YthkpnbelbaljdaaDoor.X
/- The program's runSwitch, walked. Conditions: as the lemma says. -/
namespace Go.Proofs.YthkpnbelbaljdaaDoor.X
open Go.RowKit Go.Proofs.YthkpnbelbaljdaaDoorW.PrintWords Go.Proofs.YthkpnbelbaljdaaDoorW.PrintLast Go.Proofs.YthkpnbelbaljdaaDoorW.PrintMore
set_option linter.unusedVariables false
set_option linter.unusedSimpArgs false
set_option maxHeartbeats 4000000 in
set_option maxRecDepth 100000 in
theorem Run_walk (m : Nat) (fi : Int) (a b c : ByteArray) (hn : a.size ≤ 1000000) (hb : b.size = a.size) (hc : c.size = a.size) (hm : m ≤ 100) (w : World) :
    Calls Tryd.prog 60 #[.agg #[.int .i64 (m : Int), .int .i64 fi], .string a, .string b, .string c] w fun e w' =>
      e = .returned (.tuple #[.string (strOfNums (lvs (fun i => lvl a b i (swAt a b c (sw0 m fi) (i + 1))) a.size)), .string (strOfNums (lvs (fun i => (swAt a b c (sw0 m fi) (i + 1)).e0) a.size)), .string (strOfNums (lvs (fun i => (swAt a b c (sw0 m fi) (i + 1)).e1) a.size))]) ∧ Below w.heap.size w w' := by
  have HN := Aside0.mk hn
  have Hb := Aside0.mk hb
  have Hc := Aside0.mk hc
  have HM := Aside0.mk hm
  clear hn hb hc hm
  have HB := Aside0.mk (Below.refl w.heap.size w)
  obtain ⟨F0, hF0⟩ : ∃ F0, F0 = (fi == 0) := ⟨_, rfl⟩
  obtain ⟨F1, hF1⟩ : ∃ F1, F1 = (fi == 1) := ⟨_, rfl⟩
  have HF0 := Aside0.mk hF0
  have HF1 := Aside0.mk hF1
  have kF0 := hF0.symm
  have kF1 := hF1.symm
  clear hF0 hF1
  go_enter Tryd.func60, Tryd.ntmps60
  go_upto_region 1 with (first
    | ((with_reducible refine gate_dst (N := 4) rfl ?_); refine box_event ?hg (N := 4) ?hd (cs := #[.int .i64 (m : Int), .int .i64 fi]) (t := 30) ?hr ?_; (case hd => rfl); (case hg => rfl); (case hr => first | (go_simp; done) | (go_simp; rfl)); intro gs hg wn hbox hb; have GE4 := Aside0.mk (by rw [hg]; exact below_size HB.out : w.heap.size ≤ gs); clear hg; have BK40 := Aside0.mk hbox; clear hbox; have n0_ := Aside0.mk (below_step HB.out hb); clear HB  hb; have HB := n0_; clear n0_ ; have BK4 := BK40; clear BK40)
    | ((with_reducible refine gate_dst (N := 7) rfl ?_); refine box_event ?hg (N := 7) ?hd (cs := #[.string c]) (t := 9) ?hr ?_; (case hd => rfl); (case hg => rfl); (case hr => first | (go_simp; done) | (go_simp; rfl)); intro g2 hg wm hbox hb; have GE7 := Aside0.mk (by rw [hg]; exact below_size HB.out : w.heap.size ≤ g2); clear hg; have BK70 := Aside0.mk hbox; clear hbox; have n0_ := Aside0.mk (below_step HB.out hb); have m4_ := Aside0.mk (blk_below BK4.out hb); clear HB BK4 hb; have HB := n0_; have BK4 := m4_; clear n0_ m4_; have BK7 := BK70; clear BK70))
  have c40 : wm.cell? ⟨gs, 0, none⟩ = some (.int .i64 (m : Int)) := (blk_cell BK4.out 0).trans rfl
  have c41 : wm.cell? ⟨gs, 1, none⟩ = some (.int .i64 fi) := (blk_cell BK4.out 1).trans rfl
  have k401 : ∀ o1, (wm.alloc o1).cell? ⟨gs, 0, none⟩ = some (.int .i64 (m : Int)) := fun o1 => pw_cell_below (below_alloc (Below.refl _ _) _) c40
  have k402 : ∀ o1 o2, ((wm.alloc o1).alloc o2).cell? ⟨gs, 0, none⟩ = some (.int .i64 (m : Int)) := fun o1 o2 => pw_cell_below (below_alloc (below_alloc (Below.refl _ _) _) _) c40
  have k403 : ∀ o1 o2 o3, (((wm.alloc o1).alloc o2).alloc o3).cell? ⟨gs, 0, none⟩ = some (.int .i64 (m : Int)) := fun o1 o2 o3 => pw_cell_below (below_alloc (below_alloc (below_alloc (Below.refl _ _) _) _) _) c40
  have k411 : ∀ o1, (wm.alloc o1).cell? ⟨gs, 1, none⟩ = some (.int .i64 fi) := fun o1 => pw_cell_below (below_alloc (Below.refl _ _) _) c41
  have k412 : ∀ o1 o2, ((wm.alloc o1).alloc o2).cell? ⟨gs, 1, none⟩ = some (.int .i64 fi) := fun o1 o2 => pw_cell_below (below_alloc (below_alloc (Below.refl _ _) _) _) c41
  have k413 : ∀ o1 o2 o3, (((wm.alloc o1).alloc o2).alloc o3).cell? ⟨gs, 1, none⟩ = some (.int .i64 fi) := fun o1 o2 o3 => pw_cell_below (below_alloc (below_alloc (below_alloc (Below.refl _ _) _) _) _) c41
  go_cut [11, 12, 13] (fun v11 v12 v13 wc => ∃ g1 g3 g4 : Nat, v11 = .pointer (some ⟨g1, 0, none⟩) ∧ v12 = .pointer (some ⟨g3, 0, none⟩) ∧ v13 = .pointer (some ⟨g4, 0, none⟩) ∧ Aside0 (PreW a b c m fi gs g1 g2 g3 g4 w.heap.size w wc F0 F1 [] [] (.slice none 0 0) (.slice none 0 0)))
  case first =>
    go_region
    all_goals
      go_wp2
      go_meet
      case rel =>
        have hz := below_size HB.out
        have hd := below_drew1 (below_alloc (below_alloc (below_alloc (Below.refl wm.heap.size wm) (.cells #[.slice none 0 0] 1)) (.cells #[.slice none 0 0] 1)) (.cells #[.slice none 0 0] 1))
        refine ⟨_, _, _, rfl, rfl, rfl, ⟨?_⟩⟩
        exact { bs := blk_below BK4.out (below_drew1 (below_alloc (below_alloc (below_alloc (Below.refl _ _) _) _) _)), b1 := by first | exact al1 _ _ _ _ | exact al2 _ _ _ _ | exact al3 _ _ _ _, b2 := blk_below BK7.out (below_drew1 (below_alloc (below_alloc (below_alloc (Below.refl _ _) _) _) _)), b3 := by first | exact al1 _ _ _ _ | exact al2 _ _ _ _ | exact al3 _ _ _ _, b4 := by first | exact al1 _ _ _ _ | exact al2 _ _ _ _ | exact al3 _ _ _ _, o0 := own_nil _ _ _ _, o1 := own_nil _ _ _ _, h3 := by omega, h4 := by omega, hB := Nat.le_trans hz (below_drew1 (below_alloc (below_alloc (below_alloc (Below.refl wm.heap.size wm) _) _) _)).size, fb := below_step HB.out (below_drew1 (below_alloc (below_alloc (below_alloc (Below.refl wm.heap.size wm) _) _) _)) }
  case rest =>
    clear HB BK4 BK7 c40 c41 k401 k402 k403 k411 k412 k413
    obtain ⟨g1, g3, g4, rfl, rfl, rfl, HP⟩ := hcut
    go_wp2
    go_loopg [28] 2 (fun kq v28 w' => (v28 = .int .i64 0 ∧ Aside0 (kq = 2) ∧ Aside0 (PreW a b c m fi gs g1 g2 g3 g4 w.heap.size w w' F0 F1 [] [] (.slice none 0 0) (.slice none 0 0)))
      ∨ (v28 = .int .i64 1 ∧ Aside0 (kq = 1) ∧ ∃ v0, Aside0 (PreW a b c m fi gs g1 g2 g3 g4 w.heap.size w w' F0 F1 (List.replicate m F0) [] v0 (.slice none 0 0)))
      ∨ (v28 = .int .i64 2 ∧ Aside0 (kq = 0) ∧ ∃ v0 v1, Aside0 (PreW a b c m fi gs g1 g2 g3 g4 w.heap.size w w' F0 F1 (List.replicate m F0) (List.replicate m F1) v0 v1)))
    case atStart => exact .inl ⟨rfl, ⟨rfl⟩, HP⟩
    case round =>
      clear HP
      rcases hrel with ⟨rfl, HK, HP⟩ | ⟨rfl, HK, v0, HP⟩ | ⟨rfl, HK, v0, v1, HP⟩
      · cases gk with
        | zero => exact absurd HK.out (by omega)
        | succ g1' =>
        have cs : wr.cell? ⟨gs, 0, none⟩ = some (.int .i64 (m : Int)) := (blk_cell HP.out.bs 0).trans rfl
        have cs1 : ∀ o, (wr.alloc o).cell? ⟨gs, 0, none⟩ = some (.int .i64 (m : Int)) := fun o => pw_cell_below (below_alloc (Below.refl _ _) _) cs
        have ce : wr.cell? ⟨g3, 0, none⟩ = some (.bool F0) := (blk_cell HP.out.b3 0).trans rfl
        have cr := (blk_cell HP.out.b4 0)
        have zr := blk_frozen HP.out.b4 0
        go_upto_region 5 with (fail)
        go_region_with (first | (go_at_call 89; (with_reducible refine (rep_row _ 1 F0 m (by have := HM.out; omega) _ ?hc).mono ?_); (case hc => exact (blk_cell (blk_new wr.drew (.cells #[.bool F0] 4)) 0).trans rfl); rintro e wn ⟨v, rfl, ho, hb⟩; have HP1 := Aside0.mk ((HP.out.move (below_drew1 (below_alloc (Below.refl _ _) (.cells #[.bool F0] 4)))).move (w1 := wn) hb); obtain ⟨A3, c3, hv3⟩ := own_slice ho; obtain ⟨N3, hN3⟩ : ∃ N3, N3 = (List.replicate m F0).length := ⟨_, rfl⟩; rw [← hN3] at hv3; clear hN3; subst hv3; have HO := Aside0.mk (own_weaken (base' := w.heap.size) ho (Nat.le_trans HP.out.hB (below_size (below_drew1 (below_alloc (Below.refl wr.heap.size wr) (.cells #[.bool F0] 4)))))); have cr := blk_cell HP1.out.b4 0; have zr := blk_frozen HP1.out.b4 0; clear ho hb))
        all_goals
          go_wp2
          go_roundg g1'
          case measure => exact Nat.lt_succ_self _
          case rel => exact .inr (.inl ⟨rfl, ⟨by have := HK.out; omega⟩, _, ⟨HP1.out.row HO.out 0 (.inl ⟨rfl, rfl, rfl, rfl, rfl⟩)⟩⟩)
      · cases gk with
        | zero => exact absurd HK.out (by omega)
        | succ g1' =>
        have cs : wr.cell? ⟨gs, 0, none⟩ = some (.int .i64 (m : Int)) := (blk_cell HP.out.bs 0).trans rfl
        have cs1 : ∀ o, (wr.alloc o).cell? ⟨gs, 0, none⟩ = some (.int .i64 (m : Int)) := fun o => pw_cell_below (below_alloc (Below.refl _ _) _) cs
        have ce : wr.cell? ⟨g3, 1, none⟩ = some (.bool F1) := (blk_cell HP.out.b3 1).trans rfl
        have cr := (blk_cell HP.out.b4 1)
        have zr := blk_frozen HP.out.b4 1
        go_upto_region 5 with (fail)
        go_region_with (first | (go_at_call 89; (with_reducible refine (rep_row _ 1 F1 m (by have := HM.out; omega) _ ?hc).mono ?_); (case hc => exact (blk_cell (blk_new wr.drew (.cells #[.bool F1] 4)) 0).trans rfl); rintro e wn ⟨v, rfl, ho, hb⟩; have HP1 := Aside0.mk ((HP.out.move (below_drew1 (below_alloc (Below.refl _ _) (.cells #[.bool F1] 4)))).move (w1 := wn) hb); obtain ⟨A3, c3, hv3⟩ := own_slice ho; obtain ⟨N3, hN3⟩ : ∃ N3, N3 = (List.replicate m F1).length := ⟨_, rfl⟩; rw [← hN3] at hv3; clear hN3; subst hv3; have HO := Aside0.mk (own_weaken (base' := w.heap.size) ho (Nat.le_trans HP.out.hB (below_size (below_drew1 (below_alloc (Below.refl wr.heap.size wr) (.cells #[.bool F1] 4)))))); have cr := blk_cell HP1.out.b4 1; have zr := blk_frozen HP1.out.b4 1; clear ho hb))
        all_goals
          go_wp2
          go_roundg g1'
          case measure => exact Nat.lt_succ_self _
          case rel => exact .inr (.inr ⟨rfl, ⟨by have := HK.out; omega⟩, v0, _, ⟨HP1.out.row HO.out 1 (.inr ⟨rfl, rfl, rfl, rfl, rfl⟩)⟩⟩)
      · go_wp2_with (first
          | (go_at_call 50; (have hi0 := HP.out.start; (with_reducible refine (waveOf_typed a.size HN.out 90 Tryd.f90 #[.pointer (some ⟨g1, 0, none⟩), .pointer (some ⟨g2, 0, none⟩), .pointer (some ⟨g3, 0, none⟩), .pointer (some ⟨g4, 0, none⟩), .pointer (some ⟨wr.heap.size, 0, none⟩)] (fun i => lvl a b i (swAt a b c (sw0 m fi) (i + 1))) (RunI a b c (sw0 m fi) g1 g2 g3 g4 wr.heap.size w.heap.size) w.heap.size _ Tryd.func90 rfl (by kernel_rfl) ?st0 hi0.hB (RunI.stable a b c (sw0 m fi) g1 g2 g3 g4 wr.heap.size w.heap.size) (RunI.clo a b c (sw0 m fi) g1 g2 g3 g4 wr.heap.size w.heap.size a.size HN.out rfl Hb.out Hc.out (by simp [sw0]; have := HM.out; omega) (by simp [sw0]; have := HM.out; omega))).mono ?_); (case st0 => exact RunI.start hi0 HF0.out HF1.out); rintro e wn ⟨rfl, hI, hb⟩; have HI := Aside0.mk hI; have HB := Aside0.mk (HP.out.fb.trans (((below_alloc (Below.refl wr.heap.size wr) (.cells #[.slice none 0 0, .slice none 0 0] 102)).mono HP.out.hB).trans hb)); clear hi0 hI hb))
          | (go_at_call 50; ((with_reducible refine (waveOf_typed a.size HN.out 91 Tryd.f91 #[.pointer (some ⟨wr.heap.size, 0, none⟩)] (fun i => (swAt a b c (sw0 m fi) (i + 1)).e0) (fun _ W => RunI a b c (sw0 m fi) g1 g2 g3 g4 wr.heap.size w.heap.size a.size W) w.heap.size _ Tryd.func91 rfl (by kernel_rfl) HI.out ?hsz (RunI.stable_at a b c (sw0 m fi) g1 g2 g3 g4 wr.heap.size w.heap.size a.size) ?cl).mono ?_); (case hsz => exact below_size HB.out); (case cl => exact fun i hi wz hI hz => (TraceClo0 a b c (sw0 m fi) g1 g2 g3 g4 wr.heap.size w.heap.size a.size i hi HN.out wz hI).mono fun e w' ⟨h1, h2⟩ => by subst h2; exact ⟨h1, hI, Below.refl _ _, KeepT.refl _ _⟩); rintro e wn ⟨rfl, hI, hb⟩; have n0_ := Aside0.mk (HB.out.trans hb); have n1_ := Aside0.mk hI; clear HI HB hI hb; have HI := n1_; have HB := n0_; clear n0_ n1_))
          | (go_at_call 50; (with_reducible refine (waveOf_typed a.size HN.out 92 Tryd.f92 #[.pointer (some ⟨wr.heap.size, 0, none⟩)] (fun i => (swAt a b c (sw0 m fi) (i + 1)).e1) (fun _ W => RunI a b c (sw0 m fi) g1 g2 g3 g4 wr.heap.size w.heap.size a.size W) w.heap.size _ Tryd.func92 rfl (by kernel_rfl) HI.out ?hsz (RunI.stable_at a b c (sw0 m fi) g1 g2 g3 g4 wr.heap.size w.heap.size a.size) ?cl).mono ?_); (case hsz => exact below_size HB.out); (case cl => exact fun i hi wz hI hz => (TraceClo1 a b c (sw0 m fi) g1 g2 g3 g4 wr.heap.size w.heap.size a.size i hi HN.out wz hI).mono fun e w' ⟨h1, h2⟩ => by subst h2; exact ⟨h1, hI, Below.refl _ _, KeepT.refl _ _⟩); rintro e wn ⟨rfl, hI, hb⟩; have n0_ := Aside0.mk (HB.out.trans hb); have n1_ := Aside0.mk hI; clear HI HB hI hb; have HI := n1_; have HB := n0_; clear n0_ n1_))
        go_ret3
        exact ⟨rfl, HB.out⟩
def impl_runSwitch.f (a0_0 : Int) (a0_1 : Int) (a1 : ByteArray) (a2 : ByteArray) (a3 : ByteArray) : Option (ByteArray × ByteArray × ByteArray) :=
  if 0 ≤ a0_0 ∧ a0_0 ≤ 100 ∧ a1.size ≤ 1000000 ∧ a2.size = a1.size ∧ a3.size = a1.size then
    some (strOfNums (lvs (fun i => lvl a1 a2 i (swAt a1 a2 a3 (sw0 a0_0 a0_1) (i + 1))) a1.size), strOfNums (lvs (fun i => (swAt a1 a2 a3 (sw0 a0_0 a0_1) (i + 1)).e0) a1.size), strOfNums (lvs (fun i => (swAt a1 a2 a3 (sw0 a0_0 a0_1) (i + 1)).e1) a1.size))
  else none
theorem impl_runSwitch.calls (a0_0 : Int) (a0_1 : Int) (a1 : ByteArray) (a2 : ByteArray) (a3 : ByteArray) (r1 r2 r3 : ByteArray) (w : World) (h : impl_runSwitch.f a0_0 a0_1 a1 a2 a3 = some (r1, r2, r3)) :
    Calls Tryd.prog 60 #[.agg #[.int .i64 a0_0, .int .i64 a0_1], .string a1, .string a2, .string a3] w fun e w' => e = .returned (.tuple #[.string r1, .string r2, .string r3]) ∧ Below w.heap.size w w' := by
  unfold impl_runSwitch.f at h
  by_cases hc : 0 ≤ a0_0 ∧ a0_0 ≤ 100 ∧ a1.size ≤ 1000000 ∧ a2.size = a1.size ∧ a3.size = a1.size
  · rw [if_pos hc] at h
    simp only [Option.some.injEq, Prod.mk.injEq] at h
    obtain ⟨rfl, rfl, rfl⟩ := h
    obtain ⟨m, rfl⟩ : ∃ m : Nat, a0_0 = m := ⟨a0_0.toNat, by omega⟩
    exact Run_walk m a0_1 a1 a2 a3 hc.2.2.1 hc.2.2.2.1 hc.2.2.2.2 (by omega) w
  · rw [if_neg hc] at h; cases h
end Go.Proofs.YthkpnbelbaljdaaDoor.X
-- Written by a program of this session out of the kit's print of the loaded functions: a plain function of a Go function, and its contract.
namespace Go.Proofs.YthkpnbelbaljdaaDoor.X
open Go.RowKit Go.Proofs.YthkpnbelbaljdaaDoorW.PrintWords Go.Proofs.YthkpnbelbaljdaaDoorW.PrintLast Go.Proofs.YthkpnbelbaljdaaDoorW.PrintMore
attribute [local go_sem] max2_int min2_int max_two min_two max_three min_three max_four min_four   -- for this text's walks alone
set_option linter.unusedVariables false
set_option linter.unusedSimpArgs false
/-! ### impl_EnablesOf: function 17 -/
def impl_EnablesOf.f (a0_0 : Int) (a0_1 : Int) (a1 : ByteArray) (a2 : ByteArray) (a3 : ByteArray) : Option (ByteArray × ByteArray × Bool) := (impl_ValidSwitch.f a0_0 a0_1).bind fun t220 => (if t220 = true then ((impl_areWaves.f (([a1, a2, a3] : List ByteArray))).bind fun t224 => (if t224 = true then ((impl_runSwitch.f a0_0 a0_1 a1 a2 a3).bind fun bt225 => (some (bt225.2.1, bt225.2.2, true))) else (some ((⟨#[]⟩ : ByteArray), (⟨#[]⟩ : ByteArray), false)))) else (some ((⟨#[]⟩ : ByteArray), (⟨#[]⟩ : ByteArray), false)))
set_option maxHeartbeats 8000000 in
set_option maxRecDepth 100000 in
theorem impl_EnablesOf.calls (a0_0 : Int) (a0_1 : Int) (a1 : ByteArray) (a2 : ByteArray) (a3 : ByteArray) (r1 : ByteArray) (r2 : ByteArray) (r3 : Bool) (w : World) (h : impl_EnablesOf.f a0_0 a0_1 a1 a2 a3 = some (r1, r2, r3)) :
    Calls Tryd.prog 17 #[.agg #[.int .i64 a0_0, .int .i64 a0_1], .string a1, .string a2, .string a3] w fun e w' => e = .returned (.tuple #[.string r1, .string r2, .bool r3]) ∧ Below w.heap.size w w' := by
  have hu30 := Tryd.underlying30
  have HB := Aside0.mk (Below.refl w.heap.size w)
  have H : ((impl_ValidSwitch.f a0_0 a0_1).bind fun t220 => (if t220 = true then ((impl_areWaves.f (([a1, a2, a3] : List ByteArray))).bind fun t224 => (if t224 = true then ((impl_runSwitch.f a0_0 a0_1 a1 a2 a3).bind fun bt225 => (some (bt225.2.1, bt225.2.2, true))) else (some ((⟨#[]⟩ : ByteArray), (⟨#[]⟩ : ByteArray), false)))) else (some ((⟨#[]⟩ : ByteArray), (⟨#[]⟩ : ByteArray), false)))) = some (r1, r2, r3) := h
  clear h
  replace H := Option.bind_eq_some_iff.mp H
  obtain ⟨t220, A50, H⟩ := H
  replace H : (if t220 = true then ((impl_areWaves.f (([a1, a2, a3] : List ByteArray))).bind fun t224 => (if t224 = true then ((impl_runSwitch.f a0_0 a0_1 a1 a2 a3).bind fun bt225 => (some (bt225.2.1, bt225.2.2, true))) else (some ((⟨#[]⟩ : ByteArray), (⟨#[]⟩ : ByteArray), false)))) else (some ((⟨#[]⟩ : ByteArray), (⟨#[]⟩ : ByteArray), false))) = some (r1, r2, r3) := H
  have A5 := Aside0.mk A50
  clear A50
  by_cases c6 : t220 = true
  · subst c6
    have H1 : ((impl_areWaves.f (([a1, a2, a3] : List ByteArray))).bind fun t224 => (if t224 = true then ((impl_runSwitch.f a0_0 a0_1 a1 a2 a3).bind fun bt225 => (some (bt225.2.1, bt225.2.2, true))) else (some ((⟨#[]⟩ : ByteArray), (⟨#[]⟩ : ByteArray), false)))) = some (r1, r2, r3) := by rw [if_pos rfl] at H; exact H
    clear H
    have H := H1
    clear H1
    obtain ⟨y221, hy221⟩ : ∃ y_ : List ByteArray, y_ = (([a1, a2, a3] : List ByteArray)) := ⟨_, rfl⟩
    replace H : ((impl_areWaves.f y221).bind fun t224 => (if t224 = true then ((impl_runSwitch.f a0_0 a0_1 a1 a2 a3).bind fun bt225 => (some (bt225.2.1, bt225.2.2, true))) else (some ((⟨#[]⟩ : ByteArray), (⟨#[]⟩ : ByteArray), false)))) = some (r1, r2, r3) := by first | (rw [hy221]; with_reducible exact H) | (have H2_ := (Option.bind_some _ _).symm.trans H; rw [hy221]; with_reducible exact H2_) | (have H2_ := (Option.bind_some _ _).symm.trans H; with_reducible exact H2_) | with_reducible exact H | (rw [hy221]; exact H) | exact H
    have Ny221 := Aside0.mk hy221
    clear hy221
    replace H := Option.bind_eq_some_iff.mp H
    obtain ⟨t224, A70, H⟩ := H
    replace H : (if t224 = true then ((impl_runSwitch.f a0_0 a0_1 a1 a2 a3).bind fun bt225 => (some (bt225.2.1, bt225.2.2, true))) else (some ((⟨#[]⟩ : ByteArray), (⟨#[]⟩ : ByteArray), false))) = some (r1, r2, r3) := H
    have A7 := Aside0.mk A70
    clear A70
    by_cases c8 : t224 = true
    · subst c8
      have H1 : ((impl_runSwitch.f a0_0 a0_1 a1 a2 a3).bind fun bt225 => (some (bt225.2.1, bt225.2.2, true))) = some (r1, r2, r3) := by rw [if_pos rfl] at H; exact H
      clear H
      have H := H1
      clear H1
      replace H := Option.bind_eq_some_iff.mp H
      obtain ⟨⟨t225, t226, t227⟩, A90, H⟩ := H
      replace H : (some (t226, t227, true)) = some (r1, r2, r3) := H
      have A9 := Aside0.mk A90
      clear A90
      simp only [Option.some.injEq, Prod.mk.injEq] at H
      obtain ⟨rfl, rfl, rfl⟩ := H
      go_enter Tryd.func17, Tryd.ntmps17
      go_wp2_with (first | ((with_reducible refine gate_dst (N := 4) rfl ?_); (try (refine gate_guard (by rfl) ?_; dsimp only)); refine box_event ?hg (N := 4) ?hd (cs := #[.int .i64 a0_0, .int .i64 a0_1]) (t := 30) ?hr ?_; (case hd => rfl); (case hg => rfl); (case hr => first | (go_simp; done) | (go_simp; rfl)); intro gb219 hg w10 hbox hb; have n0_ := Aside0.mk (below_step (by repeat (first | (with_reducible first | exact HB.out | apply below_alloc | apply pw_below_drewN | apply below_drew1) | exact HB.out)) hb); have n1_ := Aside0.mk (hbox); have n2_ := Aside0.mk ((by rw [hg]; exact (below_size (by repeat (first | (with_reducible first | exact HB.out | apply below_alloc | apply pw_below_drewN | apply below_drew1) | exact HB.out))) : w.heap.size ≤ gb219)); have n3_ := Aside0.mk ((by rw [hg]; exact (below_size (by repeat (first | (with_reducible first | exact HB.out | apply below_alloc | apply pw_below_drewN | apply below_drew1) | exact HB.out))) : w.heap.size ≤ gb219)); clear HB; have HB := n0_; have BK219 := n1_; have GW219 := n2_; have GE219 := n3_; clear n0_ n1_ n2_ n3_; clear hb hbox hg; have hcz11_0 : w10.cell? ⟨gb219, 0, none⟩ = some (.int .i64 a0_0) := (blk_cell BK219.out 0).trans rfl; have hcz11_1 : w10.cell? ⟨gb219, 1, none⟩ = some (.int .i64 a0_1) := (blk_cell BK219.out 1).trans rfl; have hfz11_0 := blk_frozen BK219.out 0; have hfz11_1 := blk_frozen BK219.out 1) | ((with_reducible refine gate_callee (f := 30) rfl ?_); refine goesL_ (some 15) rfl rfl Tryd.func30 (by kernel_rfl) rfl #[.agg #[.int .i64 a0_0, .int .i64 a0_1]] rfl (by (try simp only [List.map_toArray, List.map_cons, List.map_nil]); first | done | rfl | (simp only [List.length_drop, List.length_take]; rfl)) ?_; (with_reducible refine (impl_ValidSwitch.calls a0_0 a0_1 true _ A5.out).mono ?_); rintro e w12 ⟨rfl, hb⟩; refine ⟨_, rfl, ?_⟩; have n0_ := Aside0.mk (blk_below (g := gb219) (o := .cells #[.int .i64 a0_0, .int .i64 a0_1] 30 (0, 0)) (by (with_reducible repeat (first | refine blk_drewN ?_ _ | refine blk_drew ?_ | refine blk_alloc ?_ _)); exact BK219.out) hb); have n1_ := Aside0.mk (below_step (by repeat (first | (with_reducible first | exact HB.out | apply below_alloc | apply pw_below_drewN | apply below_drew1 | refine below_set ?_ GE219.out) | exact HB.out)) hb); clear BK219; clear HB; have BK219 := n0_; have HB := n1_; clear n0_ n1_; (try clear hb); (try clear hb2); (try clear hk); (try clear hi)) | ((with_reducible refine gate_dst (N := 21) rfl ?_); (try (refine gate_guard (by rfl) ?_; dsimp only)); refine Kd.R_lit Kd.string _ 9 ?hg (N := 21) ?hd (xs := ([a1, a2, a3] : List ByteArray)) (inner := [.string a1, .string a2, .string a3]) (ok := fun _ => True) (okp := fun _ => True) ?hr ?hp (fun _ hk => hk) trivial (Below.refl _ _) (Nat.le_refl _) (by simp) ?_; (case hd => rfl); (case hg => rfl); (case hr => first | (go_simp; done) | (go_simp; rfl)); (case hp => exact (Reps.one (show Kd.M Kd.string _ _ _ a1 [.string a1] from rfl) (Reps.one (show Kd.M Kd.string _ _ _ a2 [.string a2] from rfl) (Reps.one (show Kd.M Kd.string _ _ _ a3 [.string a3] from rfl) (Reps.none _ _))))); intro v222 w13 ho14 hb hg_ hnew_; clear hg_ hnew_; (first | rw [← Ny221.out] at ho14 | (simp only [Int.reduceToNat] at ho14; rw [← Ny221.out] at ho14)); have n0_ := Aside0.mk (Kd.R_lower ho14 (below_size (by repeat (first | (with_reducible first | exact HB.out | apply below_alloc | apply pw_below_drewN | apply below_drew1 | refine below_set ?_ GE219.out) | exact HB.out)))); have n1_ := Aside0.mk (blk_below (g := gb219) (o := .cells #[.int .i64 a0_0, .int .i64 a0_1] 30 (0, 0)) (by (with_reducible repeat (first | refine blk_drewN ?_ _ | refine blk_drew ?_ | refine blk_alloc ?_ _)); exact BK219.out) hb); have n2_ := Aside0.mk (below_step (by repeat (first | (with_reducible first | exact HB.out | apply below_alloc | apply pw_below_drewN | apply below_drew1 | refine below_set ?_ GE219.out) | exact HB.out)) hb); clear BK219; clear HB; have HO223 := n0_; have BK219 := n1_; have HB := n2_; clear n0_ n1_ n2_; clear hb ho14; obtain ⟨Ao15, co15, eo15⟩ := Kd.R_slice HO223.out; subst eo15) | (go_at_call 47; (with_reducible refine (impl_areWaves.calls _ _ y221 true _ ?side1 ?side2 A7.out).mono ?_); (case side1 => repeat (first | exact (Kd.R_reads' HO223.out).2.2 | (with_reducible refine Kd.C_alloc ?_ _) | (with_reducible refine Kd.C_drewN ?_ _) | (with_reducible refine Kd.C_drew ?_))); (case side2 => first | exact trivial | (exact (Kd.R_reads' HO223.out).2.1)); rintro e w16 ⟨rfl, hb⟩; have n0_ := Aside0.mk (Kd.R_below (by (with_reducible repeat (first | apply Kd.R_alloc | apply Kd.R_drewN | apply Kd.R_drew)); exact HO223.out) hb); have n1_ := Aside0.mk (blk_below (g := gb219) (o := .cells #[.int .i64 a0_0, .int .i64 a0_1] 30 (0, 0)) (by (with_reducible repeat (first | refine blk_drewN ?_ _ | refine blk_drew ?_ | refine blk_alloc ?_ _)); exact BK219.out) hb); have n2_ := Aside0.mk (below_step (by repeat (first | (with_reducible first | exact HB.out | apply below_alloc | apply pw_below_drewN | apply below_drew1 | refine below_set ?_ GE219.out) | exact HB.out)) hb); clear HO223; clear BK219; clear HB; have HO223 := n0_; have BK219 := n1_; have HB := n2_; clear n0_ n1_ n2_; (try clear hb); (try clear hb2); (try clear hk); (try clear hi); have hcz17_0 : w16.cell? ⟨gb219, 0, none⟩ = some (.int .i64 a0_0) := (blk_cell BK219.out 0).trans rfl; have hcz17_1 : w16.cell? ⟨gb219, 1, none⟩ = some (.int .i64 a0_1) := (blk_cell BK219.out 1).trans rfl; have hfz17_0 := blk_frozen BK219.out 0; have hfz17_1 := blk_frozen BK219.out 1) | ((with_reducible refine gate_callee (f := 60) rfl ?_); refine goesL_ (some 30) rfl rfl Tryd.func60 (by kernel_rfl) rfl #[.agg #[.int .i64 a0_0, .int .i64 a0_1], .string a1, .string a2, .string a3] rfl (by (try simp only [List.map_toArray, List.map_cons, List.map_nil]); first | done | rfl | (simp only [List.length_drop, List.length_take]; rfl)) ?_; (with_reducible refine (impl_runSwitch.calls a0_0 a0_1 a1 a2 a3 t225 t226 t227 _ A9.out).mono ?_); rintro e w18 ⟨rfl, hb⟩; refine ⟨_, rfl, ?_⟩; have n0_ := Aside0.mk (Kd.R_below (by (with_reducible repeat (first | apply Kd.R_alloc | apply Kd.R_drewN | apply Kd.R_drew)); exact HO223.out) hb); have n1_ := Aside0.mk (blk_below (g := gb219) (o := .cells #[.int .i64 a0_0, .int .i64 a0_1] 30 (0, 0)) (by (with_reducible repeat (first | refine blk_drewN ?_ _ | refine blk_drew ?_ | refine blk_alloc ?_ _)); exact BK219.out) hb); have n2_ := Aside0.mk (below_step (by repeat (first | (with_reducible first | exact HB.out | apply below_alloc | apply pw_below_drewN | apply below_drew1 | refine below_set ?_ GE219.out) | exact HB.out)) hb); clear HO223; clear BK219; clear HB; have HO223 := n0_; have BK219 := n1_; have HB := n2_; clear n0_ n1_ n2_; (try clear hb); (try clear hb2); (try clear hk); (try clear hi)))
      go_ret3
      exact ⟨by first | rfl | (simp [errW_none, errW_some] <;> rfl) | (simp [*, errW_none, errW_some] <;> rfl), by repeat (first | (with_reducible first | exact HB.out | apply below_alloc | apply pw_below_drewN | apply below_drew1 | refine below_set ?_ GE219.out) | exact HB.out)⟩
    · replace c8 := Bool.eq_false_iff.mpr c8
      subst c8
      have H1 : (some ((⟨#[]⟩ : ByteArray), (⟨#[]⟩ : ByteArray), false)) = some (r1, r2, r3) := by rw [if_neg (show ¬ (false = true) by decide)] at H; exact H
      clear H
      have H := H1
      clear H1
      simp only [Option.some.injEq, Prod.mk.injEq] at H
      obtain ⟨rfl, rfl, rfl⟩ := H
      go_enter Tryd.func17, Tryd.ntmps17
      go_wp2_with (first | ((with_reducible refine gate_dst (N := 4) rfl ?_); (try (refine gate_guard (by rfl) ?_; dsimp only)); refine box_event ?hg (N := 4) ?hd (cs := #[.int .i64 a0_0, .int .i64 a0_1]) (t := 30) ?hr ?_; (case hd => rfl); (case hg => rfl); (case hr => first | (go_simp; done) | (go_simp; rfl)); intro gb219 hg w19 hbox hb; have n0_ := Aside0.mk (below_step (by repeat (first | (with_reducible first | exact HB.out | apply below_alloc | apply pw_below_drewN | apply below_drew1) | exact HB.out)) hb); have n1_ := Aside0.mk (hbox); have n2_ := Aside0.mk ((by rw [hg]; exact (below_size (by repeat (first | (with_reducible first | exact HB.out | apply below_alloc | apply pw_below_drewN | apply below_drew1) | exact HB.out))) : w.heap.size ≤ gb219)); have n3_ := Aside0.mk ((by rw [hg]; exact (below_size (by repeat (first | (with_reducible first | exact HB.out | apply below_alloc | apply pw_below_drewN | apply below_drew1) | exact HB.out))) : w.heap.size ≤ gb219)); clear HB; have HB := n0_; have BK219 := n1_; have GW219 := n2_; have GE219 := n3_; clear n0_ n1_ n2_ n3_; clear hb hbox hg; have hcz20_0 : w19.cell? ⟨gb219, 0, none⟩ = some (.int .i64 a0_0) := (blk_cell BK219.out 0).trans rfl; have hcz20_1 : w19.cell? ⟨gb219, 1, none⟩ = some (.int .i64 a0_1) := (blk_cell BK219.out 1).trans rfl; have hfz20_0 := blk_frozen BK219.out 0; have hfz20_1 := blk_frozen BK219.out 1) | ((with_reducible refine gate_callee (f := 30) rfl ?_); refine goesL_ (some 15) rfl rfl Tryd.func30 (by kernel_rfl) rfl #[.agg #[.int .i64 a0_0, .int .i64 a0_1]] rfl (by (try simp only [List.map_toArray, List.map_cons, List.map_nil]); first | done | rfl | (simp only [List.length_drop, List.length_take]; rfl)) ?_; (with_reducible refine (impl_ValidSwitch.calls a0_0 a0_1 true _ A5.out).mono ?_); rintro e w21 ⟨rfl, hb⟩; refine ⟨_, rfl, ?_⟩; have n0_ := Aside0.mk (blk_below (g := gb219) (o := .cells #[.int .i64 a0_0, .int .i64 a0_1] 30 (0, 0)) (by (with_reducible repeat (first | refine blk_drewN ?_ _ | refine blk_drew ?_ | refine blk_alloc ?_ _)); exact BK219.out) hb); have n1_ := Aside0.mk (below_step (by repeat (first | (with_reducible first | exact HB.out | apply below_alloc | apply pw_below_drewN | apply below_drew1 | refine below_set ?_ GE219.out) | exact HB.out)) hb); clear BK219; clear HB; have BK219 := n0_; have HB := n1_; clear n0_ n1_; (try clear hb); (try clear hb2); (try clear hk); (try clear hi)) | ((with_reducible refine gate_dst (N := 21) rfl ?_); (try (refine gate_guard (by rfl) ?_; dsimp only)); refine Kd.R_lit Kd.string _ 9 ?hg (N := 21) ?hd (xs := ([a1, a2, a3] : List ByteArray)) (inner := [.string a1, .string a2, .string a3]) (ok := fun _ => True) (okp := fun _ => True) ?hr ?hp (fun _ hk => hk) trivial (Below.refl _ _) (Nat.le_refl _) (by simp) ?_; (case hd => rfl); (case hg => rfl); (case hr => first | (go_simp; done) | (go_simp; rfl)); (case hp => exact (Reps.one (show Kd.M Kd.string _ _ _ a1 [.string a1] from rfl) (Reps.one (show Kd.M Kd.string _ _ _ a2 [.string a2] from rfl) (Reps.one (show Kd.M Kd.string _ _ _ a3 [.string a3] from rfl) (Reps.none _ _))))); intro v222 w22 ho23 hb hg_ hnew_; clear hg_ hnew_; (first | rw [← Ny221.out] at ho23 | (simp only [Int.reduceToNat] at ho23; rw [← Ny221.out] at ho23)); have n0_ := Aside0.mk (Kd.R_lower ho23 (below_size (by repeat (first | (with_reducible first | exact HB.out | apply below_alloc | apply pw_below_drewN | apply below_drew1 | refine below_set ?_ GE219.out) | exact HB.out)))); have n1_ := Aside0.mk (blk_below (g := gb219) (o := .cells #[.int .i64 a0_0, .int .i64 a0_1] 30 (0, 0)) (by (with_reducible repeat (first | refine blk_drewN ?_ _ | refine blk_drew ?_ | refine blk_alloc ?_ _)); exact BK219.out) hb); have n2_ := Aside0.mk (below_step (by repeat (first | (with_reducible first | exact HB.out | apply below_alloc | apply pw_below_drewN | apply below_drew1 | refine below_set ?_ GE219.out) | exact HB.out)) hb); clear BK219; clear HB; have HO223 := n0_; have BK219 := n1_; have HB := n2_; clear n0_ n1_ n2_; clear hb ho23; obtain ⟨Ao24, co24, eo24⟩ := Kd.R_slice HO223.out; subst eo24) | (go_at_call 47; (with_reducible refine (impl_areWaves.calls _ _ y221 false _ ?side1 ?side2 A7.out).mono ?_); (case side1 => repeat (first | exact (Kd.R_reads' HO223.out).2.2 | (with_reducible refine Kd.C_alloc ?_ _) | (with_reducible refine Kd.C_drewN ?_ _) | (with_reducible refine Kd.C_drew ?_))); (case side2 => first | exact trivial | (exact (Kd.R_reads' HO223.out).2.1)); rintro e w25 ⟨rfl, hb⟩; have n0_ := Aside0.mk (Kd.R_below (by (with_reducible repeat (first | apply Kd.R_alloc | apply Kd.R_drewN | apply Kd.R_drew)); exact HO223.out) hb); have n1_ := Aside0.mk (blk_below (g := gb219) (o := .cells #[.int .i64 a0_0, .int .i64 a0_1] 30 (0, 0)) (by (with_reducible repeat (first | refine blk_drewN ?_ _ | refine blk_drew ?_ | refine blk_alloc ?_ _)); exact BK219.out) hb); have n2_ := Aside0.mk (below_step (by repeat (first | (with_reducible first | exact HB.out | apply below_alloc | apply pw_below_drewN | apply below_drew1 | refine below_set ?_ GE219.out) | exact HB.out)) hb); clear HO223; clear BK219; clear HB; have HO223 := n0_; have BK219 := n1_; have HB := n2_; clear n0_ n1_ n2_; (try clear hb); (try clear hb2); (try clear hk); (try clear hi)))
      go_ret3
      exact ⟨by first | rfl | (simp [errW_none, errW_some] <;> rfl) | (simp [*, errW_none, errW_some] <;> rfl), by repeat (first | (with_reducible first | exact HB.out | apply below_alloc | apply pw_below_drewN | apply below_drew1 | refine below_set ?_ GE219.out) | exact HB.out)⟩
  · replace c6 := Bool.eq_false_iff.mpr c6
    subst c6
    have H1 : (some ((⟨#[]⟩ : ByteArray), (⟨#[]⟩ : ByteArray), false)) = some (r1, r2, r3) := by rw [if_neg (show ¬ (false = true) by decide)] at H; exact H
    clear H
    have H := H1
    clear H1
    simp only [Option.some.injEq, Prod.mk.injEq] at H
    obtain ⟨rfl, rfl, rfl⟩ := H
    go_enter Tryd.func17, Tryd.ntmps17
    go_wp2_with (first | ((with_reducible refine gate_dst (N := 4) rfl ?_); (try (refine gate_guard (by rfl) ?_; dsimp only)); refine box_event ?hg (N := 4) ?hd (cs := #[.int .i64 a0_0, .int .i64 a0_1]) (t := 30) ?hr ?_; (case hd => rfl); (case hg => rfl); (case hr => first | (go_simp; done) | (go_simp; rfl)); intro gb219 hg w26 hbox hb; have n0_ := Aside0.mk (below_step (by repeat (first | (with_reducible first | exact HB.out | apply below_alloc | apply pw_below_drewN | apply below_drew1) | exact HB.out)) hb); have n1_ := Aside0.mk (hbox); have n2_ := Aside0.mk ((by rw [hg]; exact (below_size (by repeat (first | (with_reducible first | exact HB.out | apply below_alloc | apply pw_below_drewN | apply below_drew1) | exact HB.out))) : w.heap.size ≤ gb219)); have n3_ := Aside0.mk ((by rw [hg]; exact (below_size (by repeat (first | (with_reducible first | exact HB.out | apply below_alloc | apply pw_below_drewN | apply below_drew1) | exact HB.out))) : w.heap.size ≤ gb219)); clear HB; have HB := n0_; have BK219 := n1_; have GW219 := n2_; have GE219 := n3_; clear n0_ n1_ n2_ n3_; clear hb hbox hg; have hcz27_0 : w26.cell? ⟨gb219, 0, none⟩ = some (.int .i64 a0_0) := (blk_cell BK219.out 0).trans rfl; have hcz27_1 : w26.cell? ⟨gb219, 1, none⟩ = some (.int .i64 a0_1) := (blk_cell BK219.out 1).trans rfl; have hfz27_0 := blk_frozen BK219.out 0; have hfz27_1 := blk_frozen BK219.out 1) | ((with_reducible refine gate_callee (f := 30) rfl ?_); refine goesL_ (some 15) rfl rfl Tryd.func30 (by kernel_rfl) rfl #[.agg #[.int .i64 a0_0, .int .i64 a0_1]] rfl (by (try simp only [List.map_toArray, List.map_cons, List.map_nil]); first | done | rfl | (simp only [List.length_drop, List.length_take]; rfl)) ?_; (with_reducible refine (impl_ValidSwitch.calls a0_0 a0_1 false _ A5.out).mono ?_); rintro e w28 ⟨rfl, hb⟩; refine ⟨_, rfl, ?_⟩; have n0_ := Aside0.mk (blk_below (g := gb219) (o := .cells #[.int .i64 a0_0, .int .i64 a0_1] 30 (0, 0)) (by (with_reducible repeat (first | refine blk_drewN ?_ _ | refine blk_drew ?_ | refine blk_alloc ?_ _)); exact BK219.out) hb); have n1_ := Aside0.mk (below_step (by repeat (first | (with_reducible first | exact HB.out | apply below_alloc | apply pw_below_drewN | apply below_drew1 | refine below_set ?_ GE219.out) | exact HB.out)) hb); clear BK219; clear HB; have BK219 := n0_; have HB := n1_; clear n0_ n1_; (try clear hb); (try clear hb2); (try clear hk); (try clear hi)))
    go_ret3
    exact ⟨by first | rfl | (simp [errW_none, errW_some] <;> rfl) | (simp [*, errW_none, errW_some] <;> rfl), by repeat (first | (with_reducible first | exact HB.out | apply below_alloc | apply pw_below_drewN | apply below_drew1 | refine below_set ?_ GE219.out) | exact HB.out)⟩
end Go.Proofs.YthkpnbelbaljdaaDoor.X
end
section
/- My own texts of this seat, merged: Xp79, XWaveLib, XEdgeIn, XReset, Xp44, Xp46, Xp11, Xp3, CReset. Conditions: as each lemma says. -/
-- Written by a program of this session out of the kit's print of the loaded functions: a plain function of a Go function, and its contract.
namespace Go.Proofs.YthkpnbelbaljdaaDoor.X
open Go.RowKit Go.Proofs.YthkpnbelbaljdaaDoorW.PrintWords Go.Proofs.YthkpnbelbaljdaaDoorW.PrintLast Go.Proofs.YthkpnbelbaljdaaDoorW.PrintMore
attribute [local go_sem] max2_int min2_int max_two min_two max_three min_three max_four min_four   -- for this text's walks alone
set_option linter.unusedVariables false
set_option linter.unusedSimpArgs false
/-! ### spec_l01Wave: function 79 -/
end Go.Proofs.YthkpnbelbaljdaaDoor.X
/- Waves in plain numbers: what the program's and the reference's ways of reading them tell. Conditions: as each lemma says. -/
namespace Go.Proofs.YthkpnbelbaljdaaDoor.X
open Go.RowKit Go.Proofs.YthkpnbelbaljdaaDoorW.PrintWords Go.Proofs.YthkpnbelbaljdaaDoorW.PrintLast Go.Proofs.YthkpnbelbaljdaaDoorW.PrintMore
set_option linter.unusedVariables false
set_option linter.unusedSimpArgs false
theorem bt_get (s : ByteArray) (i : Nat) (h : i < s.size) : bt s (i : Int) = ((s.data[i]'h).toNat : Int) := by
  unfold bt
  rw [dif_pos (by simpa using h)]
  rfl
theorem lev_bt (c : UInt8) : isLev c = true ↔ ((c.toNat : Int) = 48 ∨ (c.toNat : Int) = 49) := by
  unfold isLev
  rw [Bool.or_eq_true, beq_iff_eq, beq_iff_eq, ← UInt8.toNat_inj, ← UInt8.toNat_inj]
  constructor
  · rintro (h | h)
    · left; rw [h]; rfl
    · right; rw [h]; rfl
  · rintro (h | h)
    · left; have : c.toNat = 48 := by omega
      rw [this]; rfl
    · right; have : c.toNat = 49 := by omega
      rw [this]; rfl
/-- All levels are 0 or 1. -/
def Lev (s : ByteArray) : Prop := ∀ i : Nat, i < s.size → bt s (i : Int) = 48 ∨ bt s (i : Int) = 49
theorem all_lev (s : ByteArray) : s.data.toList.all isLev = true ↔ Lev s := by
  rw [List.all_eq_true]
  constructor
  · intro h i hi
    rw [bt_get s i hi]
    exact (lev_bt _).1 (h _ (by simp))
  · intro h c hc
    obtain ⟨i, hi, rfl⟩ := List.getElem_of_mem hc
    have h2 : i < s.size := by simpa using hi
    have := h i h2
    rw [bt_get s i h2] at this
    exact (lev_bt _).2 (by simpa using this)
theorem isW_iff (s : ByteArray) : isW s = true ↔ s.size ≤ 400 ∧ Lev s := by
  unfold isW; rw [Bool.and_eq_true, decide_eq_true_eq, all_lev]
/-- The level before a tick. -/
def prv (s : ByteArray) (i : Nat) : Int := if i = 0 then 48 else bt s ((i - 1 : Nat) : Int)
theorem prv_succ (s : ByteArray) (i : Nat) : prv s (i + 1) = bt s (i : Int) := by unfold prv; rw [if_neg (by omega)]; rfl
def isE (s : ByteArray) (c : Int) (i : Nat) : Bool := decide (bt s (i : Int) = c) && !decide (prv s i = c)
/-- The ticks before n at which a text changes to a level. -/
def edg (s : ByteArray) (c : Int) (n : Nat) : List Int := ((List.range n).filter (isE s c)).map fun (i : Nat) => (i : Int)
theorem edg_len (s : ByteArray) (c : Int) (n : Nat) : (edg s c n).length ≤ n := by
  unfold edg; rw [List.length_map]
  have := List.length_filter_le (isE s c) (List.range n)
  simpa using this
theorem edg_succ (s : ByteArray) (c : Int) (n : Nat) : edg s c (n + 1) = if isE s c n = true then edg s c n ++ [(n : Int)] else edg s c n := by
  unfold edg
  rw [List.range_succ, List.filter_append, List.map_append, List.filter_cons]
  split <;> simp
theorem edg_mem (s : ByteArray) (c : Int) (n : Nat) (x : Int) : x ∈ edg s c n ↔ ∃ i : Nat, i < n ∧ isE s c i = true ∧ x = i := by
  unfold edg
  simp only [List.mem_map, List.mem_filter, List.mem_range]
  constructor
  · rintro ⟨i, ⟨h1, h2⟩, rfl⟩; exact ⟨i, h1, h2, rfl⟩
  · rintro ⟨i, h1, h2, rfl⟩; exact ⟨i, ⟨h1, h2⟩, rfl⟩
theorem edges_loop (s : ByteArray) (c : Int) (hs : s.size ≤ 1000000) : ∀ (d k i : Nat), i + d = s.size → d < k →
    impl_changesTo.l0 k s c (edg s c i) (prv s i) s.size i = some (edg s c s.size) ∧ spec_l01Edges.l0 k s c (edg s c i) (prv s i) i = some (edg s c s.size)
  | 0, k, i, hi, hk => by
    cases k with
    | zero => omega
    | succ k =>
      constructor
      · rw [impl_changesTo.l0, if_neg (by omega), show i = s.size by omega]
      · rw [spec_l01Edges.l0, if_neg (by omega), show i = s.size by omega]
  | d + 1, k, i, hi, hk => by
    cases k with
    | zero => omega
    | succ k =>
      have ih := edges_loop s c hs d k (i + 1) (by omega) (by omega)
      have hl := edg_len s c i
      rw [prv_succ, edg_succ, Int.natCast_add, Int.natCast_one] at ih
      constructor
      · rw [impl_changesTo.l0, if_pos (by omega), if_pos (by omega), if_pos (by omega), w64 (by omega) (by omega), if_pos (show (edg s c i).length < 17592186044416 by omega)]
        by_cases h1 : bt s (i : Int) = prv s i
        · rw [if_pos h1]
          have : isE s c i = false := by unfold isE; rw [h1]; cases decide (prv s i = c) <;> rfl
          rw [this] at ih; exact ih.1
        · rw [if_neg h1]
          by_cases h2 : bt s (i : Int) = c
          · have : isE s c i = true := by
              unfold isE
              rw [decide_eq_true h2, decide_eq_false (by intro h; exact h1 (h2.trans h.symm))]; rfl
            rw [if_pos h2]
            rw [this] at ih; exact ih.1
          · have : isE s c i = false := by unfold isE; rw [decide_eq_false h2]; rfl
            rw [if_neg h2]
            rw [this] at ih; exact ih.1
      · rw [spec_l01Edges.l0, if_pos (by omega), if_pos (by omega), w64 (by omega) (by omega), if_pos (show (edg s c i).length < 17592186044416 by omega)]
        by_cases h2 : bt s (i : Int) = c
        · rw [if_pos h2]
          by_cases h3 : prv s i = c
          · have : isE s c i = false := by unfold isE; rw [decide_eq_true h3]; cases decide (bt s (i : Int) = c) <;> rfl
            rw [if_pos h3]
            rw [this] at ih; exact ih.2
          · have : isE s c i = true := by unfold isE; rw [decide_eq_true h2, decide_eq_false h3]; rfl
            rw [if_neg h3]
            rw [this] at ih; exact ih.2
        · have : isE s c i = false := by unfold isE; rw [decide_eq_false h2]; rfl
          rw [if_neg h2]
          rw [this] at ih; exact ih.2
theorem changes_eq (k : Nat) (s : ByteArray) (c : Int) (hs : s.size ≤ 1000000) (hk : s.size < k) : impl_changesTo.f k s c = some (edg s c s.size) := by
  unfold impl_changesTo.f
  have := (edges_loop s c hs s.size k 0 (by omega) hk).1
  simpa [edg, prv] using this
end Go.Proofs.YthkpnbelbaljdaaDoor.X
/- Whether a tick is one of a list's: what slices.Contains tells. Conditions: as each lemma says. -/
namespace Go.Proofs.YthkpnbelbaljdaaDoor.X
open Go.RowKit Go.Proofs.YthkpnbelbaljdaaDoorW.PrintWords Go.Proofs.YthkpnbelbaljdaaDoorW.PrintLast Go.Proofs.YthkpnbelbaljdaaDoorW.PrintMore
set_option linter.unusedVariables false
set_option linter.unusedSimpArgs false
end Go.Proofs.YthkpnbelbaljdaaDoor.X
/- The program's ResetWave: what it answers. Conditions: as each lemma says. -/
namespace Go.Proofs.YthkpnbelbaljdaaDoor.X
open Go.RowKit Go.Proofs.YthkpnbelbaljdaaDoorW.PrintWords Go.Proofs.YthkpnbelbaljdaaDoorW.PrintLast Go.Proofs.YthkpnbelbaljdaaDoorW.PrintMore
set_option linter.unusedVariables false
set_option linter.unusedSimpArgs false
end Go.Proofs.YthkpnbelbaljdaaDoor.X
-- Written by a program of this session out of the kit's print of the loaded functions: a plain function of a Go function, and its contract.
namespace Go.Proofs.YthkpnbelbaljdaaDoor.X
open Go.RowKit Go.Proofs.YthkpnbelbaljdaaDoorW.PrintWords Go.Proofs.YthkpnbelbaljdaaDoorW.PrintLast Go.Proofs.YthkpnbelbaljdaaDoorW.PrintMore
attribute [local go_sem] max2_int min2_int max_two min_two max_three min_three max_four min_four   -- for this text's walks alone
set_option linter.unusedVariables false
set_option linter.unusedSimpArgs false
/-! ### spec_l07Three: function 44 -/
end Go.Proofs.YthkpnbelbaljdaaDoor.X
-- Written by a program of this session out of the kit's print of the loaded functions: a plain function of a Go function, and its contract.
namespace Go.Proofs.YthkpnbelbaljdaaDoor.X
open Go.RowKit Go.Proofs.YthkpnbelbaljdaaDoorW.PrintWords Go.Proofs.YthkpnbelbaljdaaDoorW.PrintLast Go.Proofs.YthkpnbelbaljdaaDoorW.PrintMore
attribute [local go_sem] max2_int min2_int max_two min_two max_three min_three max_four min_four   -- for this text's walks alone
set_option linter.unusedVariables false
set_option linter.unusedSimpArgs false
/-! ### spec_l07Level: function 46 -/
end Go.Proofs.YthkpnbelbaljdaaDoor.X
-- Written by a program of this session out of the kit's print of the loaded functions: a plain function of a Go function, and its contract.
namespace Go.Proofs.YthkpnbelbaljdaaDoor.X
open Go.RowKit Go.Proofs.YthkpnbelbaljdaaDoorW.PrintWords Go.Proofs.YthkpnbelbaljdaaDoorW.PrintLast Go.Proofs.YthkpnbelbaljdaaDoorW.PrintMore
attribute [local go_sem] max2_int min2_int max_two min_two max_three min_three max_four min_four   -- for this text's walks alone
set_option linter.unusedVariables false
set_option linter.unusedSimpArgs false
/-! ### spec_ResetWave: function 11 -/
end Go.Proofs.YthkpnbelbaljdaaDoor.X
-- Written by a program of this session out of the kit's print of the loaded functions: a plain function of a Go function, and its contract.
namespace Go.Proofs.YthkpnbelbaljdaaDoor.X
open Go.RowKit Go.Proofs.YthkpnbelbaljdaaDoorW.PrintWords Go.Proofs.YthkpnbelbaljdaaDoorW.PrintLast Go.Proofs.YthkpnbelbaljdaaDoorW.PrintMore
attribute [local go_sem] max2_int min2_int max_two min_two max_three min_three max_four min_four   -- for this text's walks alone
set_option linter.unusedVariables false
set_option linter.unusedSimpArgs false
/-! ### laws_FnExactResetWave: function 3 -/
end Go.Proofs.YthkpnbelbaljdaaDoor.X
/- Reset waves: the plain law of ResetWave. Conditions: as each lemma says. -/
namespace Go.Proofs.YthkpnbelbaljdaaDoor.X
open Go.RowKit Go.Proofs.YthkpnbelbaljdaaDoorW.PrintWords Go.Proofs.YthkpnbelbaljdaaDoorW.PrintLast Go.Proofs.YthkpnbelbaljdaaDoorW.PrintMore
set_option linter.unusedVariables false
set_option linter.unusedSimpArgs false
end Go.Proofs.YthkpnbelbaljdaaDoor.X
end
