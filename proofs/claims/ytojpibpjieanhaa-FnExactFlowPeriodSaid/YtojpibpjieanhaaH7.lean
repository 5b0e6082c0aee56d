/- My own texts of this seat, merged: Xp7, XOpenRow, CPeriod. Conditions: as each lemma says. -/
import Derived.Test.YtojpibpjieanhaaH0
import Derived.Test.YtojpibpjieanhaaH4
import Derived.Test.YtojpibpjieanhaaH5
import Derived.Test.YtojpibpjieanhaaH6
import Derived.Deep.Slices
import Derived.Deep.Fields
import Derived.ChangeSame
import Derived.ChangeSlices
-- Written by a program of this session out of the kit's print of the loaded functions: a plain function of a Go function, and its contract.
namespace Go.Proofs.Ytojpibpjieanhaa.X
open Go.RowKit Go.Proofs.YtojpibpjieanhaaW.PrintWords Go.Proofs.YtojpibpjieanhaaW.PrintLast Go.Proofs.YtojpibpjieanhaaW.PrintMore
attribute [local go_sem] max2_int min2_int max_two min_two max_three min_three max_four min_four   -- for this text's walks alone
set_option linter.unusedVariables false
set_option linter.unusedSimpArgs false

/-! ### laws_FnExactFlowPeriod: function 7 -/
def laws_FnExactFlowPeriod.j0 : Nat → Bool → List Int → List (S96) → List Int → List (S55) → Option (Bool)
  | 0, _, _, _, _, _ => none
  | k + 1, x34, x417000, x417001, x433000, x433001 => if x34 = true then (some false) else ((laws_toFlow.f k x417000 x417001).bind fun bt435 => ((laws_eqFlow.f k x433000 x433001 bt435.1 bt435.2).bind fun t441 => (if t441 = true then (some true) else (some false))))
def laws_FnExactFlowPeriod.f (k : Nat) (l0_0 : List Int) (l0_1 : List (S96)) : Option (Bool) := (laws_szFlow.f l0_0 l0_1 1048576).bind fun t417 => (if t417 < 0 then (some true) else ((laws_toFlow.f k l0_0 l0_1).bind fun bt418 => ((spec_FlowPeriod.f k bt418.1 bt418.2).bind fun bt424 => ((laws_toFlow.f k l0_0 l0_1).bind fun bt426 => ((impl_FlowPeriod.f k bt426.1 bt426.2).bind fun bt433 => (if bt433.1 = bt424.1 then (laws_FnExactFlowPeriod.j0 k (bt433.2 != bt424.2) l0_0 l0_1 bt426.1 bt426.2) else (laws_FnExactFlowPeriod.j0 k true l0_0 l0_1 bt426.1 bt426.2)))))))
theorem laws_FnExactFlowPeriod.mono_l : ∀ k, (∀ y0 y1 y2 y3 y4, LeO (laws_FnExactFlowPeriod.j0 k y0 y1 y2 y3 y4) (laws_FnExactFlowPeriod.j0 (k + 1) y0 y1 y2 y3 y4))
  | 0 => fun _ _ _ _ _ r h => by simp [laws_FnExactFlowPeriod.j0] at h
  | k + 1 => by
    have ih0 := laws_FnExactFlowPeriod.mono_l k
    · intro y0 y1 y2 y3 y4
      unfold laws_FnExactFlowPeriod.j0
      repeat' first
      | (with_reducible exact ih0 _ _ _ _ _)
      | (with_reducible exact impl_FlowPeriod.mono _ _ _)
      | (with_reducible exact laws_eqFlow.mono _ _ _ _ _)
      | (with_reducible exact laws_toFlow.mono _ _ _)
      | (with_reducible exact spec_FlowPeriod.mono _ _ _)
      | (with_reducible exact LeO.refl _)
      | (with_reducible exact LeO.none _)
      | (with_reducible refine LeO.ite ?_ ?_)
      | (with_reducible refine LeO.bind ?_ (fun _ => ?_))
      | exact ih0 _ _ _ _ _
      | exact impl_FlowPeriod.mono _ _ _
      | exact laws_eqFlow.mono _ _ _ _ _
      | exact laws_toFlow.mono _ _ _
      | exact spec_FlowPeriod.mono _ _ _
      | exact LeO.none _
      | refine LeO.ite ?_ ?_
      | refine LeO.bind ?_ (fun _ => ?_)
theorem laws_FnExactFlowPeriod.mono : ∀ a0 a1 k, LeO (laws_FnExactFlowPeriod.f k a0 a1) (laws_FnExactFlowPeriod.f (k + 1) a0 a1) := by
  intro a0 a1 k
  have ih0 := laws_FnExactFlowPeriod.mono_l k
  unfold laws_FnExactFlowPeriod.f
  repeat' first
      | (with_reducible exact ih0 _ _ _ _ _)
      | (with_reducible exact impl_FlowPeriod.mono _ _ _)
      | (with_reducible exact laws_eqFlow.mono _ _ _ _ _)
      | (with_reducible exact laws_toFlow.mono _ _ _)
      | (with_reducible exact spec_FlowPeriod.mono _ _ _)
      | (with_reducible exact LeO.refl _)
      | (with_reducible exact LeO.none _)
      | (with_reducible refine LeO.ite ?_ ?_)
      | (with_reducible refine LeO.bind ?_ (fun _ => ?_))
      | exact ih0 _ _ _ _ _
      | exact impl_FlowPeriod.mono _ _ _
      | exact laws_eqFlow.mono _ _ _ _ _
      | exact laws_toFlow.mono _ _ _
      | exact spec_FlowPeriod.mono _ _ _
      | exact LeO.none _
      | refine LeO.ite ?_ ?_
      | refine LeO.bind ?_ (fun _ => ?_)
set_option maxHeartbeats 8000000 in
set_option maxRecDepth 100000 in
theorem laws_FnExactFlowPeriod.calls (k : Nat) (A0_0 : Option Addr) (c0_0 : Nat) (l0_0 : List Int) (A0_1 : Option Addr) (c0_1 : Nat) (l0_1 : List (S96)) (r : Bool) (w : World) (hr0_0 : Kd.C (Kd.int .i64) w A0_0 l0_0.length l0_0) (hc0_0 : l0_0.length ≤ c0_0) (hr0_1 : Kd.C k96 w A0_1 l0_1.length l0_1) (hc0_1 : l0_1.length ≤ c0_1) (h : laws_FnExactFlowPeriod.f k l0_0 l0_1 = some r) :
    Calls Try.prog 7 #[.agg #[.slice A0_0 l0_0.length c0_0, .slice A0_1 l0_1.length c0_1]] w fun e w' => e = .returned (.bool r) ∧ Below w.heap.size w w' := by
  have hu31 := Try.underlying31
  have hu36 := Try.underlying36
  have HR0_0 := Aside0.mk hr0_0
  have HC0_0 := Aside0.mk hc0_0
  clear hr0_0 hc0_0
  have HR0_1 := Aside0.mk hr0_1
  have HC0_1 := Aside0.mk hc0_1
  clear hr0_1 hc0_1
  have HB := Aside0.mk (Below.refl w.heap.size w)
  have H : ((laws_szFlow.f l0_0 l0_1 1048576).bind fun t417 => (if t417 < 0 then (some true) else ((laws_toFlow.f k l0_0 l0_1).bind fun bt418 => ((spec_FlowPeriod.f k bt418.1 bt418.2).bind fun bt424 => ((laws_toFlow.f k l0_0 l0_1).bind fun bt426 => ((impl_FlowPeriod.f k bt426.1 bt426.2).bind fun bt433 => (if bt433.1 = bt424.1 then (laws_FnExactFlowPeriod.j0 k (bt433.2 != bt424.2) l0_0 l0_1 bt426.1 bt426.2) else (laws_FnExactFlowPeriod.j0 k true l0_0 l0_1 bt426.1 bt426.2)))))))) = some r := h
  clear h
  replace H := Option.bind_eq_some_iff.mp H
  obtain ⟨t417, A20, H⟩ := H
  replace H : (if t417 < 0 then (some true) else ((laws_toFlow.f k l0_0 l0_1).bind fun bt418 => ((spec_FlowPeriod.f k bt418.1 bt418.2).bind fun bt424 => ((laws_toFlow.f k l0_0 l0_1).bind fun bt426 => ((impl_FlowPeriod.f k bt426.1 bt426.2).bind fun bt433 => (if bt433.1 = bt424.1 then (laws_FnExactFlowPeriod.j0 k (bt433.2 != bt424.2) l0_0 l0_1 bt426.1 bt426.2) else (laws_FnExactFlowPeriod.j0 k true l0_0 l0_1 bt426.1 bt426.2))))))) = some r := H
  have A2 := Aside0.mk A20
  clear A20
  by_cases c3 : t417 < 0
  · rw [if_pos c3] at H
    have c3b0 : decide (t417 < 0) = true := decide_eq_true c3
    clear c3
    obtain rfl := Option.some.inj H
    go_enter Try.func7, Try.ntmps7
    go_wp2_with (first | ((with_reducible refine gate_dst (N := 1) rfl ?_); refine box_event ?hg (N := 1) ?hd (cs := #[.slice A0_0 l0_0.length c0_0, .slice A0_1 l0_1.length c0_1]) (t := 31) ?hr ?_; (case hd => rfl); (case hg => rfl); (case hr => first | (go_simp; done) | (go_simp; rfl)); intro gb416 hg w4 hbox hb; have n0_ := Aside0.mk (below_step (by repeat (first | (with_reducible first | exact HB.out | apply below_alloc | apply pw_below_drewN | apply below_drew1) | exact HB.out)) hb); have n1_ := Aside0.mk (hbox); have n2_ := Aside0.mk ((by rw [hg]; exact (below_size (by repeat (first | (with_reducible first | exact HB.out | apply below_alloc | apply pw_below_drewN | apply below_drew1) | exact HB.out))) : w.heap.size ≤ gb416)); have n3_ := Aside0.mk ((by rw [hg]; exact (below_size (by repeat (first | (with_reducible first | exact HB.out | apply below_alloc | apply pw_below_drewN | apply below_drew1) | exact HB.out))) : w.heap.size ≤ gb416)); clear HB; have HB := n0_; have BK416 := n1_; have GW416 := n2_; have GE416 := n3_; clear n0_ n1_ n2_ n3_; clear hb hbox hg; have hcz5_0 : w4.cell? ⟨gb416, 0, none⟩ = some (.slice A0_0 l0_0.length c0_0) := (blk_cell BK416.out 0).trans rfl; have hcz5_1 : w4.cell? ⟨gb416, 1, none⟩ = some (.slice A0_1 l0_1.length c0_1) := (blk_cell BK416.out 1).trans rfl; have hfz5_0 := blk_frozen BK416.out 0; have hfz5_1 := blk_frozen BK416.out 1) | ((with_reducible refine gate_callee (f := 20) rfl ?_); refine goesL_ (some 11) rfl rfl Try.func20 (by kernel_rfl) rfl #[.agg #[.slice A0_0 l0_0.length c0_0, .slice A0_1 l0_1.length c0_1], .int .i64 1048576] rfl (by (try simp only [List.map_toArray, List.map_cons, List.map_nil]); first | done | rfl | (simp only [List.length_drop, List.length_take]; rfl)) ?_; (with_reducible refine (laws_szFlow.calls _ _ l0_0 _ _ l0_1 1048576 t417 _ ?side1 ?side2 ?side3 ?side4 A2.out).mono ?_); (case side1 => repeat (first | exact (Kd.C_below HR0_0.out HB.out) | (with_reducible refine Kd.C_alloc ?_ _) | (with_reducible refine Kd.C_drewN ?_ _) | (with_reducible refine Kd.C_drew ?_))); (case side2 => first | exact trivial | (exact HC0_0.out)); (case side3 => repeat (first | exact (Kd.C_below HR0_1.out HB.out) | (with_reducible refine Kd.C_alloc ?_ _) | (with_reducible refine Kd.C_drewN ?_ _) | (with_reducible refine Kd.C_drew ?_))); (case side4 => first | exact trivial | (exact HC0_1.out)); rintro e w6 ⟨rfl, hb⟩; refine ⟨_, rfl, ?_⟩; have n0_ := Aside0.mk (blk_below (g := gb416) (o := .cells #[.slice A0_0 l0_0.length c0_0, .slice A0_1 l0_1.length c0_1] 31 (0, 0)) (by (with_reducible repeat (first | refine blk_drewN ?_ _ | refine blk_drew ?_ | refine blk_alloc ?_ _)); exact BK416.out) hb); have n1_ := Aside0.mk (below_step (by repeat (first | (with_reducible first | exact HB.out | apply below_alloc | apply pw_below_drewN | apply below_drew1 | refine below_set ?_ GE416.out) | exact HB.out)) hb); clear BK416; clear HB; have BK416 := n0_; have HB := n1_; clear n0_ n1_; (try clear hb); (try clear hb2); (try clear hk); (try clear hi)))
    go_ret
    exact ⟨by first | rfl | (simp [errW_none, errW_some] <;> rfl) | (simp [*, errW_none, errW_some] <;> rfl), by repeat (first | (with_reducible first | exact HB.out | apply below_alloc | apply pw_below_drewN | apply below_drew1 | refine below_set ?_ GE416.out) | exact HB.out)⟩
  · rw [if_neg c3] at H
    have c3b0 : decide (t417 < 0) = false := decide_eq_false c3
    clear c3
    replace H := Option.bind_eq_some_iff.mp H
    obtain ⟨⟨t418, t421⟩, A70, H⟩ := H
    replace H : ((spec_FlowPeriod.f k t418 t421).bind fun bt424 => ((laws_toFlow.f k l0_0 l0_1).bind fun bt426 => ((impl_FlowPeriod.f k bt426.1 bt426.2).bind fun bt433 => (if bt433.1 = bt424.1 then (laws_FnExactFlowPeriod.j0 k (bt433.2 != bt424.2) l0_0 l0_1 bt426.1 bt426.2) else (laws_FnExactFlowPeriod.j0 k true l0_0 l0_1 bt426.1 bt426.2))))) = some r := H
    have A7 := Aside0.mk A70
    clear A70
    replace H := Option.bind_eq_some_iff.mp H
    obtain ⟨⟨t424, t425⟩, A80, H⟩ := H
    replace H : ((laws_toFlow.f k l0_0 l0_1).bind fun bt426 => ((impl_FlowPeriod.f k bt426.1 bt426.2).bind fun bt433 => (if bt433.1 = t424 then (laws_FnExactFlowPeriod.j0 k (bt433.2 != t425) l0_0 l0_1 bt426.1 bt426.2) else (laws_FnExactFlowPeriod.j0 k true l0_0 l0_1 bt426.1 bt426.2)))) = some r := H
    have A8 := Aside0.mk A80
    clear A80
    replace H := Option.bind_eq_some_iff.mp H
    obtain ⟨⟨t426, t429⟩, A90, H⟩ := H
    replace H : ((impl_FlowPeriod.f k t426 t429).bind fun bt433 => (if bt433.1 = t424 then (laws_FnExactFlowPeriod.j0 k (bt433.2 != t425) l0_0 l0_1 t426 t429) else (laws_FnExactFlowPeriod.j0 k true l0_0 l0_1 t426 t429))) = some r := H
    have A9 := Aside0.mk A90
    clear A90
    replace H := Option.bind_eq_some_iff.mp H
    obtain ⟨⟨t433, t434⟩, A100, H⟩ := H
    replace H : (if t433 = t424 then (laws_FnExactFlowPeriod.j0 k (t434 != t425) l0_0 l0_1 t426 t429) else (laws_FnExactFlowPeriod.j0 k true l0_0 l0_1 t426 t429)) = some r := H
    have A10 := Aside0.mk A100
    clear A100
    have HC11 := Aside0.mk H
    clear H
    go_enter Try.func7, Try.ntmps7
    go_upto_region 8 with (first | ((with_reducible refine gate_dst (N := 1) rfl ?_); refine box_event ?hg (N := 1) ?hd (cs := #[.slice A0_0 l0_0.length c0_0, .slice A0_1 l0_1.length c0_1]) (t := 31) ?hr ?_; (case hd => rfl); (case hg => rfl); (case hr => first | (go_simp; done) | (go_simp; rfl)); intro gb416 hg w12 hbox hb; have n0_ := Aside0.mk (below_step (by repeat (first | (with_reducible first | exact HB.out | apply below_alloc | apply pw_below_drewN | apply below_drew1) | exact HB.out)) hb); have n1_ := Aside0.mk (hbox); have n2_ := Aside0.mk ((by rw [hg]; exact (below_size (by repeat (first | (with_reducible first | exact HB.out | apply below_alloc | apply pw_below_drewN | apply below_drew1) | exact HB.out))) : w.heap.size ≤ gb416)); have n3_ := Aside0.mk ((by rw [hg]; exact (below_size (by repeat (first | (with_reducible first | exact HB.out | apply below_alloc | apply pw_below_drewN | apply below_drew1) | exact HB.out))) : w.heap.size ≤ gb416)); clear HB; have HB := n0_; have BK416 := n1_; have GW416 := n2_; have GE416 := n3_; clear n0_ n1_ n2_ n3_; clear hb hbox hg; have hcz13_0 : w12.cell? ⟨gb416, 0, none⟩ = some (.slice A0_0 l0_0.length c0_0) := (blk_cell BK416.out 0).trans rfl; have hcz13_1 : w12.cell? ⟨gb416, 1, none⟩ = some (.slice A0_1 l0_1.length c0_1) := (blk_cell BK416.out 1).trans rfl; have hfz13_0 := blk_frozen BK416.out 0; have hfz13_1 := blk_frozen BK416.out 1) | ((with_reducible refine gate_callee (f := 20) rfl ?_); refine goesL_ (some 11) rfl rfl Try.func20 (by kernel_rfl) rfl #[.agg #[.slice A0_0 l0_0.length c0_0, .slice A0_1 l0_1.length c0_1], .int .i64 1048576] rfl (by (try simp only [List.map_toArray, List.map_cons, List.map_nil]); first | done | rfl | (simp only [List.length_drop, List.length_take]; rfl)) ?_; (with_reducible refine (laws_szFlow.calls _ _ l0_0 _ _ l0_1 1048576 t417 _ ?side1 ?side2 ?side3 ?side4 A2.out).mono ?_); (case side1 => repeat (first | exact (Kd.C_below HR0_0.out HB.out) | (with_reducible refine Kd.C_alloc ?_ _) | (with_reducible refine Kd.C_drewN ?_ _) | (with_reducible refine Kd.C_drew ?_))); (case side2 => first | exact trivial | (exact HC0_0.out)); (case side3 => repeat (first | exact (Kd.C_below HR0_1.out HB.out) | (with_reducible refine Kd.C_alloc ?_ _) | (with_reducible refine Kd.C_drewN ?_ _) | (with_reducible refine Kd.C_drew ?_))); (case side4 => first | exact trivial | (exact HC0_1.out)); rintro e w14 ⟨rfl, hb⟩; refine ⟨_, rfl, ?_⟩; have n0_ := Aside0.mk (blk_below (g := gb416) (o := .cells #[.slice A0_0 l0_0.length c0_0, .slice A0_1 l0_1.length c0_1] 31 (0, 0)) (by (with_reducible repeat (first | refine blk_drewN ?_ _ | refine blk_drew ?_ | refine blk_alloc ?_ _)); exact BK416.out) hb); have n1_ := Aside0.mk (below_step (by repeat (first | (with_reducible first | exact HB.out | apply below_alloc | apply pw_below_drewN | apply below_drew1 | refine below_set ?_ GE416.out) | exact HB.out)) hb); clear BK416; clear HB; have BK416 := n0_; have HB := n1_; clear n0_ n1_; (try clear hb); (try clear hb2); (try clear hk); (try clear hi); have hcz15_0 : w14.cell? ⟨gb416, 0, none⟩ = some (.slice A0_0 l0_0.length c0_0) := (blk_cell BK416.out 0).trans rfl; have hcz15_1 : w14.cell? ⟨gb416, 1, none⟩ = some (.slice A0_1 l0_1.length c0_1) := (blk_cell BK416.out 1).trans rfl; have hfz15_0 := blk_frozen BK416.out 0; have hfz15_1 := blk_frozen BK416.out 1) | ((with_reducible refine gate_callee (f := 22) rfl ?_); refine goesL_ (some 16) rfl rfl Try.func22 (by kernel_rfl) rfl #[.agg #[.slice A0_0 l0_0.length c0_0, .slice A0_1 l0_1.length c0_1]] rfl (by (try simp only [List.map_toArray, List.map_cons, List.map_nil]); first | done | rfl | (simp only [List.length_drop, List.length_take]; rfl)) ?_; (with_reducible refine (laws_toFlow.calls k _ _ l0_0 _ _ l0_1 t418 t421 _ ?side1 ?side2 ?side3 ?side4 A7.out).mono ?_); (case side1 => repeat (first | exact (Kd.C_below HR0_0.out HB.out) | (with_reducible refine Kd.C_alloc ?_ _) | (with_reducible refine Kd.C_drewN ?_ _) | (with_reducible refine Kd.C_drew ?_))); (case side2 => first | exact trivial | (exact HC0_0.out)); (case side3 => repeat (first | exact (Kd.C_below HR0_1.out HB.out) | (with_reducible refine Kd.C_alloc ?_ _) | (with_reducible refine Kd.C_drewN ?_ _) | (with_reducible refine Kd.C_drew ?_))); (case side4 => first | exact trivial | (exact HC0_1.out)); rintro e w16 ⟨v419, v422, rfl, ho0, ho1, hb⟩; refine ⟨_, rfl, ?_⟩; have n0_ := Aside0.mk (Kd.R_lower ho0 (below_size (by repeat (first | (with_reducible first | exact HB.out | apply below_alloc | apply pw_below_drewN | apply below_drew1 | refine below_set ?_ GE416.out) | exact HB.out)))); have n1_ := Aside0.mk (Kd.R_lower ho1 (below_size (by repeat (first | (with_reducible first | exact HB.out | apply below_alloc | apply pw_below_drewN | apply below_drew1 | refine below_set ?_ GE416.out) | exact HB.out)))); have n2_ := Aside0.mk (blk_below (g := gb416) (o := .cells #[.slice A0_0 l0_0.length c0_0, .slice A0_1 l0_1.length c0_1] 31 (0, 0)) (by (with_reducible repeat (first | refine blk_drewN ?_ _ | refine blk_drew ?_ | refine blk_alloc ?_ _)); exact BK416.out) hb); have n3_ := Aside0.mk (below_step (by repeat (first | (with_reducible first | exact HB.out | apply below_alloc | apply pw_below_drewN | apply below_drew1 | refine below_set ?_ GE416.out) | exact HB.out)) hb); clear BK416; clear HB; have HO420 := n0_; have HO423 := n1_; have BK416 := n2_; have HB := n3_; clear n0_ n1_ n2_ n3_; (try clear hb); (try clear hb2); (try clear hk); (try clear hi); (try clear ho0); (try clear ho1); obtain ⟨Ao17, co17, eo17⟩ := Kd.R_slice HO420.out; subst eo17; obtain ⟨Ao18, co18, eo18⟩ := Kd.R_slice HO423.out; subst eo18) | ((with_reducible refine gate_callee (f := 29) rfl ?_); refine goesL_ (some 17) rfl rfl Try.func29 (by kernel_rfl) rfl #[.agg #[.slice Ao17 t418.length co17, .slice Ao18 t421.length co18]] rfl (by (try simp only [List.map_toArray, List.map_cons, List.map_nil]); first | done | rfl | (simp only [List.length_drop, List.length_take]; rfl)) ?_; (with_reducible refine (spec_FlowPeriod.calls k _ _ t418 _ _ t421 t424 t425 _ ?side1 ?side2 ?side3 ?side4 A8.out).mono ?_); (case side1 => repeat (first | exact (Kd.R_reads' HO420.out).2.2 | (with_reducible refine Kd.C_alloc ?_ _) | (with_reducible refine Kd.C_drewN ?_ _) | (with_reducible refine Kd.C_drew ?_))); (case side2 => first | exact trivial | (exact (Kd.R_reads' HO420.out).2.1)); (case side3 => repeat (first | exact (Kd.R_reads' HO423.out).2.2 | (with_reducible refine Kd.C_alloc ?_ _) | (with_reducible refine Kd.C_drewN ?_ _) | (with_reducible refine Kd.C_drew ?_))); (case side4 => first | exact trivial | (exact (Kd.R_reads' HO423.out).2.1)); rintro e w19 ⟨rfl, hb⟩; refine ⟨_, rfl, ?_⟩; have n0_ := Aside0.mk (Kd.R_below (by (with_reducible repeat (first | apply Kd.R_alloc | apply Kd.R_drewN | apply Kd.R_drew)); exact HO420.out) hb); have n1_ := Aside0.mk (Kd.R_below (by (with_reducible repeat (first | apply Kd.R_alloc | apply Kd.R_drewN | apply Kd.R_drew)); exact HO423.out) hb); have n2_ := Aside0.mk (blk_below (g := gb416) (o := .cells #[.slice A0_0 l0_0.length c0_0, .slice A0_1 l0_1.length c0_1] 31 (0, 0)) (by (with_reducible repeat (first | refine blk_drewN ?_ _ | refine blk_drew ?_ | refine blk_alloc ?_ _)); exact BK416.out) hb); have n3_ := Aside0.mk (below_step (by repeat (first | (with_reducible first | exact HB.out | apply below_alloc | apply pw_below_drewN | apply below_drew1 | refine below_set ?_ GE416.out) | exact HB.out)) hb); clear HO420; clear HO423; clear BK416; clear HB; have HO420 := n0_; have HO423 := n1_; have BK416 := n2_; have HB := n3_; clear n0_ n1_ n2_ n3_; (try clear hb); (try clear hb2); (try clear hk); (try clear hi); have hcz20_0 : w19.cell? ⟨gb416, 0, none⟩ = some (.slice A0_0 l0_0.length c0_0) := (blk_cell BK416.out 0).trans rfl; have hcz20_1 : w19.cell? ⟨gb416, 1, none⟩ = some (.slice A0_1 l0_1.length c0_1) := (blk_cell BK416.out 1).trans rfl; have hfz20_0 := blk_frozen BK416.out 0; have hfz20_1 := blk_frozen BK416.out 1) | ((with_reducible refine gate_callee (f := 22) rfl ?_); refine goesL_ (some 21) rfl rfl Try.func22 (by kernel_rfl) rfl #[.agg #[.slice A0_0 l0_0.length c0_0, .slice A0_1 l0_1.length c0_1]] rfl (by (try simp only [List.map_toArray, List.map_cons, List.map_nil]); first | done | rfl | (simp only [List.length_drop, List.length_take]; rfl)) ?_; (with_reducible refine (laws_toFlow.calls k _ _ l0_0 _ _ l0_1 t426 t429 _ ?side1 ?side2 ?side3 ?side4 A9.out).mono ?_); (case side1 => repeat (first | exact (Kd.C_below HR0_0.out HB.out) | (with_reducible refine Kd.C_alloc ?_ _) | (with_reducible refine Kd.C_drewN ?_ _) | (with_reducible refine Kd.C_drew ?_))); (case side2 => first | exact trivial | (exact HC0_0.out)); (case side3 => repeat (first | exact (Kd.C_below HR0_1.out HB.out) | (with_reducible refine Kd.C_alloc ?_ _) | (with_reducible refine Kd.C_drewN ?_ _) | (with_reducible refine Kd.C_drew ?_))); (case side4 => first | exact trivial | (exact HC0_1.out)); rintro e w21 ⟨v427, v430, rfl, ho0, ho1, hb⟩; refine ⟨_, rfl, ?_⟩; have n0_ := Aside0.mk (Kd.R_elder' (by (with_reducible repeat (first | apply Kd.R_alloc | apply Kd.R_drewN | apply Kd.R_drew)); exact HO420.out) (Kd.R_base ho0) hb); have n1_ := Aside0.mk (Kd.R_elder' (by (with_reducible repeat (first | apply Kd.R_alloc | apply Kd.R_drewN | apply Kd.R_drew)); exact HO423.out) (Kd.R_base ho1) hb); have n2_ := Aside0.mk (Kd.R_lower (Kd.R_new' ho0 (Kd.R_lt (by (with_reducible repeat (first | apply Kd.R_alloc | apply Kd.R_drewN | apply Kd.R_drew)); exact HO420.out))) (below_size (by repeat (first | (with_reducible first | exact HB.out | apply below_alloc | apply pw_below_drewN | apply below_drew1 | refine below_set ?_ GE416.out) | exact HB.out)))); have n3_ := Aside0.mk (Kd.R_lower (Kd.R_new' ho1 (Kd.R_lt (by (with_reducible repeat (first | apply Kd.R_alloc | apply Kd.R_drewN | apply Kd.R_drew)); exact HO423.out))) (below_size (by repeat (first | (with_reducible first | exact HB.out | apply below_alloc | apply pw_below_drewN | apply below_drew1 | refine below_set ?_ GE416.out) | exact HB.out)))); have n4_ := Aside0.mk (blk_below (g := gb416) (o := .cells #[.slice A0_0 l0_0.length c0_0, .slice A0_1 l0_1.length c0_1] 31 (0, 0)) (by (with_reducible repeat (first | refine blk_drewN ?_ _ | refine blk_drew ?_ | refine blk_alloc ?_ _)); exact BK416.out) hb); have n5_ := Aside0.mk (below_step (by repeat (first | (with_reducible first | exact HB.out | apply below_alloc | apply pw_below_drewN | apply below_drew1 | refine below_set ?_ GE416.out) | exact HB.out)) hb); clear HO420; clear HO423; clear BK416; clear HB; have HO420 := n0_; have HO423 := n1_; have HO428 := n2_; have HO431 := n3_; have BK416 := n4_; have HB := n5_; clear n0_ n1_ n2_ n3_ n4_ n5_; (try clear hb); (try clear hb2); (try clear hk); (try clear hi); (try clear ho0); (try clear ho1)) | ((with_reducible refine gate_dst (N := 6) rfl ?_); refine box_event ?hg (N := 6) ?hd (cs := #[.slice none 0 0, .slice none 0 0]) (t := 36) ?hr ?_; (case hd => rfl); (case hg => rfl); (case hr => first | (go_simp; done) | (go_simp; rfl)); intro gb432 hg w22 hbox hb; have n0_ := Aside0.mk (Kd.R_below (by (with_reducible repeat (first | apply Kd.R_alloc | apply Kd.R_drewN | apply Kd.R_drew)); exact HO420.out) hb); have n1_ := Aside0.mk (Kd.R_below (by (with_reducible repeat (first | apply Kd.R_alloc | apply Kd.R_drewN | apply Kd.R_drew)); exact HO423.out) hb); have n2_ := Aside0.mk (Kd.R_below (by (with_reducible repeat (first | apply Kd.R_alloc | apply Kd.R_drewN | apply Kd.R_drew)); exact HO428.out) hb); have n3_ := Aside0.mk (Kd.R_below (by (with_reducible repeat (first | apply Kd.R_alloc | apply Kd.R_drewN | apply Kd.R_drew)); exact HO431.out) hb); have n4_ := Aside0.mk (blk_below (g := gb416) (o := .cells #[.slice A0_0 l0_0.length c0_0, .slice A0_1 l0_1.length c0_1] 31 (0, 0)) (by (with_reducible repeat (first | refine blk_drewN ?_ _ | refine blk_drew ?_ | refine blk_alloc ?_ _)); exact BK416.out) hb); have n5_ := Aside0.mk (below_step (by repeat (first | (with_reducible first | exact HB.out | apply below_alloc | apply pw_below_drewN | apply below_drew1 | refine below_set ?_ GE416.out) | exact HB.out)) hb); have n6_ := Aside0.mk (hbox); have n7_ := Aside0.mk ((by rw [hg]; exact (below_size (by repeat (first | (with_reducible first | exact HB.out | apply below_alloc | apply pw_below_drewN | apply below_drew1 | refine below_set ?_ GE416.out) | exact HB.out))) : w.heap.size ≤ gb432)); have n8_ := Aside0.mk ((by rw [hg]; exact (below_size (by repeat (first | (with_reducible first | exact HB.out | apply below_alloc | apply pw_below_drewN | apply below_drew1 | refine below_set ?_ GE416.out) | exact HB.out))) : w.heap.size ≤ gb432)); have n9_ := Aside0.mk ((by rw [hg]; exact Nat.ne_of_lt (blk_lt (g := gb416) (o := .cells #[.slice A0_0 l0_0.length c0_0, .slice A0_1 l0_1.length c0_1] 31 (0, 0)) (by (with_reducible repeat (first | refine blk_drewN ?_ _ | refine blk_drew ?_ | refine blk_alloc ?_ _)); exact BK416.out)) : gb416 ≠ gb432)); have n10_ := Aside0.mk ((by rw [hg]; exact Nat.ne_of_gt (blk_lt (g := gb416) (o := .cells #[.slice A0_0 l0_0.length c0_0, .slice A0_1 l0_1.length c0_1] 31 (0, 0)) (by (with_reducible repeat (first | refine blk_drewN ?_ _ | refine blk_drew ?_ | refine blk_alloc ?_ _)); exact BK416.out)) : gb432 ≠ gb416)); clear HO420; clear HO423; clear HO428; clear HO431; clear BK416; clear HB; have HO420 := n0_; have HO423 := n1_; have HO428 := n2_; have HO431 := n3_; have BK416 := n4_; have HB := n5_; have BK432 := n6_; have GW432 := n7_; have GE432 := n8_; have NB416_432 := n9_; have NB432_416 := n10_; clear n0_ n1_ n2_ n3_ n4_ n5_ n6_ n7_ n8_ n9_ n10_; clear hb hbox hg; obtain ⟨Ao23, co23, eo23⟩ := Kd.R_slice HO428.out; subst eo23; have hnb24 := NB432_416.out; have hnc24 := NB416_432.out; have hcz25_0 : w22.cell? ⟨gb432, 0, none⟩ = some (.slice none 0 0) := (blk_cell BK432.out 0).trans rfl; have hcz25_1 : w22.cell? ⟨gb432, 1, none⟩ = some (.slice none 0 0) := (blk_cell BK432.out 1).trans rfl; have hfz25_0 := blk_frozen BK432.out 0; have hfz25_1 := blk_frozen BK432.out 1; obtain ⟨Ao26, co26, eo26⟩ := Kd.R_slice HO431.out; subst eo26) | ((with_reducible refine gate_callee (f := 30) rfl ?_); refine goesL_ (some 24) rfl rfl Try.func30 (by kernel_rfl) rfl #[.agg #[.slice Ao23 t426.length co23, .slice Ao26 t429.length co26]] rfl (by (try simp only [List.map_toArray, List.map_cons, List.map_nil]); first | done | rfl | (simp only [List.length_drop, List.length_take]; rfl)) ?_; (with_reducible refine (impl_FlowPeriod.calls k _ _ t426 _ _ t429 t433 t434 _ ?side1 ?side2 ?side3 ?side4 A10.out).mono ?_); (case side1 => refine (Kd.R_reads' (e := 2) (base := w.heap.size) (ok := fun k_ => (True ∧ some k_ ≠ (.slice Ao17 t418.length co17 : Value).ownBlock)) (n := t426.length) (c := co23) ?_).2.2; exact (by (with_reducible repeat (first | apply Kd.R_alloc | apply Kd.R_drewN | apply Kd.R_drew)); exact (Kd.R_mono (Kd.R_far (p := ⟨gb432, 1, none⟩) (Kd.R_far (p := ⟨gb432, 0, none⟩) (Kd.R_types HO428.out BK432.out (by decide)) (fun _ hk => hk.2) (.slice Ao23 t426.length co23)) (fun _ hk => hk.2) (.slice Ao26 t429.length co26)) (fun _ h_ => h_.1)))); (case side2 => first | exact trivial | (exact (Kd.R_reads' HO428.out).2.1)); (case side3 => refine (Kd.R_reads' (e := 55) (base := w.heap.size) (ok := fun k_ => (True ∧ some k_ ≠ (.slice Ao18 t421.length co18 : Value).ownBlock)) (n := t429.length) (c := co26) ?_).2.2; exact (by (with_reducible repeat (first | apply Kd.R_alloc | apply Kd.R_drewN | apply Kd.R_drew)); exact (Kd.R_mono (Kd.R_far (p := ⟨gb432, 1, none⟩) (Kd.R_far (p := ⟨gb432, 0, none⟩) (Kd.R_types HO431.out BK432.out (by decide)) (fun _ hk => hk.2) (.slice Ao23 t426.length co23)) (fun _ hk => hk.2) (.slice Ao26 t429.length co26)) (fun _ h_ => h_.1)))); (case side4 => first | exact trivial | (exact (Kd.R_reads' HO431.out).2.1)); rintro e w27 ⟨rfl, hb⟩; refine ⟨_, rfl, ?_⟩; have n0_ := Aside0.mk (Kd.R_below (by (with_reducible repeat (first | apply Kd.R_alloc | apply Kd.R_drewN | apply Kd.R_drew)); exact (Kd.R_mono (Kd.R_far (p := ⟨gb432, 1, none⟩) (Kd.R_far (p := ⟨gb432, 0, none⟩) (Kd.R_types HO420.out BK432.out (by decide)) (fun _ hk => hk.2) (.slice Ao23 t426.length co23)) (fun _ hk => hk.2) (.slice Ao26 t429.length co26)) (fun _ h_ => h_.1))) hb); have n1_ := Aside0.mk (Kd.R_below (by (with_reducible repeat (first | apply Kd.R_alloc | apply Kd.R_drewN | apply Kd.R_drew)); exact (Kd.R_mono (Kd.R_far (p := ⟨gb432, 1, none⟩) (Kd.R_far (p := ⟨gb432, 0, none⟩) (Kd.R_types HO423.out BK432.out (by decide)) (fun _ hk => hk.2) (.slice Ao23 t426.length co23)) (fun _ hk => hk.2) (.slice Ao26 t429.length co26)) (fun _ h_ => h_.1))) hb); have n2_ := Aside0.mk (Kd.R_below (by (with_reducible repeat (first | apply Kd.R_alloc | apply Kd.R_drewN | apply Kd.R_drew)); exact (Kd.R_mono (Kd.R_far (p := ⟨gb432, 1, none⟩) (Kd.R_far (p := ⟨gb432, 0, none⟩) (Kd.R_types HO428.out BK432.out (by decide)) (fun _ hk => hk.2) (.slice Ao23 t426.length co23)) (fun _ hk => hk.2) (.slice Ao26 t429.length co26)) (fun _ h_ => h_.1))) hb); have n3_ := Aside0.mk (Kd.R_below (by (with_reducible repeat (first | apply Kd.R_alloc | apply Kd.R_drewN | apply Kd.R_drew)); exact (Kd.R_mono (Kd.R_far (p := ⟨gb432, 1, none⟩) (Kd.R_far (p := ⟨gb432, 0, none⟩) (Kd.R_types HO431.out BK432.out (by decide)) (fun _ hk => hk.2) (.slice Ao23 t426.length co23)) (fun _ hk => hk.2) (.slice Ao26 t429.length co26)) (fun _ h_ => h_.1))) hb); have n4_ := Aside0.mk (blk_below (g := gb416) (o := .cells #[.slice A0_0 l0_0.length c0_0, .slice A0_1 l0_1.length c0_1] 31 (0, 0)) (by (with_reducible repeat (first | refine blk_drewN ?_ _ | refine blk_drew ?_ | refine blk_alloc ?_ _)); refine blk_far ?_ NB416_432.out _; (with_reducible repeat (first | refine blk_drewN ?_ _ | refine blk_drew ?_ | refine blk_alloc ?_ _)); refine blk_far ?_ NB416_432.out _; (with_reducible repeat (first | refine blk_drewN ?_ _ | refine blk_drew ?_ | refine blk_alloc ?_ _)); exact BK416.out) hb); have n5_ := Aside0.mk (blk_below (g := gb432) (o := .cells #[.slice Ao23 t426.length co23, .slice Ao26 t429.length co26] 36 (0, 0)) (by (with_reducible repeat (first | refine blk_drewN ?_ _ | refine blk_drew ?_ | refine blk_alloc ?_ _)); refine blk_put (cs := #[.slice Ao23 t426.length co23, .slice none 0 0]) ?_ 1 _ rfl; (with_reducible repeat (first | refine blk_drewN ?_ _ | refine blk_drew ?_ | refine blk_alloc ?_ _)); refine blk_put (cs := #[.slice none 0 0, .slice none 0 0]) ?_ 0 _ rfl; (with_reducible repeat (first | refine blk_drewN ?_ _ | refine blk_drew ?_ | refine blk_alloc ?_ _)); exact BK432.out) hb); have n6_ := Aside0.mk (below_step (by repeat (first | (with_reducible first | exact HB.out | apply below_alloc | apply pw_below_drewN | apply below_drew1 | refine below_set ?_ GE416.out | refine below_set ?_ GE432.out) | exact HB.out)) hb); clear HO420; clear HO423; clear HO428; clear HO431; clear BK416; clear BK432; clear HB; have HO420 := n0_; have HO423 := n1_; have HO428 := n2_; have HO431 := n3_; have BK416 := n4_; have BK432 := n5_; have HB := n6_; clear n0_ n1_ n2_ n3_ n4_ n5_ n6_; (try clear hb); (try clear hb2); (try clear hk); (try clear hi)))
    (try simp only [Act.put, List.setIfInBounds_toArray, List.set_cons_zero, List.set_cons_succ])
    go_cut [34] (fun v34 wc => ∃ (kq : Nat) (x34_10 : Bool), v34 = .bool x34_10 ∧ Aside0 (laws_FnExactFlowPeriod.j0 kq x34_10 l0_0 l0_1 t426 t429 = some r) ∧ Aside0 (kq ≤ k) ∧ Aside0 (Kd.R (Kd.int .i64) 2 wc w.heap.size (fun _ => True) (.slice Ao23 t426.length co23) t426) ∧ Aside0 (Kd.R k55 55 wc w.heap.size (fun _ => True) (.slice Ao26 t429.length co26) t429) ∧ Aside0 (wc.heap[gb416]? = some (.cells #[(.slice A0_0 l0_0.length c0_0), (.slice A0_1 l0_1.length c0_1)] 31 (0, 0))) ∧ Aside0 (wc.heap[gb432]? = some (.cells #[(.slice Ao23 t426.length co23), (.slice Ao26 t429.length co26)] 36 (0, 0))) ∧ Aside0 (Below w.heap.size w wc))
    case first =>
      have H := HC11.out
      clear HC11
      by_cases c28 : t433 = t424
      · rw [if_pos c28] at H
        have c28b0 : (t433 == t424) = true := beq_iff_eq.mpr c28
        have c28b1 : (t433 != t424) = false := bne_eq_false_iff_eq.mpr c28
        clear c28
        (first | rw [c28b0] | (simp only [i64_w, i32_w]; rw [c28b0]) | skip)
        have H' := Aside0.mk H
        clear H
        go_wp2
        go_meet
        case rel => exact ⟨_, ((t434 != t425)), (by first | rfl | (simp; done) | (simp [*]; done)), H', ⟨by first | omega | exact Nat.le_refl _⟩, ⟨by (with_reducible repeat (first | apply Kd.R_alloc | apply Kd.R_drewN | apply Kd.R_drew)); exact Kd.R_mono HO428.out (fun _ hk => trivial)⟩, ⟨by (with_reducible repeat (first | apply Kd.R_alloc | apply Kd.R_drewN | apply Kd.R_drew)); exact Kd.R_mono HO431.out (fun _ hk => trivial)⟩, ⟨by (with_reducible repeat (first | refine blk_drewN ?_ _ | refine blk_drew ?_ | refine blk_alloc ?_ _)); exact BK416.out⟩, ⟨by (with_reducible repeat (first | refine blk_drewN ?_ _ | refine blk_drew ?_ | refine blk_alloc ?_ _)); exact BK432.out⟩, ⟨by repeat (first | (with_reducible first | exact HB.out | apply below_alloc | apply pw_below_drewN | apply below_drew1 | refine below_set ?_ GE416.out | refine below_set ?_ GE432.out) | exact HB.out)⟩⟩
      · rw [if_neg c28] at H
        have c28b0 : (t433 == t424) = false := beq_eq_false_iff_ne.mpr c28
        have c28b1 : (t433 != t424) = true := bne_iff_ne.mpr c28
        (first | rw [c28b0] | (simp only [i64_w, i32_w]; rw [c28b0]) | skip)
        have H' := Aside0.mk H
        clear H
        go_wp2
        go_meet
        case rel => exact ⟨_, (true), (by first | rfl | (simp; done) | (simp [*]; done)), H', ⟨by first | omega | exact Nat.le_refl _⟩, ⟨by (with_reducible repeat (first | apply Kd.R_alloc | apply Kd.R_drewN | apply Kd.R_drew)); exact Kd.R_mono HO428.out (fun _ hk => trivial)⟩, ⟨by (with_reducible repeat (first | apply Kd.R_alloc | apply Kd.R_drewN | apply Kd.R_drew)); exact Kd.R_mono HO431.out (fun _ hk => trivial)⟩, ⟨by (with_reducible repeat (first | refine blk_drewN ?_ _ | refine blk_drew ?_ | refine blk_alloc ?_ _)); exact BK416.out⟩, ⟨by (with_reducible repeat (first | refine blk_drewN ?_ _ | refine blk_drew ?_ | refine blk_alloc ?_ _)); exact BK432.out⟩, ⟨by repeat (first | (with_reducible first | exact HB.out | apply below_alloc | apply pw_below_drewN | apply below_drew1 | refine below_set ?_ GE416.out | refine below_set ?_ GE432.out) | exact HB.out)⟩⟩
    case rest =>
      clear HC11
      try clear c2
      try clear p2
      try clear c3
      try clear c3b0
      try clear c7
      try clear c20
      try clear c22
      try clear c24
      try clear c28
      try clear c28b0
      try clear c28b1
      try clear hcz13_0
      try clear hcz13_1
      try clear hcz15_0
      try clear hcz15_1
      try clear hcz20_0
      try clear hcz20_1
      try clear hcz25_0
      try clear hcz25_1
      try clear hcz5_0
      try clear hcz5_1
      try clear hfz13_0
      try clear hfz13_1
      try clear hfz15_0
      try clear hfz15_1
      try clear hfz20_0
      try clear hfz20_1
      try clear hfz25_0
      try clear hfz25_1
      try clear hfz5_0
      try clear hfz5_1
      obtain ⟨kq, x34_10, rfl, HA, HJ10, HO_433000, HO_433001, BK416, BK432, HB⟩ := hcut
      cases kq with
      | zero => exact absurd HA.out (by simp [laws_FnExactFlowPeriod.j0])
      | succ kj10 =>
        have H := HA.out
        clear HA
        simp only [laws_FnExactFlowPeriod.j0] at H
        by_cases c29 : x34_10 = true
        · subst c29
          have H1 : (some false) = some r := by rw [if_pos rfl] at H; exact H
          clear H
          have H := H1
          clear H1
          obtain rfl := Option.some.inj H
          go_wp2
          go_ret
          exact ⟨by first | rfl | (simp [errW_none, errW_some] <;> rfl) | (simp [*, errW_none, errW_some] <;> rfl), by repeat (first | (with_reducible first | exact HB.out | apply below_alloc | apply pw_below_drewN | apply below_drew1 | refine below_set ?_ GE416.out | refine below_set ?_ GE432.out) | exact HB.out)⟩
        · replace c29 := Bool.eq_false_iff.mpr c29
          subst c29
          have H1 : ((laws_toFlow.f kj10 l0_0 l0_1).bind fun bt435 => ((laws_eqFlow.f kj10 t426 t429 bt435.1 bt435.2).bind fun t441 => (if t441 = true then (some true) else (some false)))) = some r := by rw [if_neg (show ¬ (false = true) by decide)] at H; exact H
          clear H
          have H := H1
          clear H1
          replace H := Option.bind_eq_some_iff.mp H
          obtain ⟨⟨t435, t438⟩, A300, H⟩ := H
          replace H : ((laws_eqFlow.f kj10 t426 t429 t435 t438).bind fun t441 => (if t441 = true then (some true) else (some false))) = some r := H
          have A30 := Aside0.mk A300
          clear A300
          replace H := Option.bind_eq_some_iff.mp H
          obtain ⟨t441, A310, H⟩ := H
          replace H : (if t441 = true then (some true) else (some false)) = some r := H
          have A31 := Aside0.mk A310
          clear A310
          by_cases c32 : t441 = true
          · subst c32
            have H1 : (some true) = some r := by rw [if_pos rfl] at H; exact H
            clear H
            have H := H1
            clear H1
            obtain rfl := Option.some.inj H
            try go_wp2
            have n0_ := Aside0.mk (Kd.R_drew HO_433000.out)
            have n1_ := Aside0.mk (Kd.R_drew HO_433001.out)
            have n2_ := Aside0.mk (blk_drew BK416.out)
            have n3_ := Aside0.mk (blk_drew BK432.out)
            have n4_ := Aside0.mk (below_drew1 HB.out)
            clear HO_433000
            clear HO_433001
            clear BK416
            clear BK432
            clear HB
            have HO_433000 := n0_
            have HO_433001 := n1_
            have BK416 := n2_
            have BK432 := n3_
            have HB := n4_
            clear n0_ n1_ n2_ n3_ n4_
            refine start_ (n := 5) (S := fun w' => w'.cell? ⟨gb432, 0, none⟩ = some (.slice Ao23 t426.length co23) ∧ w'.cell? ⟨gb432, 1, none⟩ = some (.slice Ao26 t429.length co26) ∧ w'.cell? ⟨gb416, 0, none⟩ = some (.slice A0_0 l0_0.length c0_0) ∧ w'.cell? ⟨gb416, 1, none⟩ = some (.slice A0_1 l0_1.length c0_1)) (ds := []) #[false, false, false, false, false] (by kernel_rfl) rfl rfl ⟨(blk_cell BK432.out 0).trans rfl, (blk_cell BK432.out 1).trans rfl, (blk_cell BK416.out 0).trans rfl, (blk_cell BK416.out 1).trans rfl⟩ (fun hHeld => ?_)
            generalize wc.drew = w33 at HO_433000 HO_433001 BK416 BK432 HB hHeld ⊢
            refine take_ (i := 0) (N := some 35) (v := ?_) (a' := ?_) #[true, false, false, false, false] rfl rfl (by kernel_rfl) (fun _ _ _ h => h) (Or.inl ⟨by rfl, ?_⟩) hHeld ?_ ?_
            rotate_left
            · rintro w' ⟨s0, s1, s2, s3⟩
              go_simp
              with_reducible rfl
            rotate_left
            · simp only [Act.put, List.setIfInBounds_toArray, List.set_cons_zero, List.set_cons_succ, i64_w, i32_w]
              rfl
            refine take_ (i := 1) (N := some 36) (v := ?_) (a' := ?_) #[true, true, false, false, false] rfl rfl (by kernel_rfl) (fun _ _ _ h => h) (Or.inl ⟨by rfl, ?_⟩) hHeld ?_ ?_
            rotate_left
            · rintro w' ⟨s0, s1, s2, s3⟩
              go_simp
              with_reducible rfl
            rotate_left
            · simp only [Act.put, List.setIfInBounds_toArray, List.set_cons_zero, List.set_cons_succ, i64_w, i32_w]
              rfl
            refine one_ (i := 2) (N := some 37) #[true, true, true, false, false] rfl rfl (by kernel_rfl) (by decide) (fun K hK => ?_)
            refine goes_ Try.func22 (by kernel_rfl) rfl #[.agg #[.slice A0_0 l0_0.length c0_0, .slice A0_1 l0_1.length c0_1]] (by rfl) rfl rfl (by (try simp only [List.map_toArray, List.map_cons, List.map_nil]); first | done | rfl | (simp only [List.length_drop, List.length_take]; rfl)) ?_
            with_reducible refine (laws_toFlow.calls kj10 _ _ l0_0 _ _ l0_1 t435 t438 _ ?side1 ?side2 ?side3 ?side4 A30.out).mono ?_
            (case side1 => repeat (first | exact (Kd.C_below HR0_0.out HB.out) | (with_reducible refine Kd.C_alloc ?_ _) | (with_reducible refine Kd.C_drewN ?_ _) | (with_reducible refine Kd.C_drew ?_)))
            (case side2 => first | exact trivial | (exact HC0_0.out))
            (case side3 => repeat (first | exact (Kd.C_below HR0_1.out HB.out) | (with_reducible refine Kd.C_alloc ?_ _) | (with_reducible refine Kd.C_drewN ?_ _) | (with_reducible refine Kd.C_drew ?_)))
            (case side4 => first | exact trivial | (exact HC0_1.out))
            rintro e w34 ⟨v436, v439, rfl, ho0, ho1, hb⟩
            refine ⟨_, rfl, ?_⟩
            have n0_ := Aside0.mk (Kd.R_elder' (by (with_reducible repeat (first | apply Kd.R_alloc | apply Kd.R_drewN | apply Kd.R_drew)); exact HO_433000.out) (Kd.R_base ho0) hb)
            have n1_ := Aside0.mk (Kd.R_elder' (by (with_reducible repeat (first | apply Kd.R_alloc | apply Kd.R_drewN | apply Kd.R_drew)); exact HO_433001.out) (Kd.R_base ho1) hb)
            have n2_ := Aside0.mk (Kd.R_lower (Kd.R_new' ho0 (Kd.R_lt (by (with_reducible repeat (first | apply Kd.R_alloc | apply Kd.R_drewN | apply Kd.R_drew)); exact HO_433000.out))) (below_size (by repeat (first | (with_reducible first | exact HB.out | apply below_alloc | apply pw_below_drewN | apply below_drew1 | refine below_set ?_ GE416.out | refine below_set ?_ GE432.out) | exact HB.out))))
            have n3_ := Aside0.mk (Kd.R_lower (Kd.R_new' ho1 (Kd.R_lt (by (with_reducible repeat (first | apply Kd.R_alloc | apply Kd.R_drewN | apply Kd.R_drew)); exact HO_433001.out))) (below_size (by repeat (first | (with_reducible first | exact HB.out | apply below_alloc | apply pw_below_drewN | apply below_drew1 | refine below_set ?_ GE416.out | refine below_set ?_ GE432.out) | exact HB.out))))
            have n4_ := Aside0.mk (blk_below (g := gb416) (o := .cells #[.slice A0_0 l0_0.length c0_0, .slice A0_1 l0_1.length c0_1] 31 (0, 0)) (by (with_reducible repeat (first | refine blk_drewN ?_ _ | refine blk_drew ?_ | refine blk_alloc ?_ _)); exact BK416.out) hb)
            have n5_ := Aside0.mk (blk_below (g := gb432) (o := .cells #[.slice Ao23 t426.length co23, .slice Ao26 t429.length co26] 36 (0, 0)) (by (with_reducible repeat (first | refine blk_drewN ?_ _ | refine blk_drew ?_ | refine blk_alloc ?_ _)); exact BK432.out) hb)
            have n6_ := Aside0.mk (below_step (by repeat (first | (with_reducible first | exact HB.out | apply below_alloc | apply pw_below_drewN | apply below_drew1 | refine below_set ?_ GE416.out | refine below_set ?_ GE432.out) | exact HB.out)) hb)
            clear HO_433000
            clear HO_433001
            clear BK416
            clear BK432
            clear HB
            have HO_433000 := n0_
            have HO_433001 := n1_
            have HO437 := n2_
            have HO440 := n3_
            have BK416 := n4_
            have BK432 := n5_
            have HB := n6_
            clear n0_ n1_ n2_ n3_ n4_ n5_ n6_
            (try clear hb)
            (try clear hb2)
            (try clear hk)
            (try clear hi)
            (try clear ho0)
            (try clear ho1)
            obtain ⟨Ao35, co35, eo35⟩ := Kd.R_slice HO437.out
            (first | subst eo35 | (injection eo35 with f1_ f2_ f3_; have f4_ := f1_.symm; have f5_ := f3_.symm; clear f1_ f2_ f3_; subst f4_; subst f5_))
            obtain ⟨Ao36, co36, eo36⟩ := Kd.R_slice HO440.out
            (first | subst eo36 | (injection eo36 with f1_ f2_ f3_; have f4_ := f1_.symm; have f5_ := f3_.symm; clear f1_ f2_ f3_; subst f4_; subst f5_))
            refine hK.out _ _ ⟨(blk_cell BK432.out 0).trans rfl, (blk_cell BK432.out 1).trans rfl, (blk_cell BK416.out 0).trans rfl, (blk_cell BK416.out 1).trans rfl⟩ (fun hHeld => ?_)
            clear hK K
            refine norm_ (a' := ?_) ?_ ?_
            rotate_left
            · show Act.put _ (some 37) _ = _
              simp only [Act.put, List.setIfInBounds_toArray, List.set_cons_zero, List.set_cons_succ, i64_w, i32_w]
              rfl
            refine one_ (i := 3) (N := some 38) #[true, true, true, true, false] rfl rfl (by kernel_rfl) (by decide) (fun K hK => ?_)
            refine goes_ Try.func24 (by kernel_rfl) rfl #[.agg #[.slice Ao23 t426.length co23, .slice Ao26 t429.length co26], .agg #[.slice Ao35 t435.length co35, .slice Ao36 t438.length co36]] (by rfl) rfl rfl (by (try simp only [List.map_toArray, List.map_cons, List.map_nil]); first | done | rfl | (simp only [List.length_drop, List.length_take]; rfl)) ?_
            with_reducible refine (laws_eqFlow.calls kj10 _ _ t426 _ _ t429 _ _ t435 _ _ t438 true _ ?side1 ?side2 ?side3 ?side4 ?side5 ?side6 ?side7 ?side8 A31.out).mono ?_
            (case side1 => repeat (first | exact (Kd.R_reads' HO_433000.out).2.2 | (with_reducible refine Kd.C_alloc ?_ _) | (with_reducible refine Kd.C_drewN ?_ _) | (with_reducible refine Kd.C_drew ?_)))
            (case side2 => first | exact trivial | (exact (Kd.R_reads' HO_433000.out).2.1))
            (case side3 => repeat (first | exact (Kd.R_reads' HO_433001.out).2.2 | (with_reducible refine Kd.C_alloc ?_ _) | (with_reducible refine Kd.C_drewN ?_ _) | (with_reducible refine Kd.C_drew ?_)))
            (case side4 => first | exact trivial | (exact (Kd.R_reads' HO_433001.out).2.1))
            (case side5 => repeat (first | exact (Kd.R_reads' HO437.out).2.2 | (with_reducible refine Kd.C_alloc ?_ _) | (with_reducible refine Kd.C_drewN ?_ _) | (with_reducible refine Kd.C_drew ?_)))
            (case side6 => first | exact trivial | (exact (Kd.R_reads' HO437.out).2.1))
            (case side7 => repeat (first | exact (Kd.R_reads' HO440.out).2.2 | (with_reducible refine Kd.C_alloc ?_ _) | (with_reducible refine Kd.C_drewN ?_ _) | (with_reducible refine Kd.C_drew ?_)))
            (case side8 => first | exact trivial | (exact (Kd.R_reads' HO440.out).2.1))
            rintro e w37 ⟨rfl, hb⟩
            refine ⟨_, rfl, ?_⟩
            have n0_ := Aside0.mk (Kd.R_below (by (with_reducible repeat (first | apply Kd.R_alloc | apply Kd.R_drewN | apply Kd.R_drew)); exact HO_433000.out) hb)
            have n1_ := Aside0.mk (Kd.R_below (by (with_reducible repeat (first | apply Kd.R_alloc | apply Kd.R_drewN | apply Kd.R_drew)); exact HO_433001.out) hb)
            have n2_ := Aside0.mk (Kd.R_below (by (with_reducible repeat (first | apply Kd.R_alloc | apply Kd.R_drewN | apply Kd.R_drew)); exact HO437.out) hb)
            have n3_ := Aside0.mk (Kd.R_below (by (with_reducible repeat (first | apply Kd.R_alloc | apply Kd.R_drewN | apply Kd.R_drew)); exact HO440.out) hb)
            have n4_ := Aside0.mk (blk_below (g := gb416) (o := .cells #[.slice A0_0 l0_0.length c0_0, .slice A0_1 l0_1.length c0_1] 31 (0, 0)) (by (with_reducible repeat (first | refine blk_drewN ?_ _ | refine blk_drew ?_ | refine blk_alloc ?_ _)); exact BK416.out) hb)
            have n5_ := Aside0.mk (blk_below (g := gb432) (o := .cells #[.slice Ao23 t426.length co23, .slice Ao26 t429.length co26] 36 (0, 0)) (by (with_reducible repeat (first | refine blk_drewN ?_ _ | refine blk_drew ?_ | refine blk_alloc ?_ _)); exact BK432.out) hb)
            have n6_ := Aside0.mk (below_step (by repeat (first | (with_reducible first | exact HB.out | apply below_alloc | apply pw_below_drewN | apply below_drew1 | refine below_set ?_ GE416.out | refine below_set ?_ GE432.out) | exact HB.out)) hb)
            clear HO_433000
            clear HO_433001
            clear HO437
            clear HO440
            clear BK416
            clear BK432
            clear HB
            have HO_433000 := n0_
            have HO_433001 := n1_
            have HO437 := n2_
            have HO440 := n3_
            have BK416 := n4_
            have BK432 := n5_
            have HB := n6_
            clear n0_ n1_ n2_ n3_ n4_ n5_ n6_
            (try clear hb)
            (try clear hb2)
            (try clear hk)
            (try clear hi)
            refine hK.out _ _ ⟨(blk_cell BK432.out 0).trans rfl, (blk_cell BK432.out 1).trans rfl, (blk_cell BK416.out 0).trans rfl, (blk_cell BK416.out 1).trans rfl⟩ (fun hHeld => ?_)
            clear hK K
            refine norm_ (a' := ?_) ?_ ?_
            rotate_left
            · show Act.put _ (some 38) _ = _
              simp only [Act.put, List.setIfInBounds_toArray, List.set_cons_zero, List.set_cons_succ, i64_w, i32_w]
              rfl
            refine pure_ (i := 4) (N := some 39) (v := ?_) (a' := ?_) #[true, true, true, true, true] rfl rfl (by kernel_rfl) (fun _ _ _ h => h) (Or.inl ⟨by rfl, ?_⟩) ?_ ?_
            rotate_left
            · intro w'
              go_simp
              with_reducible rfl
            rotate_left
            · simp only [Act.put, List.setIfInBounds_toArray, List.set_cons_zero, List.set_cons_succ, i64_w, i32_w]
              rfl
            refine done_ (by kernel_rfl) ?_
            try go_wp2
            go_ret
            exact ⟨by first | rfl | (simp [errW_none, errW_some] <;> rfl) | (simp [*, errW_none, errW_some] <;> rfl), by repeat (first | (with_reducible first | exact HB.out | apply below_alloc | apply pw_below_drewN | apply below_drew1 | refine below_set ?_ GE416.out | refine below_set ?_ GE432.out) | exact HB.out)⟩
          · replace c32 := Bool.eq_false_iff.mpr c32
            subst c32
            have H1 : (some false) = some r := by rw [if_neg (show ¬ (false = true) by decide)] at H; exact H
            clear H
            have H := H1
            clear H1
            obtain rfl := Option.some.inj H
            try go_wp2
            have n0_ := Aside0.mk (Kd.R_drew HO_433000.out)
            have n1_ := Aside0.mk (Kd.R_drew HO_433001.out)
            have n2_ := Aside0.mk (blk_drew BK416.out)
            have n3_ := Aside0.mk (blk_drew BK432.out)
            have n4_ := Aside0.mk (below_drew1 HB.out)
            clear HO_433000
            clear HO_433001
            clear BK416
            clear BK432
            clear HB
            have HO_433000 := n0_
            have HO_433001 := n1_
            have BK416 := n2_
            have BK432 := n3_
            have HB := n4_
            clear n0_ n1_ n2_ n3_ n4_
            refine start_ (n := 5) (S := fun w' => w'.cell? ⟨gb432, 0, none⟩ = some (.slice Ao23 t426.length co23) ∧ w'.cell? ⟨gb432, 1, none⟩ = some (.slice Ao26 t429.length co26) ∧ w'.cell? ⟨gb416, 0, none⟩ = some (.slice A0_0 l0_0.length c0_0) ∧ w'.cell? ⟨gb416, 1, none⟩ = some (.slice A0_1 l0_1.length c0_1)) (ds := []) #[false, false, false, false, false] (by kernel_rfl) rfl rfl ⟨(blk_cell BK432.out 0).trans rfl, (blk_cell BK432.out 1).trans rfl, (blk_cell BK416.out 0).trans rfl, (blk_cell BK416.out 1).trans rfl⟩ (fun hHeld => ?_)
            generalize wc.drew = w38 at HO_433000 HO_433001 BK416 BK432 HB hHeld ⊢
            refine take_ (i := 0) (N := some 35) (v := ?_) (a' := ?_) #[true, false, false, false, false] rfl rfl (by kernel_rfl) (fun _ _ _ h => h) (Or.inl ⟨by rfl, ?_⟩) hHeld ?_ ?_
            rotate_left
            · rintro w' ⟨s0, s1, s2, s3⟩
              go_simp
              with_reducible rfl
            rotate_left
            · simp only [Act.put, List.setIfInBounds_toArray, List.set_cons_zero, List.set_cons_succ, i64_w, i32_w]
              rfl
            refine take_ (i := 1) (N := some 36) (v := ?_) (a' := ?_) #[true, true, false, false, false] rfl rfl (by kernel_rfl) (fun _ _ _ h => h) (Or.inl ⟨by rfl, ?_⟩) hHeld ?_ ?_
            rotate_left
            · rintro w' ⟨s0, s1, s2, s3⟩
              go_simp
              with_reducible rfl
            rotate_left
            · simp only [Act.put, List.setIfInBounds_toArray, List.set_cons_zero, List.set_cons_succ, i64_w, i32_w]
              rfl
            refine one_ (i := 2) (N := some 37) #[true, true, true, false, false] rfl rfl (by kernel_rfl) (by decide) (fun K hK => ?_)
            refine goes_ Try.func22 (by kernel_rfl) rfl #[.agg #[.slice A0_0 l0_0.length c0_0, .slice A0_1 l0_1.length c0_1]] (by rfl) rfl rfl (by (try simp only [List.map_toArray, List.map_cons, List.map_nil]); first | done | rfl | (simp only [List.length_drop, List.length_take]; rfl)) ?_
            with_reducible refine (laws_toFlow.calls kj10 _ _ l0_0 _ _ l0_1 t435 t438 _ ?side1 ?side2 ?side3 ?side4 A30.out).mono ?_
            (case side1 => repeat (first | exact (Kd.C_below HR0_0.out HB.out) | (with_reducible refine Kd.C_alloc ?_ _) | (with_reducible refine Kd.C_drewN ?_ _) | (with_reducible refine Kd.C_drew ?_)))
            (case side2 => first | exact trivial | (exact HC0_0.out))
            (case side3 => repeat (first | exact (Kd.C_below HR0_1.out HB.out) | (with_reducible refine Kd.C_alloc ?_ _) | (with_reducible refine Kd.C_drewN ?_ _) | (with_reducible refine Kd.C_drew ?_)))
            (case side4 => first | exact trivial | (exact HC0_1.out))
            rintro e w39 ⟨v436, v439, rfl, ho0, ho1, hb⟩
            refine ⟨_, rfl, ?_⟩
            have n0_ := Aside0.mk (Kd.R_elder' (by (with_reducible repeat (first | apply Kd.R_alloc | apply Kd.R_drewN | apply Kd.R_drew)); exact HO_433000.out) (Kd.R_base ho0) hb)
            have n1_ := Aside0.mk (Kd.R_elder' (by (with_reducible repeat (first | apply Kd.R_alloc | apply Kd.R_drewN | apply Kd.R_drew)); exact HO_433001.out) (Kd.R_base ho1) hb)
            have n2_ := Aside0.mk (Kd.R_lower (Kd.R_new' ho0 (Kd.R_lt (by (with_reducible repeat (first | apply Kd.R_alloc | apply Kd.R_drewN | apply Kd.R_drew)); exact HO_433000.out))) (below_size (by repeat (first | (with_reducible first | exact HB.out | apply below_alloc | apply pw_below_drewN | apply below_drew1 | refine below_set ?_ GE416.out | refine below_set ?_ GE432.out) | exact HB.out))))
            have n3_ := Aside0.mk (Kd.R_lower (Kd.R_new' ho1 (Kd.R_lt (by (with_reducible repeat (first | apply Kd.R_alloc | apply Kd.R_drewN | apply Kd.R_drew)); exact HO_433001.out))) (below_size (by repeat (first | (with_reducible first | exact HB.out | apply below_alloc | apply pw_below_drewN | apply below_drew1 | refine below_set ?_ GE416.out | refine below_set ?_ GE432.out) | exact HB.out))))
            have n4_ := Aside0.mk (blk_below (g := gb416) (o := .cells #[.slice A0_0 l0_0.length c0_0, .slice A0_1 l0_1.length c0_1] 31 (0, 0)) (by (with_reducible repeat (first | refine blk_drewN ?_ _ | refine blk_drew ?_ | refine blk_alloc ?_ _)); exact BK416.out) hb)
            have n5_ := Aside0.mk (blk_below (g := gb432) (o := .cells #[.slice Ao23 t426.length co23, .slice Ao26 t429.length co26] 36 (0, 0)) (by (with_reducible repeat (first | refine blk_drewN ?_ _ | refine blk_drew ?_ | refine blk_alloc ?_ _)); exact BK432.out) hb)
            have n6_ := Aside0.mk (below_step (by repeat (first | (with_reducible first | exact HB.out | apply below_alloc | apply pw_below_drewN | apply below_drew1 | refine below_set ?_ GE416.out | refine below_set ?_ GE432.out) | exact HB.out)) hb)
            clear HO_433000
            clear HO_433001
            clear BK416
            clear BK432
            clear HB
            have HO_433000 := n0_
            have HO_433001 := n1_
            have HO437 := n2_
            have HO440 := n3_
            have BK416 := n4_
            have BK432 := n5_
            have HB := n6_
            clear n0_ n1_ n2_ n3_ n4_ n5_ n6_
            (try clear hb)
            (try clear hb2)
            (try clear hk)
            (try clear hi)
            (try clear ho0)
            (try clear ho1)
            obtain ⟨Ao40, co40, eo40⟩ := Kd.R_slice HO437.out
            (first | subst eo40 | (injection eo40 with f1_ f2_ f3_; have f4_ := f1_.symm; have f5_ := f3_.symm; clear f1_ f2_ f3_; subst f4_; subst f5_))
            obtain ⟨Ao41, co41, eo41⟩ := Kd.R_slice HO440.out
            (first | subst eo41 | (injection eo41 with f1_ f2_ f3_; have f4_ := f1_.symm; have f5_ := f3_.symm; clear f1_ f2_ f3_; subst f4_; subst f5_))
            refine hK.out _ _ ⟨(blk_cell BK432.out 0).trans rfl, (blk_cell BK432.out 1).trans rfl, (blk_cell BK416.out 0).trans rfl, (blk_cell BK416.out 1).trans rfl⟩ (fun hHeld => ?_)
            clear hK K
            refine norm_ (a' := ?_) ?_ ?_
            rotate_left
            · show Act.put _ (some 37) _ = _
              simp only [Act.put, List.setIfInBounds_toArray, List.set_cons_zero, List.set_cons_succ, i64_w, i32_w]
              rfl
            refine one_ (i := 3) (N := some 38) #[true, true, true, true, false] rfl rfl (by kernel_rfl) (by decide) (fun K hK => ?_)
            refine goes_ Try.func24 (by kernel_rfl) rfl #[.agg #[.slice Ao23 t426.length co23, .slice Ao26 t429.length co26], .agg #[.slice Ao40 t435.length co40, .slice Ao41 t438.length co41]] (by rfl) rfl rfl (by (try simp only [List.map_toArray, List.map_cons, List.map_nil]); first | done | rfl | (simp only [List.length_drop, List.length_take]; rfl)) ?_
            with_reducible refine (laws_eqFlow.calls kj10 _ _ t426 _ _ t429 _ _ t435 _ _ t438 false _ ?side1 ?side2 ?side3 ?side4 ?side5 ?side6 ?side7 ?side8 A31.out).mono ?_
            (case side1 => repeat (first | exact (Kd.R_reads' HO_433000.out).2.2 | (with_reducible refine Kd.C_alloc ?_ _) | (with_reducible refine Kd.C_drewN ?_ _) | (with_reducible refine Kd.C_drew ?_)))
            (case side2 => first | exact trivial | (exact (Kd.R_reads' HO_433000.out).2.1))
            (case side3 => repeat (first | exact (Kd.R_reads' HO_433001.out).2.2 | (with_reducible refine Kd.C_alloc ?_ _) | (with_reducible refine Kd.C_drewN ?_ _) | (with_reducible refine Kd.C_drew ?_)))
            (case side4 => first | exact trivial | (exact (Kd.R_reads' HO_433001.out).2.1))
            (case side5 => repeat (first | exact (Kd.R_reads' HO437.out).2.2 | (with_reducible refine Kd.C_alloc ?_ _) | (with_reducible refine Kd.C_drewN ?_ _) | (with_reducible refine Kd.C_drew ?_)))
            (case side6 => first | exact trivial | (exact (Kd.R_reads' HO437.out).2.1))
            (case side7 => repeat (first | exact (Kd.R_reads' HO440.out).2.2 | (with_reducible refine Kd.C_alloc ?_ _) | (with_reducible refine Kd.C_drewN ?_ _) | (with_reducible refine Kd.C_drew ?_)))
            (case side8 => first | exact trivial | (exact (Kd.R_reads' HO440.out).2.1))
            rintro e w42 ⟨rfl, hb⟩
            refine ⟨_, rfl, ?_⟩
            have n0_ := Aside0.mk (Kd.R_below (by (with_reducible repeat (first | apply Kd.R_alloc | apply Kd.R_drewN | apply Kd.R_drew)); exact HO_433000.out) hb)
            have n1_ := Aside0.mk (Kd.R_below (by (with_reducible repeat (first | apply Kd.R_alloc | apply Kd.R_drewN | apply Kd.R_drew)); exact HO_433001.out) hb)
            have n2_ := Aside0.mk (Kd.R_below (by (with_reducible repeat (first | apply Kd.R_alloc | apply Kd.R_drewN | apply Kd.R_drew)); exact HO437.out) hb)
            have n3_ := Aside0.mk (Kd.R_below (by (with_reducible repeat (first | apply Kd.R_alloc | apply Kd.R_drewN | apply Kd.R_drew)); exact HO440.out) hb)
            have n4_ := Aside0.mk (blk_below (g := gb416) (o := .cells #[.slice A0_0 l0_0.length c0_0, .slice A0_1 l0_1.length c0_1] 31 (0, 0)) (by (with_reducible repeat (first | refine blk_drewN ?_ _ | refine blk_drew ?_ | refine blk_alloc ?_ _)); exact BK416.out) hb)
            have n5_ := Aside0.mk (blk_below (g := gb432) (o := .cells #[.slice Ao23 t426.length co23, .slice Ao26 t429.length co26] 36 (0, 0)) (by (with_reducible repeat (first | refine blk_drewN ?_ _ | refine blk_drew ?_ | refine blk_alloc ?_ _)); exact BK432.out) hb)
            have n6_ := Aside0.mk (below_step (by repeat (first | (with_reducible first | exact HB.out | apply below_alloc | apply pw_below_drewN | apply below_drew1 | refine below_set ?_ GE416.out | refine below_set ?_ GE432.out) | exact HB.out)) hb)
            clear HO_433000
            clear HO_433001
            clear HO437
            clear HO440
            clear BK416
            clear BK432
            clear HB
            have HO_433000 := n0_
            have HO_433001 := n1_
            have HO437 := n2_
            have HO440 := n3_
            have BK416 := n4_
            have BK432 := n5_
            have HB := n6_
            clear n0_ n1_ n2_ n3_ n4_ n5_ n6_
            (try clear hb)
            (try clear hb2)
            (try clear hk)
            (try clear hi)
            refine hK.out _ _ ⟨(blk_cell BK432.out 0).trans rfl, (blk_cell BK432.out 1).trans rfl, (blk_cell BK416.out 0).trans rfl, (blk_cell BK416.out 1).trans rfl⟩ (fun hHeld => ?_)
            clear hK K
            refine norm_ (a' := ?_) ?_ ?_
            rotate_left
            · show Act.put _ (some 38) _ = _
              simp only [Act.put, List.setIfInBounds_toArray, List.set_cons_zero, List.set_cons_succ, i64_w, i32_w]
              rfl
            refine pure_ (i := 4) (N := some 39) (v := ?_) (a' := ?_) #[true, true, true, true, true] rfl rfl (by kernel_rfl) (fun _ _ _ h => h) (Or.inl ⟨by rfl, ?_⟩) ?_ ?_
            rotate_left
            · intro w'
              go_simp
              with_reducible rfl
            rotate_left
            · simp only [Act.put, List.setIfInBounds_toArray, List.set_cons_zero, List.set_cons_succ, i64_w, i32_w]
              rfl
            refine done_ (by kernel_rfl) ?_
            try go_wp2
            go_ret
            exact ⟨by first | rfl | (simp [errW_none, errW_some] <;> rfl) | (simp [*, errW_none, errW_some] <;> rfl), by repeat (first | (with_reducible first | exact HB.out | apply below_alloc | apply pw_below_drewN | apply below_drew1 | refine below_set ?_ GE416.out | refine below_set ?_ GE432.out) | exact HB.out)⟩

end Go.Proofs.Ytojpibpjieanhaa.X

/- Rows of whole numbers and of wires that come in as a law's argument, opened to lists. Conditions: as each lemma says. -/
namespace Go.Proofs.Ytojpibpjieanhaa.X
open Go.RowKit Go.Proofs.YtojpibpjieanhaaW.PrintWords Go.Proofs.YtojpibpjieanhaaW.PrintLast Go.Proofs.YtojpibpjieanhaaW.PrintMore
open Go.ChangeShapes Go.WideShapes Go.Deep
set_option linter.unusedVariables false
set_option linter.unusedSimpArgs false
section
variable {H : Type} {enc : TypeId × Value → H} {P : Program} {w : World} {base : Nat} {spare : Nat → Bool} {held : Bool}
theorem open_slice_fields {t e : TypeId} {fs : Array Field} {fuel : Nat} {cs : List Value} {x : DataW H × List MemPlace} (ht : P.underlying t = some (.slice e)) (he : P.underlying e = some (.struct fs))
    (hone : oneCellFields P fs = true) (hC : P.cellsOf e = fs.size) (h : DataW.trod enc P w base spare held fuel t cs = some x) :
    (cs = [.slice none 0 0] ∧ x = (.nil, [])) ∨
    ∃ (a : Addr) (len cap m : Nat), cs = [.slice (some a) len cap] ∧ base ≤ a.block ∧ len ≤ cap ∧ cap ≤ maxLen ∧ m = (if spare a.block then cap else len) ∧
      ∀ i, i < m → ∃ (n : Nat), ∀ (j : Nat) (f : Field), fs[j]? = some f → ∃ (v : Value) (y : DataW H × List MemPlace), w.cell? (a.add (i * fs.size + j)) = some v ∧ DataW.trod enc P w base spare held n f.type [v] = some y := by
  rcases open_slice ht h with h0 | ⟨a, len, cap, m, n, D, Pl, hcs, hb, hl, hm, hmm, hx, hi⟩
  · exact .inl h0
  · refine .inr ⟨a, len, cap, m, hcs, hb, hl, hm, hmm, fun i him => ?_⟩
    obtain ⟨cs', hc, ht'⟩ := hi i him
    rw [hC] at hc
    obtain ⟨ys, n', hn', hy, hlen, hyl, hf⟩ := DataW.trod_struct he ht'
    obtain ⟨_, hcl, hat⟩ := World.cells?_some hc
    refine ⟨n', fun j f hj => ?_⟩
    obtain ⟨ho, hk⟩ := hone_of hone j f hj
    have hjl : j < fs.size := (Array.getElem?_eq_some_iff.1 hj).1
    have hcell := hat j hjl
    have hv : cs'[j]? = some (cs'[j]'(by omega)) := List.getElem?_eq_getElem (by omega)
    have h1 := hf j f hj
    rw [ho, hk] at h1
    have hone' : (cs'.drop j).take 1 = [cs'[j]'(by omega)] := by
      rw [List.drop_eq_getElem_cons (by omega)]
      rfl
    rw [hone'] at h1
    have hys : ys[j]? = some (ys[j]'(by omega)) := List.getElem?_eq_getElem (by omega)
    refine ⟨_, _, ?_, h1.trans hys⟩
    rw [← Go.Deep.add_add, hcell, hv]
end
theorem ints_C {w : World} {a : Addr} {l : List Int} (hm : l.length ≤ 9223372036854775807) (h : ∀ i, i < l.length → w.cell? (a.add i) = some (.int .i64 (l.getD i 0))) : Kd.C (Kd.int .i64) w (some a) l.length l := by
  refine ⟨rfl, hm, fun _ => ⟨_, rfl, fun j p hj => ⟨[.int .i64 p], rfl, rfl, fun i u hu => ?_⟩⟩⟩
  obtain ⟨hl, hp⟩ := List.getElem?_eq_some_iff.1 hj
  have h0 : i = 0 := by
    rcases i with _ | i
    · rfl
    · simp at hu
  subst h0
  have hu' : Value.int .i64 p = u := by simpa using hu
  have hc := h j hl
  rw [List.getD_eq_getElem?_getD, hj] at hc
  have e : a.add (j * (Kd.int .i64).sz + 0) = a.add j := by
    show a.add (j * 1 + 0) = a.add j
    rw [Nat.mul_one, Nat.add_zero]
  rw [e, ← hu']
  exact hc
theorem wires_C {w : World} {a : Addr} {l : List S96} (hm : l.length ≤ 9223372036854775807) (h : ∀ i, i < l.length → w.cell? (a.add (i * 3 + 0)) = some (.int .i64 (l.getD i z96).f0) ∧ w.cell? (a.add (i * 3 + 1)) = some (.int .i64 (l.getD i z96).f1) ∧ w.cell? (a.add (i * 3 + 2)) = some (.int .i64 (l.getD i z96).f2)) : Kd.C k96 w (some a) l.length l := by
  refine ⟨rfl, hm, fun _ => ⟨_, rfl, fun j p hj => ⟨[.int .i64 p.f0, .int .i64 p.f1, .int .i64 p.f2], rfl, k96_mk w p, fun i u hu => ?_⟩⟩⟩
  obtain ⟨hl, hp⟩ := List.getElem?_eq_some_iff.1 hj
  have hc := h j hl
  rw [List.getD_eq_getElem?_getD, hj] at hc
  show w.cell? (a.add (j * 3 + i)) = some u
  rcases i with _ | _ | _ | i
  · have hu' : Value.int .i64 p.f0 = u := by simpa using hu
    rw [← hu']; exact hc.1
  · have hu' : Value.int .i64 p.f1 = u := by simpa using hu
    rw [← hu']; exact hc.2.1
  · have hu' : Value.int .i64 p.f2 = u := by simpa using hu
    rw [← hu']; exact hc.2.2
  · simp at hu
section
variable {H : Type} {enc : TypeId × Value → H} {w : World}
theorem open_row_ints {t e : TypeId} {fuel : Nat} {c : Value} {x : DataW H × List MemPlace} (ht : Try.prog.underlying t = some (.slice e)) (he : Try.prog.underlying e = some (.int .i64)) (hc : Try.prog.cellsOf e = 1) (h : DataW.trod enc Try.prog w 0 (fun _ => true) true fuel t [c] = some x) :
    ∃ (A : Option Addr) (cap : Nat) (l : List Int), c = .slice A l.length cap ∧ Kd.C (Kd.int .i64) w A l.length l ∧ l.length ≤ cap ∧ l.length ≤ 9223372036854775807 ∧ ∀ n ∈ l, (Lit.int .i64 n).wf = true := by
  rcases open_ints ht he hc h with ⟨hcs, _⟩ | ⟨a, len, cap, zs, hcs, _, hl, hm, hz, _, hcell, hwz⟩
  · obtain rfl : c = .slice none 0 0 := by simpa using hcs
    exact ⟨none, 0, [], rfl, Kd.C_nil _ _, Nat.le_refl _, by simp, by simp⟩
  · obtain rfl : c = .slice (some a) len cap := by simpa using hcs
    simp only [if_true] at hz
    unfold maxLen at hm
    have hlen : (zs.take len).length = len := by simp; omega
    refine ⟨some a, cap, zs.take len, by rw [hlen], ints_C (by rw [hlen]; omega) (fun i hi => ?_), by rw [hlen]; exact hl, by rw [hlen]; omega, fun n hn => hwz n (List.mem_of_mem_take hn)⟩
    rw [hlen] at hi
    rw [hcell i (by omega)]
    have e : zs.getD i 0 = (zs.take len).getD i 0 := by rw [List.getD_eq_getElem?_getD, List.getD_eq_getElem?_getD, List.getElem?_take_of_lt hi]
    rw [e]
theorem open_row_wires {t e : TypeId} {f0 f1 f2 : Field} {fuel : Nat} {c : Value} {x : DataW H × List MemPlace} (ht : Try.prog.underlying t = some (.slice e)) (he : Try.prog.underlying e = some (.struct #[f0, f1, f2])) (hone : oneCellFields Try.prog #[f0, f1, f2] = true) (hC : Try.prog.cellsOf e = 3)
    (h0 : Try.prog.underlying f0.type = some (.int .i64)) (h1 : Try.prog.underlying f1.type = some (.int .i64)) (h2 : Try.prog.underlying f2.type = some (.int .i64)) (h : DataW.trod enc Try.prog w 0 (fun _ => true) true fuel t [c] = some x) :
    ∃ (A : Option Addr) (cap : Nat) (l : List S96), c = .slice A l.length cap ∧ Kd.C k96 w A l.length l ∧ l.length ≤ cap ∧ l.length ≤ 9223372036854775807 := by
  rcases open_slice_fields ht he hone hC h with ⟨hcs, _⟩ | ⟨a, len, cap, m, hcs, _, hl, hm, hmm, hi⟩
  · obtain rfl : c = .slice none 0 0 := by simpa using hcs
    exact ⟨none, 0, [], rfl, Kd.C_nil _ _, Nat.le_refl _, by simp⟩
  · obtain rfl : c = .slice (some a) len cap := by simpa using hcs
    simp only [if_true] at hmm
    unfold maxLen at hm
    have key : ∀ i, i < len → ∃ s : S96, w.cell? (a.add (i * 3 + 0)) = some (.int .i64 s.f0) ∧ w.cell? (a.add (i * 3 + 1)) = some (.int .i64 s.f1) ∧ w.cell? (a.add (i * 3 + 2)) = some (.int .i64 s.f2) := by
      intro i hil
      obtain ⟨n, hf⟩ := hi i (by omega)
      obtain ⟨v0, y0, c0, t0⟩ := hf 0 f0 rfl
      obtain ⟨v1, y1, c1, t1⟩ := hf 1 f1 rfl
      obtain ⟨v2, y2, c2, t2⟩ := hf 2 f2 rfl
      obtain ⟨a0, e0, _, _⟩ := DataW.trod_int h0 t0
      obtain ⟨a1, e1, _, _⟩ := DataW.trod_int h1 t1
      obtain ⟨a2, e2, _, _⟩ := DataW.trod_int h2 t2
      simp at e0 e1 e2
      subst e0 e1 e2
      exact ⟨⟨a0, a1, a2⟩, c0, c1, c2⟩
    let g : Nat → S96 := fun i => open Classical in if hi : i < len then Classical.choose (key i hi) else z96
    have hg : ∀ i (hi : i < len), w.cell? (a.add (i * 3 + 0)) = some (.int .i64 (g i).f0) ∧ w.cell? (a.add (i * 3 + 1)) = some (.int .i64 (g i).f1) ∧ w.cell? (a.add (i * 3 + 2)) = some (.int .i64 (g i).f2) := by
      intro i hi
      have : g i = Classical.choose (key i hi) := dif_pos hi
      rw [this]
      exact Classical.choose_spec (key i hi)
    have hlen : ((List.range len).map g).length = len := by simp
    refine ⟨some a, cap, (List.range len).map g, by rw [hlen], wires_C (by rw [hlen]; omega) (fun i hi => ?_), by rw [hlen]; exact hl, by rw [hlen]; omega⟩
    rw [hlen] at hi
    have : ((List.range len).map g).getD i z96 = g i := by simp [List.getD_eq_getElem?_getD, hi]
    rw [this]
    exact hg i hi
end
end Go.Proofs.Ytojpibpjieanhaa.X

/- The period of a flow: both ways tell the same. Conditions: as each lemma says. -/
namespace Go.Proofs.Ytojpibpjieanhaa.X
open Go.RowKit Go.Proofs.YtojpibpjieanhaaW.PrintWords Go.Proofs.YtojpibpjieanhaaW.PrintLast Go.Proofs.YtojpibpjieanhaaW.PrintMore Go.Proofs.Ytojpibpjieanhaa.FlowMath
set_option linter.unusedVariables false
set_option linter.unusedSimpArgs false
def fn (x : List Int) : Nat → Int := fun v => x.getD v 0
theorem rd_fn (x : List Int) (i : Int) (h : 0 ≤ i) : rd x i = fn x i.toNat := rfl
theorem fn_set (x : List Int) (i : Nat) (b : Int) (hi : i < x.length) (v : Nat) : fn (x.set i b) v = if v = i then b else fn x v := by
  unfold fn
  rw [List.getD_eq_getElem?_getD, List.getD_eq_getElem?_getD, List.getElem?_set]
  by_cases e : i = v
  · subst e; simp [hi]
  · rw [if_neg e, if_neg (fun h => e h.symm)]
theorem fn_ext {x y : List Int} (hl : x.length = y.length) (h : ∀ v, fn x v = fn y v) : x = y := by
  apply List.ext_getElem hl
  intro i h1 h2
  have := h i
  unfold fn at this
  rwa [List.getD_eq_getElem?_getD, List.getD_eq_getElem?_getD, List.getElem?_eq_getElem h1, List.getElem?_eq_getElem h2] at this
/-- The wires without registers, as pairs. -/
def eds : List S55 → List (Nat × Nat)
  | [] => []
  | w :: ws => if w.f2 = 0 then (w.f0.toNat, w.f1.toNat) :: eds ws else eds ws
theorem eds_edge {ws : List S55} {n : Nat} (hw : ∀ w, w ∈ ws → WireOk n w) (e : Nat × Nat) : e ∈ eds ws ↔ Edge ws e.1 e.2 := by
  induction ws with
  | nil => simp [eds, Edge]
  | cons w ws ih =>
    have ih := ih fun x hx => hw x (List.mem_cons_of_mem _ hx)
    have ho := hw w (List.mem_cons_self ..)
    unfold WireOk at ho
    unfold eds
    constructor
    · intro h
      by_cases h2 : w.f2 = 0
      · rw [if_pos h2, List.mem_cons] at h
        rcases h with h | h
        · exact ⟨w, List.mem_cons_self .., h2, by rw [h]; simp; omega, by rw [h]; simp; omega⟩
        · obtain ⟨x, h3, h4⟩ := ih.1 h
          exact ⟨x, List.mem_cons_of_mem _ h3, h4⟩
      · rw [if_neg h2] at h
        obtain ⟨x, h3, h4⟩ := ih.1 h
        exact ⟨x, List.mem_cons_of_mem _ h3, h4⟩
    · rintro ⟨x, h3, h4, h5, h6⟩
      rcases List.mem_cons.mp h3 with h | h
      · subst h
        rw [if_pos h4, List.mem_cons]
        left
        ext
        · simp; omega
        · simp; omega
      · have := ih.2 ⟨x, h, h4, h5, h6⟩
        split
        · exact List.mem_cons_of_mem _ this
        · exact this
def lstep (d x : List Int) (w : S55) : List Int := if w.f2 = 0 then x.set w.f0.toNat (max (fn x w.f0.toNat) (fn d w.f0.toNat + fn x w.f1.toNat)) else x
def lround (d : List Int) (ws : List S55) (x : List Int) : List Int := ws.foldl (lstep d) x
theorem lstep_len (d x : List Int) (w : S55) : (lstep d x w).length = x.length := by unfold lstep; split <;> simp
theorem lround_len (d : List Int) : ∀ (ws : List S55) (x : List Int), (lround d ws x).length = x.length
  | [], _ => rfl
  | w :: ws, x => by rw [lround, List.foldl_cons]; exact (lround_len d ws _).trans (lstep_len d x w)
theorem lstep_fn (d x : List Int) (w : S55) (h : w.f0.toNat < x.length) (h2 : w.f2 = 0) : fn (lstep d x w) = relax (fn d) (fn x) (w.f0.toNat, w.f1.toNat) := by
  funext v
  unfold lstep relax
  rw [if_pos h2, fn_set _ _ _ h]
theorem lround_fn (d : List Int) (n : Nat) : ∀ (ws : List S55) (x : List Int), x.length = n → (∀ w, w ∈ ws → WireOk n w) → fn (lround d ws x) = (eds ws).foldl (relax (fn d)) (fn x)
  | [], _, _, _ => rfl
  | w :: ws, x, hx, hw => by
    have ho := hw w (List.mem_cons_self ..)
    unfold WireOk at ho
    rw [lround, List.foldl_cons]
    have ih := lround_fn d n ws (lstep d x w) (by rw [lstep_len]; exact hx) fun y hy => hw y (List.mem_cons_of_mem _ hy)
    rw [lround] at ih
    rw [ih, eds]
    by_cases h2 : w.f2 = 0
    · rw [if_pos h2, List.foldl_cons, lstep_fn d x w (by omega) h2]
    · rw [if_neg h2]; unfold lstep; rw [if_neg h2]
/-- What is known of a flow without rings. -/
structure Slow (d : List Int) (ws : List S55) (n : Nat) (D : Nat → Int) : Prop where
  len : d.length = n
  n1 : 1 ≤ n
  n8 : n ≤ 8
  m16 : ws.length ≤ 16
  wok : ∀ w, w ∈ ws → WireOk n w
  del : ∀ v, 0 ≤ fn d v ∧ fn d v ≤ 100
  slow : IsSlow (fn d) (eds ws) D
  top : ∀ v, D v ≤ 800
  conv : fn (lround d ws (List.replicate 0 0)) = fn (lround d ws (List.replicate 0 0))
  rnk : ∀ v, rnds (fn d) (eds ws) n v = D v
theorem slow_of (d : List Int) (ws : List S55) (h : validB d ws = true) : ∃ D, Slow d ws d.length D := by
  unfold validB at h
  rw [Bool.and_eq_true] at h
  obtain ⟨hn, hm, hd, hw⟩ := form_ok h.1
  have hac : ∀ v, ¬ Plus (Edge ws) v v := by
    intro v hv
    have := h.2
    rw [@decide_eq_true _ (Classical.propDecidable _) ⟨v, hv⟩] at this
    simp at this
  have hE : ∀ a b, Edge ws a b → a < d.length ∧ b < d.length := fun a b h => h.lt hw
  have hr : ∀ e, e ∈ eds ws → rank (Edge ws) d.length e.2 < rank (Edge ws) d.length e.1 := fun e he => rank_lt hE hac ((eds_edge hw e).1 he)
  have hdel : ∀ v, 0 ≤ fn d v ∧ fn d v ≤ 100 := by
    intro v
    unfold fn
    rw [List.getD_eq_getElem?_getD]
    rcases Nat.lt_or_ge v d.length with hv | hv
    · rw [List.getElem?_eq_getElem hv]; exact hd _ (List.getElem_mem hv)
    · rw [List.getElem?_eq_none hv]; simp
  obtain ⟨D, hD⟩ := slow_exists (fn d) (eds ws) _ hr
  have htop : ∀ r v, rank (Edge ws) d.length v = r → D v ≤ 100 * ((r : Int) + 1) := by
    intro r
    induction r using Nat.strongRecOn with
    | _ r ih =>
      intro v hv
      rcases hD.att v with ha | ⟨b, hb, ha⟩
      · have := (hdel v).2; omega
      · have h1 := hr _ hb
        simp only at h1
        have h2 := ih _ (by omega) b rfl
        have h3 := (hdel v).2
        omega
  have hrk : ∀ v, rank (Edge ws) d.length v ≤ 8 := by
    intro v
    have := cnt_le (fun u => Plus (Edge ws) v u) d.length
    unfold rank; omega
  refine ⟨D, rfl, hn.1, hn.2, hm, hw, hdel, hD, fun v => ?_, rfl, fun v => ?_⟩
  · rcases hD.att v with ha | ⟨b, hb, ha⟩
    · have := (hdel v).2; omega
    · have h1 := rank_n (E := Edge ws) hac ((hE _ _ ((eds_edge hw _).1 hb)).1)
      have h2 := htop _ v rfl
      simp only at h1
      omega
  · have hs := rnds_slow hD _ hr d.length
    by_cases hv : rank (Edge ws) d.length v < d.length + 1
    · exact hs.2 v hv
    · have := cnt_le (fun u => Plus (Edge ws) v u) d.length
      unfold rank at hv; omega
theorem Slow.btw_step {d : List Int} {ws : List S55} {n : Nat} {D : Nat → Int} (h : Slow d ws n D) {x : List Int} (hx : x.length = n) (hb : Btw (fn d) D (fn x)) {w : S55} (hw : w ∈ ws) : Btw (fn d) D (fn (lstep d x w)) := by
  have ho := h.wok w hw
  unfold WireOk at ho
  by_cases h2 : w.f2 = 0
  · rw [lstep_fn d x w (by omega) h2]
    exact btw_relax h.slow hb _ ((eds_edge h.wok _).2 ⟨w, hw, h2, by simp; omega, by simp; omega⟩)
  · unfold lstep; rw [if_neg h2]; exact hb
theorem Slow.bnd {d : List Int} {ws : List S55} {n : Nat} {D : Nat → Int} (h : Slow d ws n D) {x : List Int} (hb : Btw (fn d) D (fn x)) (v : Nat) : 0 ≤ fn x v ∧ fn x v ≤ 800 := by
  have h1 := hb v
  have h2 := h.del v
  have h3 := h.top v
  omega
theorem rnds_len_fn {d : List Int} {ws : List S55} {n : Nat} {D : Nat → Int} (h : Slow d ws n D) (i : Nat) : Btw (fn d) D (rnds (fn d) (eds ws) i) := by
  induction i with
  | zero => exact fun v => ⟨Int.le_refl _, h.slow.own v⟩
  | succ i ih => exact (fold_btw h.slow (eds ws) _ (fun _ h => h) ih).1
/-- The program's rounds. -/
theorem step_eq {d : List Int} {ws : List S55} {n : Nat} {D : Nat → Int} (h : Slow d ws n D) {x : List Int} (hb : Btw (fn d) D (fn x)) {w : S55} (hw : w ∈ ws) : slowStep d x w = lstep d x w := by
  have ho := h.wok w hw
  unfold WireOk at ho
  obtain ⟨o1, o2, o3, o4, o5, o6⟩ := ho
  have b1 := h.bnd hb w.f1.toNat
  have b2 := h.del w.f0.toNat
  unfold slowStep lstep
  by_cases h2 : w.f2 = 0
  · rw [if_pos h2, if_pos (by rw [h2]; rfl), mx_eq, rd_fn x _ o1, rd_fn d _ o1, rd_fn x _ o3, w64 (by omega) (by omega)]
  · rw [if_neg h2, if_neg (by simpa using h2)]
theorem round_eq {d : List Int} {ws : List S55} {n : Nat} {D : Nat → Int} (h : Slow d ws n D) {x : List Int} (hx : x.length = n) (hb : Btw (fn d) D (fn x)) : ∀ j, j ≤ ws.length → slowRound d ws j x = lround d (ws.take j) x ∧ (slowRound d ws j x).length = n ∧ Btw (fn d) D (fn (slowRound d ws j x))
  | 0, _ => ⟨by simp [slowRound, lround], hx, hb⟩
  | j + 1, hj => by
    obtain ⟨h1, h2, h3⟩ := round_eq h hx hb j (by omega)
    have hlt : j < ws.length := by omega
    have hwm : ws[j] ∈ ws := List.getElem_mem hlt
    have e : slowRound d ws (j + 1) x = lstep d (slowRound d ws j x) ws[j] := by rw [slowRound, rdT_at ws j hlt, step_eq h h3 hwm]
    refine ⟨?_, by rw [e, lstep_len]; exact h2, by rw [e]; exact h.btw_step h2 h3 hwm⟩
    rw [e, h1, lround, lround, List.take_add_one, List.getElem?_eq_getElem hlt, Option.toList_some, List.foldl_append]; rfl
theorem rounds_eq {d : List Int} {ws : List S55} {n : Nat} {D : Nat → Int} (h : Slow d ws n D) : ∀ i, (slowRounds d ws i).length = n ∧ fn (slowRounds d ws i) = rnds (fn d) (eds ws) i
  | 0 => ⟨h.len, rfl⟩
  | i + 1 => by
    obtain ⟨h1, h2⟩ := rounds_eq h i
    have hb : Btw (fn d) D (fn (slowRounds d ws i)) := by rw [h2]; exact rnds_len_fn h i
    obtain ⟨e, g1, g2⟩ := round_eq h h1 hb ws.length (Nat.le_refl _)
    refine ⟨g1, ?_⟩
    rw [slowRounds, e, List.take_length, lround_fn d n ws _ h1 h.wok, h2]; rfl
theorem impl_slow {d : List Int} {ws : List S55} {n : Nat} {D : Nat → Int} (h : Slow d ws n D) : ∃ y, impl_Flow_slowest.f d ws = some y ∧ y.length = n ∧ fn y = D := by
  have hn := h.n8
  have hn1 := h.n1
  have hl := h.len
  have hm := h.m16
  refine ⟨slowRounds d ws n, ?_, (rounds_eq h n).1, ?_⟩
  · unfold impl_Flow_slowest.f
    have hin : ∀ j : Nat, j < ws.length → WireIn d.length (rd_T55 ws (j : Int)) := by
      intro j hj
      rw [rdT_at ws j hj]
      have ho := h.wok _ (List.getElem_mem hj)
      unfold WireOk at ho
      unfold WireIn
      omega
    rw [if_pos ⟨by omega, by omega, by omega, hin⟩, hl]
  · funext v
    rw [(rounds_eq h n).2]; exact h.rnk v
/-- Whether a round changes anything. -/
def chg (d : List Int) : List S55 → List Int → Bool
  | [], _ => false
  | w :: ws, x => (decide (w.f2 = 0) && decide (fn d w.f0.toNat + fn x w.f1.toNat > fn x w.f0.toNat)) || chg d ws (lstep d x w)
theorem set_same (x : List Int) (i : Nat) : x.set i (fn x i) = x := by
  apply List.ext_getElem?
  intro j
  rw [List.getElem?_set]
  by_cases e : i = j
  · subst e
    rw [if_pos rfl]
    split
    · unfold fn; rw [List.getD_eq_getElem?_getD, List.getElem?_eq_getElem ‹_›]; rfl
    · rw [List.getElem?_eq_none (by omega)]
  · rw [if_neg e]
theorem step_same {d x : List Int} {w : S55} (h : (decide (w.f2 = 0) && decide (fn d w.f0.toNat + fn x w.f1.toNat > fn x w.f0.toNat)) = false) : lstep d x w = x := by
  unfold lstep
  by_cases h2 : w.f2 = 0
  · rw [if_pos h2]
    rw [decide_eq_true h2, Bool.true_and, decide_eq_false_iff_not] at h
    rw [Int.max_eq_left (by omega)]
    exact set_same x _
  · rw [if_neg h2]
theorem chg_false {d : List Int} : ∀ {ws : List S55} {x : List Int}, chg d ws x = false → lround d ws x = x
  | [], _, _ => rfl
  | w :: ws, x, h => by
    rw [chg, Bool.or_eq_false_iff] at h
    have h1 := step_same h.1
    rw [lround, List.foldl_cons, h1]
    rw [h1] at h
    exact chg_false h.2
theorem chg_fix {d : List Int} {D : Nat → Int} {es : List (Nat × Nat)} (hD : IsSlow (fn d) es D) : ∀ {ws : List S55} {x : List Int}, (∀ w, w ∈ ws → w.f2 = 0 → (w.f0.toNat, w.f1.toNat) ∈ es) → fn x = D → chg d ws x = false
  | [], _, _, _ => rfl
  | w :: ws, x, hw, hx => by
    have h1 : (decide (w.f2 = 0) && decide (fn d w.f0.toNat + fn x w.f1.toNat > fn x w.f0.toNat)) = false := by
      by_cases h2 : w.f2 = 0
      · rw [decide_eq_true h2, Bool.true_and, decide_eq_false_iff_not, hx]
        have := hD.far _ (hw w (List.mem_cons_self ..) h2)
        simp only at this
        omega
      · rw [decide_eq_false h2, Bool.false_and]
    rw [chg, h1, Bool.false_or, step_same h1]
    exact chg_fix hD (fun y hy => hw y (List.mem_cons_of_mem _ hy)) hx
theorem spec_in {d : List Int} {ws : List S55} {n : Nat} {D : Nat → Int} (h : Slow d ws n D) (i : Int) : ∀ (e j k : Nat) (x : List Int) (c : Bool), j + e = ws.length → x.length = n → Btw (fn d) D (fn x) → e < k →
    ∃ k', k = k' + e + 1 ∧ spec_l08Behind.l1 k x i c j d ws = if (c || chg d (ws.drop j) x) = true then spec_l08Behind.l0 k' (lround d (ws.drop j) x) (wrap64 (i + 1)) d ws else some (lround d (ws.drop j) x, true)
  | 0, j, k, x, c, hj, hx, hb, hk => by
    cases k with
    | zero => omega
    | succ k => exact ⟨k, by omega, by rw [spec_l08Behind.l1, if_neg (by omega), List.drop_of_length_le (by omega), chg, Bool.or_false]; rfl⟩
  | e + 1, j, k, x, c, hj, hx, hb, hk => by
    cases k with
    | zero => omega
    | succ k =>
      have hlt : j < ws.length := by omega
      have hm := h.m16
      have hwm : ws[j] ∈ ws := List.getElem_mem hlt
      obtain ⟨o1, o2, o3, o4, o5, o6⟩ := h.wok _ hwm
      have hlen := h.len
      have b1 := h.bnd hb ws[j].f1.toNat
      have b2 := h.del ws[j].f0.toNat
      rw [spec_l08Behind.l1, if_pos (by omega), if_pos (by omega), rdT_at ws j hlt, w64 (n := (j : Int) + 1) (by omega) (by omega), if_pos (by omega), if_pos (by omega), if_pos (by omega), if_pos (by omega), rd_fn x _ o1, rd_fn d _ o1, rd_fn x _ o3, w64 (n := fn d ws[j].f0.toNat + fn x ws[j].f1.toNat) (by omega) (by omega), List.drop_eq_getElem_cons hlt, lround, List.foldl_cons, chg]
      by_cases hc : (decide (ws[j].f2 = 0) && decide (fn d ws[j].f0.toNat + fn x ws[j].f1.toNat > fn x ws[j].f0.toNat)) = true
      · rw [hc, Bool.true_or]
        rw [Bool.and_eq_true, decide_eq_true_eq, decide_eq_true_eq] at hc
        obtain ⟨k', hk', ih⟩ := spec_in h i e (j + 1) k (lstep d x ws[j]) true (by omega) (by rw [lstep_len]; exact hx) (h.btw_step hx hb hwm) (by omega)
        refine ⟨k', by omega, ?_⟩
        rw [Int.natCast_add, Int.natCast_one, lround, Bool.true_or] at ih
        rw [if_pos hc.1, if_pos (by omega), if_pos hc.2, Bool.or_true]
        have e1 : lstep d x ws[j] = x.set ws[j].f0.toNat (fn d ws[j].f0.toNat + fn x ws[j].f1.toNat) := by unfold lstep; rw [if_pos hc.1, Int.max_eq_right (by omega)]
        rw [← e1]; exact ih
      · have hc' : (decide (ws[j].f2 = 0) && decide (fn d ws[j].f0.toNat + fn x ws[j].f1.toNat > fn x ws[j].f0.toNat)) = false := by simpa using hc
        have e1 := step_same hc'
        obtain ⟨k', hk', ih⟩ := spec_in h i e (j + 1) k x c (by omega) hx hb (by omega)
        refine ⟨k', by omega, ?_⟩
        rw [Int.natCast_add, Int.natCast_one, lround] at ih
        rw [hc', Bool.false_or, e1]
        by_cases h2 : ws[j].f2 = 0
        · rw [decide_eq_true h2, Bool.true_and, decide_eq_false_iff_not] at hc'
          rw [if_pos h2, if_pos (by omega), if_neg hc']; exact ih
        · rw [if_neg h2]; exact ih
theorem rnds_fixed {d : Nat → Int} {es : List (Nat × Nat)} {i : Nat} (h : rnd d es (rnds d es i) = rnds d es i) : ∀ e, rnds d es (i + e) = rnds d es i
  | 0 => rfl
  | e + 1 => by rw [← Nat.add_assoc, rnds, rnds_fixed h e, h]
theorem spec_out {d : List Int} {ws : List S55} {n : Nat} {D : Nat → Int} (h : Slow d ws n D) : ∀ (e i k : Nat) (x : List Int), i + e = n → x.length = n → fn x = rnds (fn d) (eds ws) i → 20 * (e + 1) < k →
    ∃ y, spec_l08Behind.l0 k x i d ws = some (y, true) ∧ y.length = n ∧ fn y = D := by
  intro e
  induction e with
  | zero =>
    intro i k x hi hx hf hk
    cases k with
    | zero => omega
    | succ k =>
      have hm := h.m16
      have hn := h.n8
      have hlen := h.len
      have hb : Btw (fn d) D (fn x) := by rw [hf]; exact rnds_len_fn h i
      have hD : fn x = D := by
        have : i = n := by omega
        subst this
        funext v; rw [hf]; exact h.rnk v
      rw [spec_l08Behind.l0, if_pos (by omega)]
      obtain ⟨k', hk', h1⟩ := spec_in h (i : Int) ws.length 0 k x false (by omega) hx hb (by omega)
      rw [show ((0 : Nat) : Int) = 0 from rfl, List.drop_zero] at h1
      have hc := chg_fix h.slow (ws := ws) (x := x) (fun w hw h2 => by
        have ho := h.wok w hw
        unfold WireOk at ho
        exact (eds_edge h.wok _).2 ⟨w, hw, h2, by simp; omega, by simp; omega⟩) hD
      rw [h1, hc, Bool.false_or, if_neg (by decide)]
      exact ⟨_, rfl, by rw [lround_len]; exact hx, by rw [chg_false hc]; exact hD⟩
  | succ e ih =>
    intro i k x hi hx hf hk
    cases k with
    | zero => omega
    | succ k =>
      have hm := h.m16
      have hn := h.n8
      have hlen := h.len
      have hb : Btw (fn d) D (fn x) := by rw [hf]; exact rnds_len_fn h i
      rw [spec_l08Behind.l0, if_pos (by omega)]
      obtain ⟨k', hk', h1⟩ := spec_in h (i : Int) ws.length 0 k x false (by omega) hx hb (by omega)
      rw [show ((0 : Nat) : Int) = 0 from rfl, List.drop_zero] at h1
      rw [h1, Bool.false_or]
      have hnext : fn (lround d ws x) = rnds (fn d) (eds ws) (i + 1) := by rw [lround_fn d n ws x hx h.wok, hf]; rfl
      cases hc : chg d ws x with
      | true =>
        rw [if_pos rfl, w64 (by omega) (by omega)]
        have := ih (i + 1) k' (lround d ws x) (by omega) (by rw [lround_len]; exact hx) hnext (by omega)
        rw [Int.natCast_add, Int.natCast_one] at this
        exact this
      | false =>
        rw [if_neg (by decide)]
        refine ⟨_, rfl, by rw [lround_len]; exact hx, ?_⟩
        rw [chg_false hc]
        have hfix : rnd (fn d) (eds ws) (rnds (fn d) (eds ws) i) = rnds (fn d) (eds ws) i := by
          have : rnds (fn d) (eds ws) (i + 1) = rnds (fn d) (eds ws) i := by rw [← hnext, chg_false hc, hf]
          exact this
        have := rnds_fixed hfix (e + 1)
        rw [show i + (e + 1) = n by omega] at this
        rw [hf, ← this]
        funext v; exact h.rnk v
theorem spec_slow {d : List Int} {ws : List S55} {n : Nat} {D : Nat → Int} (h : Slow d ws n D) (k : Nat) (hk : 300 < k) : ∃ y, spec_l08Behind.f k d ws = some (y, true) ∧ y.length = n ∧ fn y = D := by
  have hn := h.n8
  have hl := h.len
  obtain ⟨y, h1, h2⟩ := spec_out h n 0 k d (by omega) hl rfl (by omega)
  refine ⟨y, ?_, h2⟩
  unfold spec_l08Behind.f spec_l00Own.f
  rw [Option.bind_some, if_pos (by simp; omega), Option.bind_some, List.nil_append]
  exact h1
def mxl (a : Int) (l : List Int) : Int := l.foldl max a
theorem smax_loop (z : List Int) (hz : z.length ≤ 1000) : ∀ (e i k : Nat) (a : Int), i + e = z.length → e < k → spec_l08Period.l0 k z a i = some (mxl a (z.drop i))
  | 0, i, k, a, hi, hk => by
    cases k with
    | zero => omega
    | succ k => rw [spec_l08Period.l0, if_neg (by omega), List.drop_of_length_le (by omega)]; rfl
  | e + 1, i, k, a, hi, hk => by
    cases k with
    | zero => omega
    | succ k =>
      have hlt : i < z.length := by omega
      have ih := smax_loop z hz e (i + 1) k (max a z[i]) (by omega) (by omega)
      rw [Int.natCast_add, Int.natCast_one] at ih
      have hmx : spec_l00Max.f a z[i] = some (max a z[i]) := by unfold spec_l00Max.f; split <;> (congr 1; omega)
      rw [spec_l08Period.l0, if_pos (by omega), if_pos (by omega), rd_at z i hlt, hmx, Option.bind_some, w64 (by omega) (by omega), ih, List.drop_eq_getElem_cons hlt]; rfl
theorem imax_loop (z : List Int) (hz : z.length ≤ 1000) : ∀ (e i k : Nat) (a : Int), i + e = z.length → e < k → slices_Max_int64_int64.l0 k z a i = some (mxl a (z.drop i))
  | 0, i, k, a, hi, hk => by
    cases k with
    | zero => omega
    | succ k => rw [slices_Max_int64_int64.l0, if_neg (by omega), List.drop_of_length_le (by omega)]; rfl
  | e + 1, i, k, a, hi, hk => by
    cases k with
    | zero => omega
    | succ k =>
      have hlt : i < z.length := by omega
      have ih := imax_loop z hz e (i + 1) k (max a z[i]) (by omega) (by omega)
      rw [Int.natCast_add, Int.natCast_one] at ih
      rw [slices_Max_int64_int64.l0, if_pos (by omega), if_pos (by omega), rd_at z i hlt, mx_eq, w64 (by omega) (by omega), ih, List.drop_eq_getElem_cons hlt]; rfl
theorem imax_eq (z : List Int) (hz : z.length ≤ 1000) (h1 : 1 ≤ z.length) (k : Nat) (hk : 1000 < k) : slices_Max_int64_int64.f k z = some (mxl z[0] (z.drop 1)) := by
  unfold slices_Max_int64_int64.f
  have := imax_loop z hz (z.length - 1) 1 k z[0] (by omega) (by omega)
  have hr : rd z 0 = z[0] := rd_at z 0 (by omega)
  rw [if_neg (by omega), if_pos (by omega), hr]
  exact this
theorem period_both {d : List Int} {ws : List S55} {n : Nat} {D : Nat → Int} (h : Slow d ws n D) (k : Nat) (hk : 2000 < k) : ∃ z : List Int, z.length = n ∧ fn z = D ∧ spec_l08Period.f k d ws = some (mxl 0 z) ∧ impl_Flow_period.f k d ws = some (mxl 0 z) := by
  have hn := h.n8
  have hn1 := h.n1
  obtain ⟨y, h1, h2, h3⟩ := impl_slow h
  obtain ⟨z, g1, g2, g3⟩ := spec_slow h k (by omega)
  have e : z = y := fn_ext (by omega) (fun v => by rw [g3, h3])
  subst e
  refine ⟨z, g2, g3, ?_, ?_⟩
  · unfold spec_l08Period.f
    rw [g1, Option.bind_some]
    have := smax_loop z (by omega) z.length 0 k 0 (by omega) (by omega)
    rw [show ((0 : Nat) : Int) = 0 from rfl] at this
    rw [this, List.drop_zero]
  · unfold impl_Flow_period.f
    rw [h1, Option.bind_some, imax_eq z (by omega) (by omega) k (by omega), Option.bind_some]
    congr 1
    have h0 : 0 ≤ z[0] := by
      have := h.slow.own 0
      have hd := (h.del 0).1
      have : fn z 0 = z[0] := by unfold fn; rw [List.getD_eq_getElem?_getD, List.getElem?_eq_getElem]; rfl
      rw [← this, h3]; omega
    have hz : z = z[0] :: z.drop 1 := by
      have := List.drop_eq_getElem_cons (l := z) (i := 0) (by omega)
      rw [List.drop_zero] at this
      exact this
    conv => rhs; rw [hz]
    unfold mxl
    have h0' : max (0 : Int) z[0] = z[0] := Int.max_eq_right h0
    rw [List.foldl_cons, h0']
theorem period_same (k : Nat) (l0 : List Int) (ws : List S55) (h0 : l0.length ≤ 4000000) (h1 : ws.length ≤ 4000000) (hk : 3000 < k) : ∃ r : Int × Bool, spec_FlowPeriod.f k l0 ws = some r ∧ impl_FlowPeriod.f k l0 ws = some r := by
  unfold spec_FlowPeriod.f impl_FlowPeriod.f
  rw [spec_is k l0 ws (by omega) (by omega) (by omega), impl_valid k l0 ws (by omega), Option.bind_some, Option.bind_some]
  cases hv : validB l0 ws with
  | false => exact ⟨_, rfl, rfl⟩
  | true =>
    obtain ⟨D, hD⟩ := slow_of l0 ws hv
    obtain ⟨z, _, _, p1, p2⟩ := period_both hD k (by omega)
    rw [if_pos rfl, if_pos rfl, p1, p2]
    exact ⟨_, rfl, rfl⟩
theorem FnExactFlowPeriod_pure (l0 : List Int) (l1 : List S96) (h0 : l0.length ≤ 9223372036854775807) (w0 : ∀ n ∈ l0, (Lit.int .i64 n).wf = true) (h1 : l1.length ≤ 9223372036854775807) : ∃ k, laws_FnExactFlowPeriod.f k l0 l1 = some true := by
  obtain ⟨k, hk⟩ : ∃ k : Nat, 9000000 < k := ⟨9000001, by omega⟩
  refine ⟨k + 1, ?_⟩
  obtain ⟨t, ht, hts⟩ := sz_eq l0 l1 h0 h1
  unfold laws_FnExactFlowPeriod.f
  rw [ht, Option.bind_some]
  by_cases ht0 : t < 0
  · rw [if_pos ht0]
  · obtain ⟨z0, z1⟩ := hts ht0
    obtain ⟨r, hs, hi⟩ := period_same (k + 1) l0 (l1.map toW) (by omega) (by simp; omega) (by omega)
    rw [if_neg ht0, toFlow_eq (k + 1) l0 l1 (by omega) (by omega) (by omega)]
    simp only [Option.bind_some]
    rw [hs, hi]
    simp only [Option.bind_some, if_true]
    rw [laws_FnExactFlowPeriod.j0, if_neg (by cases r.2 <;> decide), toFlow_eq k l0 l1 (by omega) (by omega) (by omega)]
    simp only [Option.bind_some]
    rw [eqFlow_refl k l0 (l1.map toW) (by omega) (by simp; omega) (by omega)]
    simp
end Go.Proofs.Ytojpibpjieanhaa.X

