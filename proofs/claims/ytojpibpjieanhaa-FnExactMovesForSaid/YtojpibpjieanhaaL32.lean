/- My own texts of this seat and its words, merged: Xp12, CMovesFor. Conditions: as each lemma says. -/
import Derived.Test.YtojpibpjieanhaaL21
import Derived.Test.YtojpibpjieanhaaL26
import Derived.Test.YtojpibpjieanhaaL27
import Derived.Test.YtojpibpjieanhaaL29
import Derived.Test.YtojpibpjieanhaaL30
section
-- Written by a program of this session out of the kit's print of the loaded functions: a plain function of a Go function, and its contract.
namespace Go.Proofs.Ytojpibpjieanhaa.X
open Go.RowKit Go.Proofs.YtojpibpjieanhaaW.PrintWords Go.Proofs.YtojpibpjieanhaaW.PrintLast Go.Proofs.YtojpibpjieanhaaW.PrintMore
attribute [local go_sem] max2_int min2_int max_two min_two max_three min_three max_four min_four   -- for this text's walks alone
set_option linter.unusedVariables false
set_option linter.unusedSimpArgs false
/-! ### laws_FnExactMovesFor: function 12 -/
mutual
def laws_FnExactMovesFor.j0 : Nat → Int → List Int → Bool → List Int → Bool → Bool → List Int → List (S96) → List Int → List (S55) → Option (Bool)
  | 0, _, _, _, _, _, _, _, _, _, _ => none
  | k + 1, x1, x6, x7, x9, x10, x44, x732000, x732001, x750000, x750001 => if x44 = true then (some false) else ((laws_toFlow.f k x732000 x732001).bind fun bt755 => ((laws_eqFlow.f k x750000 x750001 bt755.1 bt755.2).bind fun t761 => (if t761 = true then ((laws_markFlow.f k x750000 x750001 1).bind fun bt762 => (if bt762.1 < 0 then (laws_FnExactMovesFor.j1 k x1 x6 x7 x9 true x732000 x732001) else ((laws_eqInt64S.f k x9 x6).bind fun t765 => (if t765 = true then (laws_FnExactMovesFor.j1 k x1 x6 x7 x9 (x10 != x7) x732000 x732001) else (laws_FnExactMovesFor.j1 k x1 x6 x7 x9 true x732000 x732001))))) else (some false))))
def laws_FnExactMovesFor.j1 : Nat → Int → List Int → Bool → List Int → Bool → List Int → List (S96) → Option (Bool)
  | 0, _, _, _, _, _, _, _ => none
  | k + 1, x1, x6, x7, x9, x65, x732000, x732001 => if x65 = true then (some false) else ((laws_markInt64S.f k x9 1).bind fun bt766 => ((laws_heldInt64S.f k bt766.2 1).bind fun t768 => (if t768 < 0 then (some false) else (if t768 = bt766.1 then ((laws_toFlow.f k x732000 x732001).bind fun bt769 => ((impl_MovesFor.f k bt769.1 bt769.2 x1).bind fun bt775 => ((laws_eqInt64S.f k bt775.1 x6).bind fun t779 => (if t779 = true then (laws_FnExactMovesFor.j2 k bt766.2 bt766.1 (bt775.2 != x7)) else (laws_FnExactMovesFor.j2 k bt766.2 bt766.1 true))))) else (some false)))))
def laws_FnExactMovesFor.j2 : Nat → List Int → Int → Bool → Option (Bool)
  | 0, _, _, _ => none
  | k + 1, x9, x12, x92 => if x92 = true then (some false) else ((laws_heldInt64S.f k x9 1).bind fun t780 => (if t780 < 0 then (some false) else (if t780 = x12 then (some true) else (some false))))
end
def laws_FnExactMovesFor.f (k : Nat) (l0_0 : List Int) (l0_1 : List (S96)) (a1 : Int) : Option (Bool) := (laws_szFlow.f l0_0 l0_1 1048576).bind fun t732 => (if t732 < 0 then (some true) else ((laws_toFlow.f k l0_0 l0_1).bind fun bt733 => ((spec_MovesFor.f k bt733.1 bt733.2 a1).bind fun bt739 => ((laws_toFlow.f k l0_0 l0_1).bind fun bt743 => ((impl_MovesFor.f k bt743.1 bt743.2 a1).bind fun bt750 => ((laws_eqInt64S.f k bt750.1 bt739.1).bind fun t754 => (if t754 = true then (laws_FnExactMovesFor.j0 k a1 bt739.1 bt739.2 bt750.1 bt750.2 (bt750.2 != bt739.2) l0_0 l0_1 bt743.1 bt743.2) else (laws_FnExactMovesFor.j0 k a1 bt739.1 bt739.2 bt750.1 bt750.2 true l0_0 l0_1 bt743.1 bt743.2))))))))
set_option maxHeartbeats 8000000 in
set_option maxRecDepth 100000 in
theorem laws_FnExactMovesFor.calls (k : Nat) (A0_0 : Option Addr) (c0_0 : Nat) (l0_0 : List Int) (A0_1 : Option Addr) (c0_1 : Nat) (l0_1 : List (S96)) (a1 : Int) (r : Bool) (w : World) (hr0_0 : Kd.C (Kd.int .i64) w A0_0 l0_0.length l0_0) (hc0_0 : l0_0.length ≤ c0_0) (hr0_1 : Kd.C k96 w A0_1 l0_1.length l0_1) (hc0_1 : l0_1.length ≤ c0_1) (h : laws_FnExactMovesFor.f k l0_0 l0_1 a1 = some r) :
    Calls Try.prog 12 #[.agg #[.slice A0_0 l0_0.length c0_0, .slice A0_1 l0_1.length c0_1], .int .i64 a1] w fun e w' => e = .returned (.bool r) ∧ Below w.heap.size w w' := by
  have hu31 := Try.underlying31
  have hu36 := Try.underlying36
  have HR0_0 := Aside0.mk hr0_0
  have HC0_0 := Aside0.mk hc0_0
  clear hr0_0 hc0_0
  have HR0_1 := Aside0.mk hr0_1
  have HC0_1 := Aside0.mk hc0_1
  clear hr0_1 hc0_1
  have HB := Aside0.mk (Below.refl w.heap.size w)
  have H : ((laws_szFlow.f l0_0 l0_1 1048576).bind fun t732 => (if t732 < 0 then (some true) else ((laws_toFlow.f k l0_0 l0_1).bind fun bt733 => ((spec_MovesFor.f k bt733.1 bt733.2 a1).bind fun bt739 => ((laws_toFlow.f k l0_0 l0_1).bind fun bt743 => ((impl_MovesFor.f k bt743.1 bt743.2 a1).bind fun bt750 => ((laws_eqInt64S.f k bt750.1 bt739.1).bind fun t754 => (if t754 = true then (laws_FnExactMovesFor.j0 k a1 bt739.1 bt739.2 bt750.1 bt750.2 (bt750.2 != bt739.2) l0_0 l0_1 bt743.1 bt743.2) else (laws_FnExactMovesFor.j0 k a1 bt739.1 bt739.2 bt750.1 bt750.2 true l0_0 l0_1 bt743.1 bt743.2))))))))) = some r := h
  clear h
  replace H := Option.bind_eq_some_iff.mp H
  obtain ⟨t732, A30, H⟩ := H
  replace H : (if t732 < 0 then (some true) else ((laws_toFlow.f k l0_0 l0_1).bind fun bt733 => ((spec_MovesFor.f k bt733.1 bt733.2 a1).bind fun bt739 => ((laws_toFlow.f k l0_0 l0_1).bind fun bt743 => ((impl_MovesFor.f k bt743.1 bt743.2 a1).bind fun bt750 => ((laws_eqInt64S.f k bt750.1 bt739.1).bind fun t754 => (if t754 = true then (laws_FnExactMovesFor.j0 k a1 bt739.1 bt739.2 bt750.1 bt750.2 (bt750.2 != bt739.2) l0_0 l0_1 bt743.1 bt743.2) else (laws_FnExactMovesFor.j0 k a1 bt739.1 bt739.2 bt750.1 bt750.2 true l0_0 l0_1 bt743.1 bt743.2)))))))) = some r := H
  have A3 := Aside0.mk A30
  clear A30
  by_cases c4 : t732 < 0
  · rw [if_pos c4] at H
    have c4b0 : decide (t732 < 0) = true := decide_eq_true c4
    clear c4
    obtain rfl := Option.some.inj H
    go_enter Try.func12, Try.ntmps12
    go_wp2_with (first | ((with_reducible refine gate_dst (N := 2) rfl ?_); refine box_event ?hg (N := 2) ?hd (cs := #[.slice A0_0 l0_0.length c0_0, .slice A0_1 l0_1.length c0_1]) (t := 31) ?hr ?_; (case hd => rfl); (case hg => rfl); (case hr => first | (go_simp; done) | (go_simp; rfl)); intro gb731 hg w5 hbox hb; have n0_ := Aside0.mk (below_step (by repeat (first | (with_reducible first | exact HB.out | apply below_alloc | apply pw_below_drewN | apply below_drew1) | exact HB.out)) hb); have n1_ := Aside0.mk (hbox); have n2_ := Aside0.mk ((by rw [hg]; exact (below_size (by repeat (first | (with_reducible first | exact HB.out | apply below_alloc | apply pw_below_drewN | apply below_drew1) | exact HB.out))) : w.heap.size ≤ gb731)); have n3_ := Aside0.mk ((by rw [hg]; exact (below_size (by repeat (first | (with_reducible first | exact HB.out | apply below_alloc | apply pw_below_drewN | apply below_drew1) | exact HB.out))) : w.heap.size ≤ gb731)); clear HB; have HB := n0_; have BK731 := n1_; have GW731 := n2_; have GE731 := n3_; clear n0_ n1_ n2_ n3_; clear hb hbox hg; have hcz6_0 : w5.cell? ⟨gb731, 0, none⟩ = some (.slice A0_0 l0_0.length c0_0) := (blk_cell BK731.out 0).trans rfl; have hcz6_1 : w5.cell? ⟨gb731, 1, none⟩ = some (.slice A0_1 l0_1.length c0_1) := (blk_cell BK731.out 1).trans rfl; have hfz6_0 := blk_frozen BK731.out 0; have hfz6_1 := blk_frozen BK731.out 1) | ((with_reducible refine gate_callee (f := 20) rfl ?_); refine goesL_ (some 18) rfl rfl Try.func20 (by kernel_rfl) rfl #[.agg #[.slice A0_0 l0_0.length c0_0, .slice A0_1 l0_1.length c0_1], .int .i64 1048576] rfl (by (try simp only [List.map_toArray, List.map_cons, List.map_nil]); first | done | rfl | (simp only [List.length_drop, List.length_take]; rfl)) ?_; (with_reducible refine (laws_szFlow.calls _ _ l0_0 _ _ l0_1 1048576 t732 _ ?side1 ?side2 ?side3 ?side4 A3.out).mono ?_); (case side1 => repeat (first | exact (Kd.C_below HR0_0.out HB.out) | (with_reducible refine Kd.C_alloc ?_ _) | (with_reducible refine Kd.C_drewN ?_ _) | (with_reducible refine Kd.C_drew ?_))); (case side2 => first | exact trivial | (exact HC0_0.out)); (case side3 => repeat (first | exact (Kd.C_below HR0_1.out HB.out) | (with_reducible refine Kd.C_alloc ?_ _) | (with_reducible refine Kd.C_drewN ?_ _) | (with_reducible refine Kd.C_drew ?_))); (case side4 => first | exact trivial | (exact HC0_1.out)); rintro e w7 ⟨rfl, hb⟩; refine ⟨_, rfl, ?_⟩; have n0_ := Aside0.mk (blk_below (g := gb731) (o := .cells #[.slice A0_0 l0_0.length c0_0, .slice A0_1 l0_1.length c0_1] 31 (0, 0)) (by (with_reducible repeat (first | refine blk_drewN ?_ _ | refine blk_drew ?_ | refine blk_alloc ?_ _)); exact BK731.out) hb); have n1_ := Aside0.mk (below_step (by repeat (first | (with_reducible first | exact HB.out | apply below_alloc | apply pw_below_drewN | apply below_drew1 | refine below_set ?_ GE731.out) | exact HB.out)) hb); clear BK731; clear HB; have BK731 := n0_; have HB := n1_; clear n0_ n1_; (try clear hb); (try clear hb2); (try clear hk); (try clear hi)))
    go_ret
    exact ⟨by first | rfl | (simp [errW_none, errW_some] <;> rfl) | (simp [*, errW_none, errW_some] <;> rfl), by repeat (first | (with_reducible first | exact HB.out | apply below_alloc | apply pw_below_drewN | apply below_drew1 | refine below_set ?_ GE731.out) | exact HB.out)⟩
  · rw [if_neg c4] at H
    have c4b0 : decide (t732 < 0) = false := decide_eq_false c4
    clear c4
    replace H := Option.bind_eq_some_iff.mp H
    obtain ⟨⟨t733, t736⟩, A80, H⟩ := H
    replace H : ((spec_MovesFor.f k t733 t736 a1).bind fun bt739 => ((laws_toFlow.f k l0_0 l0_1).bind fun bt743 => ((impl_MovesFor.f k bt743.1 bt743.2 a1).bind fun bt750 => ((laws_eqInt64S.f k bt750.1 bt739.1).bind fun t754 => (if t754 = true then (laws_FnExactMovesFor.j0 k a1 bt739.1 bt739.2 bt750.1 bt750.2 (bt750.2 != bt739.2) l0_0 l0_1 bt743.1 bt743.2) else (laws_FnExactMovesFor.j0 k a1 bt739.1 bt739.2 bt750.1 bt750.2 true l0_0 l0_1 bt743.1 bt743.2)))))) = some r := H
    have A8 := Aside0.mk A80
    clear A80
    replace H := Option.bind_eq_some_iff.mp H
    obtain ⟨⟨t739, t742⟩, A90, H⟩ := H
    replace H : ((laws_toFlow.f k l0_0 l0_1).bind fun bt743 => ((impl_MovesFor.f k bt743.1 bt743.2 a1).bind fun bt750 => ((laws_eqInt64S.f k bt750.1 t739).bind fun t754 => (if t754 = true then (laws_FnExactMovesFor.j0 k a1 t739 t742 bt750.1 bt750.2 (bt750.2 != t742) l0_0 l0_1 bt743.1 bt743.2) else (laws_FnExactMovesFor.j0 k a1 t739 t742 bt750.1 bt750.2 true l0_0 l0_1 bt743.1 bt743.2))))) = some r := H
    have A9 := Aside0.mk A90
    clear A90
    replace H := Option.bind_eq_some_iff.mp H
    obtain ⟨⟨t743, t746⟩, A100, H⟩ := H
    replace H : ((impl_MovesFor.f k t743 t746 a1).bind fun bt750 => ((laws_eqInt64S.f k bt750.1 t739).bind fun t754 => (if t754 = true then (laws_FnExactMovesFor.j0 k a1 t739 t742 bt750.1 bt750.2 (bt750.2 != t742) l0_0 l0_1 t743 t746) else (laws_FnExactMovesFor.j0 k a1 t739 t742 bt750.1 bt750.2 true l0_0 l0_1 t743 t746)))) = some r := H
    have A10 := Aside0.mk A100
    clear A100
    replace H := Option.bind_eq_some_iff.mp H
    obtain ⟨⟨t750, t753⟩, A110, H⟩ := H
    replace H : ((laws_eqInt64S.f k t750 t739).bind fun t754 => (if t754 = true then (laws_FnExactMovesFor.j0 k a1 t739 t742 t750 t753 (t753 != t742) l0_0 l0_1 t743 t746) else (laws_FnExactMovesFor.j0 k a1 t739 t742 t750 t753 true l0_0 l0_1 t743 t746))) = some r := H
    have A11 := Aside0.mk A110
    clear A110
    have HC12 := Aside0.mk H
    clear H
    go_enter Try.func12, Try.ntmps12
    go_upto_region 8 with (first | ((with_reducible refine gate_dst (N := 2) rfl ?_); refine box_event ?hg (N := 2) ?hd (cs := #[.slice A0_0 l0_0.length c0_0, .slice A0_1 l0_1.length c0_1]) (t := 31) ?hr ?_; (case hd => rfl); (case hg => rfl); (case hr => first | (go_simp; done) | (go_simp; rfl)); intro gb731 hg w13 hbox hb; have n0_ := Aside0.mk (below_step (by repeat (first | (with_reducible first | exact HB.out | apply below_alloc | apply pw_below_drewN | apply below_drew1) | exact HB.out)) hb); have n1_ := Aside0.mk (hbox); have n2_ := Aside0.mk ((by rw [hg]; exact (below_size (by repeat (first | (with_reducible first | exact HB.out | apply below_alloc | apply pw_below_drewN | apply below_drew1) | exact HB.out))) : w.heap.size ≤ gb731)); have n3_ := Aside0.mk ((by rw [hg]; exact (below_size (by repeat (first | (with_reducible first | exact HB.out | apply below_alloc | apply pw_below_drewN | apply below_drew1) | exact HB.out))) : w.heap.size ≤ gb731)); clear HB; have HB := n0_; have BK731 := n1_; have GW731 := n2_; have GE731 := n3_; clear n0_ n1_ n2_ n3_; clear hb hbox hg; have hcz14_0 : w13.cell? ⟨gb731, 0, none⟩ = some (.slice A0_0 l0_0.length c0_0) := (blk_cell BK731.out 0).trans rfl; have hcz14_1 : w13.cell? ⟨gb731, 1, none⟩ = some (.slice A0_1 l0_1.length c0_1) := (blk_cell BK731.out 1).trans rfl; have hfz14_0 := blk_frozen BK731.out 0; have hfz14_1 := blk_frozen BK731.out 1) | ((with_reducible refine gate_callee (f := 20) rfl ?_); refine goesL_ (some 18) rfl rfl Try.func20 (by kernel_rfl) rfl #[.agg #[.slice A0_0 l0_0.length c0_0, .slice A0_1 l0_1.length c0_1], .int .i64 1048576] rfl (by (try simp only [List.map_toArray, List.map_cons, List.map_nil]); first | done | rfl | (simp only [List.length_drop, List.length_take]; rfl)) ?_; (with_reducible refine (laws_szFlow.calls _ _ l0_0 _ _ l0_1 1048576 t732 _ ?side1 ?side2 ?side3 ?side4 A3.out).mono ?_); (case side1 => repeat (first | exact (Kd.C_below HR0_0.out HB.out) | (with_reducible refine Kd.C_alloc ?_ _) | (with_reducible refine Kd.C_drewN ?_ _) | (with_reducible refine Kd.C_drew ?_))); (case side2 => first | exact trivial | (exact HC0_0.out)); (case side3 => repeat (first | exact (Kd.C_below HR0_1.out HB.out) | (with_reducible refine Kd.C_alloc ?_ _) | (with_reducible refine Kd.C_drewN ?_ _) | (with_reducible refine Kd.C_drew ?_))); (case side4 => first | exact trivial | (exact HC0_1.out)); rintro e w15 ⟨rfl, hb⟩; refine ⟨_, rfl, ?_⟩; have n0_ := Aside0.mk (blk_below (g := gb731) (o := .cells #[.slice A0_0 l0_0.length c0_0, .slice A0_1 l0_1.length c0_1] 31 (0, 0)) (by (with_reducible repeat (first | refine blk_drewN ?_ _ | refine blk_drew ?_ | refine blk_alloc ?_ _)); exact BK731.out) hb); have n1_ := Aside0.mk (below_step (by repeat (first | (with_reducible first | exact HB.out | apply below_alloc | apply pw_below_drewN | apply below_drew1 | refine below_set ?_ GE731.out) | exact HB.out)) hb); clear BK731; clear HB; have BK731 := n0_; have HB := n1_; clear n0_ n1_; (try clear hb); (try clear hb2); (try clear hk); (try clear hi); have hcz16_0 : w15.cell? ⟨gb731, 0, none⟩ = some (.slice A0_0 l0_0.length c0_0) := (blk_cell BK731.out 0).trans rfl; have hcz16_1 : w15.cell? ⟨gb731, 1, none⟩ = some (.slice A0_1 l0_1.length c0_1) := (blk_cell BK731.out 1).trans rfl; have hfz16_0 := blk_frozen BK731.out 0; have hfz16_1 := blk_frozen BK731.out 1) | ((with_reducible refine gate_callee (f := 22) rfl ?_); refine goesL_ (some 23) rfl rfl Try.func22 (by kernel_rfl) rfl #[.agg #[.slice A0_0 l0_0.length c0_0, .slice A0_1 l0_1.length c0_1]] rfl (by (try simp only [List.map_toArray, List.map_cons, List.map_nil]); first | done | rfl | (simp only [List.length_drop, List.length_take]; rfl)) ?_; (with_reducible refine (laws_toFlow.calls k _ _ l0_0 _ _ l0_1 t733 t736 _ ?side1 ?side2 ?side3 ?side4 A8.out).mono ?_); (case side1 => repeat (first | exact (Kd.C_below HR0_0.out HB.out) | (with_reducible refine Kd.C_alloc ?_ _) | (with_reducible refine Kd.C_drewN ?_ _) | (with_reducible refine Kd.C_drew ?_))); (case side2 => first | exact trivial | (exact HC0_0.out)); (case side3 => repeat (first | exact (Kd.C_below HR0_1.out HB.out) | (with_reducible refine Kd.C_alloc ?_ _) | (with_reducible refine Kd.C_drewN ?_ _) | (with_reducible refine Kd.C_drew ?_))); (case side4 => first | exact trivial | (exact HC0_1.out)); rintro e w17 ⟨v734, v737, rfl, ho0, ho1, hb⟩; refine ⟨_, rfl, ?_⟩; have n0_ := Aside0.mk (Kd.R_lower ho0 (below_size (by repeat (first | (with_reducible first | exact HB.out | apply below_alloc | apply pw_below_drewN | apply below_drew1 | refine below_set ?_ GE731.out) | exact HB.out)))); have n1_ := Aside0.mk (Kd.R_lower ho1 (below_size (by repeat (first | (with_reducible first | exact HB.out | apply below_alloc | apply pw_below_drewN | apply below_drew1 | refine below_set ?_ GE731.out) | exact HB.out)))); have n2_ := Aside0.mk (blk_below (g := gb731) (o := .cells #[.slice A0_0 l0_0.length c0_0, .slice A0_1 l0_1.length c0_1] 31 (0, 0)) (by (with_reducible repeat (first | refine blk_drewN ?_ _ | refine blk_drew ?_ | refine blk_alloc ?_ _)); exact BK731.out) hb); have n3_ := Aside0.mk (below_step (by repeat (first | (with_reducible first | exact HB.out | apply below_alloc | apply pw_below_drewN | apply below_drew1 | refine below_set ?_ GE731.out) | exact HB.out)) hb); clear BK731; clear HB; have HO735 := n0_; have HO738 := n1_; have BK731 := n2_; have HB := n3_; clear n0_ n1_ n2_ n3_; (try clear hb); (try clear hb2); (try clear hk); (try clear hi); (try clear ho0); (try clear ho1); obtain ⟨Ao18, co18, eo18⟩ := Kd.R_slice HO735.out; subst eo18; obtain ⟨Ao19, co19, eo19⟩ := Kd.R_slice HO738.out; subst eo19) | ((with_reducible refine gate_callee (f := 41) rfl ?_); refine goesL_ (some 25) rfl rfl Try.func41 (by kernel_rfl) rfl #[.agg #[.slice Ao18 t733.length co18, .slice Ao19 t736.length co19], .int .i64 a1] rfl (by (try simp only [List.map_toArray, List.map_cons, List.map_nil]); first | done | rfl | (simp only [List.length_drop, List.length_take]; rfl)) ?_; (with_reducible refine (spec_MovesFor.calls k _ _ t733 _ _ t736 a1 t739 t742 _ ?side1 ?side2 ?side3 ?side4 A9.out).mono ?_); (case side1 => repeat (first | exact (Kd.R_reads' HO735.out).2.2 | (with_reducible refine Kd.C_alloc ?_ _) | (with_reducible refine Kd.C_drewN ?_ _) | (with_reducible refine Kd.C_drew ?_))); (case side2 => first | exact trivial | (exact (Kd.R_reads' HO735.out).2.1)); (case side3 => repeat (first | exact (Kd.R_reads' HO738.out).2.2 | (with_reducible refine Kd.C_alloc ?_ _) | (with_reducible refine Kd.C_drewN ?_ _) | (with_reducible refine Kd.C_drew ?_))); (case side4 => first | exact trivial | (exact (Kd.R_reads' HO738.out).2.1)); rintro e w20 ⟨v740, rfl, ho0, hb⟩; refine ⟨_, rfl, ?_⟩; have n0_ := Aside0.mk (Kd.R_elder' (by (with_reducible repeat (first | apply Kd.R_alloc | apply Kd.R_drewN | apply Kd.R_drew)); exact HO735.out) (Kd.R_base ho0) hb); have n1_ := Aside0.mk (Kd.R_below (by (with_reducible repeat (first | apply Kd.R_alloc | apply Kd.R_drewN | apply Kd.R_drew)); exact HO738.out) hb); have n2_ := Aside0.mk (Kd.R_lower (Kd.R_new' ho0 (Kd.R_lt (by (with_reducible repeat (first | apply Kd.R_alloc | apply Kd.R_drewN | apply Kd.R_drew)); exact HO735.out))) (below_size (by repeat (first | (with_reducible first | exact HB.out | apply below_alloc | apply pw_below_drewN | apply below_drew1 | refine below_set ?_ GE731.out) | exact HB.out)))); have n3_ := Aside0.mk (blk_below (g := gb731) (o := .cells #[.slice A0_0 l0_0.length c0_0, .slice A0_1 l0_1.length c0_1] 31 (0, 0)) (by (with_reducible repeat (first | refine blk_drewN ?_ _ | refine blk_drew ?_ | refine blk_alloc ?_ _)); exact BK731.out) hb); have n4_ := Aside0.mk (below_step (by repeat (first | (with_reducible first | exact HB.out | apply below_alloc | apply pw_below_drewN | apply below_drew1 | refine below_set ?_ GE731.out) | exact HB.out)) hb); clear HO735; clear HO738; clear BK731; clear HB; have HO735 := n0_; have HO738 := n1_; have HO741 := n2_; have BK731 := n3_; have HB := n4_; clear n0_ n1_ n2_ n3_ n4_; (try clear hb); (try clear hb2); (try clear hk); (try clear hi); (try clear ho0); have hcz21_0 : w20.cell? ⟨gb731, 0, none⟩ = some (.slice A0_0 l0_0.length c0_0) := (blk_cell BK731.out 0).trans rfl; have hcz21_1 : w20.cell? ⟨gb731, 1, none⟩ = some (.slice A0_1 l0_1.length c0_1) := (blk_cell BK731.out 1).trans rfl; have hfz21_0 := blk_frozen BK731.out 0; have hfz21_1 := blk_frozen BK731.out 1) | ((with_reducible refine gate_callee (f := 22) rfl ?_); refine goesL_ (some 29) rfl rfl Try.func22 (by kernel_rfl) rfl #[.agg #[.slice A0_0 l0_0.length c0_0, .slice A0_1 l0_1.length c0_1]] rfl (by (try simp only [List.map_toArray, List.map_cons, List.map_nil]); first | done | rfl | (simp only [List.length_drop, List.length_take]; rfl)) ?_; (with_reducible refine (laws_toFlow.calls k _ _ l0_0 _ _ l0_1 t743 t746 _ ?side1 ?side2 ?side3 ?side4 A10.out).mono ?_); (case side1 => repeat (first | exact (Kd.C_below HR0_0.out HB.out) | (with_reducible refine Kd.C_alloc ?_ _) | (with_reducible refine Kd.C_drewN ?_ _) | (with_reducible refine Kd.C_drew ?_))); (case side2 => first | exact trivial | (exact HC0_0.out)); (case side3 => repeat (first | exact (Kd.C_below HR0_1.out HB.out) | (with_reducible refine Kd.C_alloc ?_ _) | (with_reducible refine Kd.C_drewN ?_ _) | (with_reducible refine Kd.C_drew ?_))); (case side4 => first | exact trivial | (exact HC0_1.out)); rintro e w22 ⟨v744, v747, rfl, ho0, ho1, hb⟩; refine ⟨_, rfl, ?_⟩; have n0_ := Aside0.mk (Kd.R_elder' (by (with_reducible repeat (first | apply Kd.R_alloc | apply Kd.R_drewN | apply Kd.R_drew)); exact HO735.out) (Kd.R_base ho0) hb); have n1_ := Aside0.mk (Kd.R_elder' (by (with_reducible repeat (first | apply Kd.R_alloc | apply Kd.R_drewN | apply Kd.R_drew)); exact HO738.out) (Kd.R_base ho1) hb); have n2_ := Aside0.mk (Kd.R_elder' (by (with_reducible repeat (first | apply Kd.R_alloc | apply Kd.R_drewN | apply Kd.R_drew)); exact HO741.out) (Kd.R_base ho0) hb); have n3_ := Aside0.mk (Kd.R_lower (Kd.R_new' (Kd.R_new' ho0 (Kd.R_lt (by (with_reducible repeat (first | apply Kd.R_alloc | apply Kd.R_drewN | apply Kd.R_drew)); exact HO735.out))) (Kd.R_lt (by (with_reducible repeat (first | apply Kd.R_alloc | apply Kd.R_drewN | apply Kd.R_drew)); exact HO741.out))) (below_size (by repeat (first | (with_reducible first | exact HB.out | apply below_alloc | apply pw_below_drewN | apply below_drew1 | refine below_set ?_ GE731.out) | exact HB.out)))); have n4_ := Aside0.mk (Kd.R_lower (Kd.R_new' ho1 (Kd.R_lt (by (with_reducible repeat (first | apply Kd.R_alloc | apply Kd.R_drewN | apply Kd.R_drew)); exact HO738.out))) (below_size (by repeat (first | (with_reducible first | exact HB.out | apply below_alloc | apply pw_below_drewN | apply below_drew1 | refine below_set ?_ GE731.out) | exact HB.out)))); have n5_ := Aside0.mk (blk_below (g := gb731) (o := .cells #[.slice A0_0 l0_0.length c0_0, .slice A0_1 l0_1.length c0_1] 31 (0, 0)) (by (with_reducible repeat (first | refine blk_drewN ?_ _ | refine blk_drew ?_ | refine blk_alloc ?_ _)); exact BK731.out) hb); have n6_ := Aside0.mk (below_step (by repeat (first | (with_reducible first | exact HB.out | apply below_alloc | apply pw_below_drewN | apply below_drew1 | refine below_set ?_ GE731.out) | exact HB.out)) hb); clear HO735; clear HO738; clear HO741; clear BK731; clear HB; have HO735 := n0_; have HO738 := n1_; have HO741 := n2_; have HO745 := n3_; have HO748 := n4_; have BK731 := n5_; have HB := n6_; clear n0_ n1_ n2_ n3_ n4_ n5_ n6_; (try clear hb); (try clear hb2); (try clear hk); (try clear hi); (try clear ho0); (try clear ho1)) | ((with_reducible refine gate_dst (N := 8) rfl ?_); refine box_event ?hg (N := 8) ?hd (cs := #[.slice none 0 0, .slice none 0 0]) (t := 36) ?hr ?_; (case hd => rfl); (case hg => rfl); (case hr => first | (go_simp; done) | (go_simp; rfl)); intro gb749 hg w23 hbox hb; have n0_ := Aside0.mk (Kd.R_below (by (with_reducible repeat (first | apply Kd.R_alloc | apply Kd.R_drewN | apply Kd.R_drew)); exact HO735.out) hb); have n1_ := Aside0.mk (Kd.R_below (by (with_reducible repeat (first | apply Kd.R_alloc | apply Kd.R_drewN | apply Kd.R_drew)); exact HO738.out) hb); have n2_ := Aside0.mk (Kd.R_below (by (with_reducible repeat (first | apply Kd.R_alloc | apply Kd.R_drewN | apply Kd.R_drew)); exact HO741.out) hb); have n3_ := Aside0.mk (Kd.R_below (by (with_reducible repeat (first | apply Kd.R_alloc | apply Kd.R_drewN | apply Kd.R_drew)); exact HO745.out) hb); have n4_ := Aside0.mk (Kd.R_below (by (with_reducible repeat (first | apply Kd.R_alloc | apply Kd.R_drewN | apply Kd.R_drew)); exact HO748.out) hb); have n5_ := Aside0.mk (blk_below (g := gb731) (o := .cells #[.slice A0_0 l0_0.length c0_0, .slice A0_1 l0_1.length c0_1] 31 (0, 0)) (by (with_reducible repeat (first | refine blk_drewN ?_ _ | refine blk_drew ?_ | refine blk_alloc ?_ _)); exact BK731.out) hb); have n6_ := Aside0.mk (below_step (by repeat (first | (with_reducible first | exact HB.out | apply below_alloc | apply pw_below_drewN | apply below_drew1 | refine below_set ?_ GE731.out) | exact HB.out)) hb); have n7_ := Aside0.mk (hbox); have n8_ := Aside0.mk ((by rw [hg]; exact (below_size (by repeat (first | (with_reducible first | exact HB.out | apply below_alloc | apply pw_below_drewN | apply below_drew1 | refine below_set ?_ GE731.out) | exact HB.out))) : w.heap.size ≤ gb749)); have n9_ := Aside0.mk ((by rw [hg]; exact (below_size (by repeat (first | (with_reducible first | exact HB.out | apply below_alloc | apply pw_below_drewN | apply below_drew1 | refine below_set ?_ GE731.out) | exact HB.out))) : w.heap.size ≤ gb749)); have n10_ := Aside0.mk ((by rw [hg]; exact Nat.ne_of_lt (blk_lt (g := gb731) (o := .cells #[.slice A0_0 l0_0.length c0_0, .slice A0_1 l0_1.length c0_1] 31 (0, 0)) (by (with_reducible repeat (first | refine blk_drewN ?_ _ | refine blk_drew ?_ | refine blk_alloc ?_ _)); exact BK731.out)) : gb731 ≠ gb749)); have n11_ := Aside0.mk ((by rw [hg]; exact Nat.ne_of_gt (blk_lt (g := gb731) (o := .cells #[.slice A0_0 l0_0.length c0_0, .slice A0_1 l0_1.length c0_1] 31 (0, 0)) (by (with_reducible repeat (first | refine blk_drewN ?_ _ | refine blk_drew ?_ | refine blk_alloc ?_ _)); exact BK731.out)) : gb749 ≠ gb731)); clear HO735; clear HO738; clear HO741; clear HO745; clear HO748; clear BK731; clear HB; have HO735 := n0_; have HO738 := n1_; have HO741 := n2_; have HO745 := n3_; have HO748 := n4_; have BK731 := n5_; have HB := n6_; have BK749 := n7_; have GW749 := n8_; have GE749 := n9_; have NB731_749 := n10_; have NB749_731 := n11_; clear n0_ n1_ n2_ n3_ n4_ n5_ n6_ n7_ n8_ n9_ n10_ n11_; clear hb hbox hg; obtain ⟨Ao24, co24, eo24⟩ := Kd.R_slice HO745.out; subst eo24; have hnb25 := NB749_731.out; have hnc25 := NB731_749.out; have hcz26_0 : w23.cell? ⟨gb749, 0, none⟩ = some (.slice none 0 0) := (blk_cell BK749.out 0).trans rfl; have hcz26_1 : w23.cell? ⟨gb749, 1, none⟩ = some (.slice none 0 0) := (blk_cell BK749.out 1).trans rfl; have hfz26_0 := blk_frozen BK749.out 0; have hfz26_1 := blk_frozen BK749.out 1; obtain ⟨Ao27, co27, eo27⟩ := Kd.R_slice HO748.out; subst eo27) | ((with_reducible refine gate_callee (f := 42) rfl ?_); refine goesL_ (some 33) rfl rfl Try.func42 (by kernel_rfl) rfl #[.agg #[.slice Ao24 t743.length co24, .slice Ao27 t746.length co27], .int .i64 a1] rfl (by (try simp only [List.map_toArray, List.map_cons, List.map_nil]); first | done | rfl | (simp only [List.length_drop, List.length_take]; rfl)) ?_; (with_reducible refine (impl_MovesFor.calls k _ _ t743 _ _ t746 a1 t750 t753 _ ?side1 ?side2 ?side3 ?side4 A11.out).mono ?_); (case side1 => refine (Kd.R_reads' (e := 2) (base := w.heap.size) (ok := fun k_ => ((True ∧ some k_ ≠ (.slice Ao18 t733.length co18 : Value).ownBlock) ∧ some k_ ≠ (v740 : Value).ownBlock)) (n := t743.length) (c := co24) ?_).2.2; exact (by (with_reducible repeat (first | apply Kd.R_alloc | apply Kd.R_drewN | apply Kd.R_drew)); exact (Kd.R_mono (Kd.R_far (p := ⟨gb749, 1, none⟩) (Kd.R_far (p := ⟨gb749, 0, none⟩) (Kd.R_types HO745.out BK749.out (by decide)) (fun _ hk => hk.2) (.slice Ao24 t743.length co24)) (fun _ hk => hk.2) (.slice Ao27 t746.length co27)) (fun _ h_ => h_.1)))); (case side2 => first | exact trivial | (exact (Kd.R_reads' HO745.out).2.1)); (case side3 => refine (Kd.R_reads' (e := 55) (base := w.heap.size) (ok := fun k_ => (True ∧ some k_ ≠ (.slice Ao19 t736.length co19 : Value).ownBlock)) (n := t746.length) (c := co27) ?_).2.2; exact (by (with_reducible repeat (first | apply Kd.R_alloc | apply Kd.R_drewN | apply Kd.R_drew)); exact (Kd.R_mono (Kd.R_far (p := ⟨gb749, 1, none⟩) (Kd.R_far (p := ⟨gb749, 0, none⟩) (Kd.R_types HO748.out BK749.out (by decide)) (fun _ hk => hk.2) (.slice Ao24 t743.length co24)) (fun _ hk => hk.2) (.slice Ao27 t746.length co27)) (fun _ h_ => h_.1)))); (case side4 => first | exact trivial | (exact (Kd.R_reads' HO748.out).2.1)); rintro e w28 ⟨v751, rfl, ho0, hb⟩; refine ⟨_, rfl, ?_⟩; have n0_ := Aside0.mk (Kd.R_elder' (by (with_reducible repeat (first | apply Kd.R_alloc | apply Kd.R_drewN | apply Kd.R_drew)); exact (Kd.R_mono (Kd.R_far (p := ⟨gb749, 1, none⟩) (Kd.R_far (p := ⟨gb749, 0, none⟩) (Kd.R_types HO735.out BK749.out (by decide)) (fun _ hk => hk.2) (.slice Ao24 t743.length co24)) (fun _ hk => hk.2) (.slice Ao27 t746.length co27)) (fun _ h_ => h_.1))) (Kd.R_base ho0) hb); have n1_ := Aside0.mk (Kd.R_below (by (with_reducible repeat (first | apply Kd.R_alloc | apply Kd.R_drewN | apply Kd.R_drew)); exact (Kd.R_mono (Kd.R_far (p := ⟨gb749, 1, none⟩) (Kd.R_far (p := ⟨gb749, 0, none⟩) (Kd.R_types HO738.out BK749.out (by decide)) (fun _ hk => hk.2) (.slice Ao24 t743.length co24)) (fun _ hk => hk.2) (.slice Ao27 t746.length co27)) (fun _ h_ => h_.1))) hb); have n2_ := Aside0.mk (Kd.R_elder' (by (with_reducible repeat (first | apply Kd.R_alloc | apply Kd.R_drewN | apply Kd.R_drew)); exact (Kd.R_mono (Kd.R_far (p := ⟨gb749, 1, none⟩) (Kd.R_far (p := ⟨gb749, 0, none⟩) (Kd.R_types HO741.out BK749.out (by decide)) (fun _ hk => hk.2) (.slice Ao24 t743.length co24)) (fun _ hk => hk.2) (.slice Ao27 t746.length co27)) (fun _ h_ => h_.1))) (Kd.R_base ho0) hb); have n3_ := Aside0.mk (Kd.R_elder' (by (with_reducible repeat (first | apply Kd.R_alloc | apply Kd.R_drewN | apply Kd.R_drew)); exact (Kd.R_mono (Kd.R_far (p := ⟨gb749, 1, none⟩) (Kd.R_far (p := ⟨gb749, 0, none⟩) (Kd.R_types HO745.out BK749.out (by decide)) (fun _ hk => hk.2) (.slice Ao24 t743.length co24)) (fun _ hk => hk.2) (.slice Ao27 t746.length co27)) (fun _ h_ => h_.1))) (Kd.R_base ho0) hb); have n4_ := Aside0.mk (Kd.R_below (by (with_reducible repeat (first | apply Kd.R_alloc | apply Kd.R_drewN | apply Kd.R_drew)); exact (Kd.R_mono (Kd.R_far (p := ⟨gb749, 1, none⟩) (Kd.R_far (p := ⟨gb749, 0, none⟩) (Kd.R_types HO748.out BK749.out (by decide)) (fun _ hk => hk.2) (.slice Ao24 t743.length co24)) (fun _ hk => hk.2) (.slice Ao27 t746.length co27)) (fun _ h_ => h_.1))) hb); have n5_ := Aside0.mk (Kd.R_lower (Kd.R_new' (Kd.R_new' (Kd.R_new' ho0 (Kd.R_lt (by (with_reducible repeat (first | apply Kd.R_alloc | apply Kd.R_drewN | apply Kd.R_drew)); exact (Kd.R_mono (Kd.R_far (p := ⟨gb749, 1, none⟩) (Kd.R_far (p := ⟨gb749, 0, none⟩) (Kd.R_types HO735.out BK749.out (by decide)) (fun _ hk => hk.2) (.slice Ao24 t743.length co24)) (fun _ hk => hk.2) (.slice Ao27 t746.length co27)) (fun _ h_ => h_.1))))) (Kd.R_lt (by (with_reducible repeat (first | apply Kd.R_alloc | apply Kd.R_drewN | apply Kd.R_drew)); exact (Kd.R_mono (Kd.R_far (p := ⟨gb749, 1, none⟩) (Kd.R_far (p := ⟨gb749, 0, none⟩) (Kd.R_types HO741.out BK749.out (by decide)) (fun _ hk => hk.2) (.slice Ao24 t743.length co24)) (fun _ hk => hk.2) (.slice Ao27 t746.length co27)) (fun _ h_ => h_.1))))) (Kd.R_lt (by (with_reducible repeat (first | apply Kd.R_alloc | apply Kd.R_drewN | apply Kd.R_drew)); exact (Kd.R_mono (Kd.R_far (p := ⟨gb749, 1, none⟩) (Kd.R_far (p := ⟨gb749, 0, none⟩) (Kd.R_types HO745.out BK749.out (by decide)) (fun _ hk => hk.2) (.slice Ao24 t743.length co24)) (fun _ hk => hk.2) (.slice Ao27 t746.length co27)) (fun _ h_ => h_.1))))) (below_size (by repeat (first | (with_reducible first | exact HB.out | apply below_alloc | apply pw_below_drewN | apply below_drew1 | refine below_set ?_ GE731.out | refine below_set ?_ GE749.out) | exact HB.out)))); have n6_ := Aside0.mk (blk_below (g := gb731) (o := .cells #[.slice A0_0 l0_0.length c0_0, .slice A0_1 l0_1.length c0_1] 31 (0, 0)) (by (with_reducible repeat (first | refine blk_drewN ?_ _ | refine blk_drew ?_ | refine blk_alloc ?_ _)); refine blk_far ?_ NB731_749.out _; (with_reducible repeat (first | refine blk_drewN ?_ _ | refine blk_drew ?_ | refine blk_alloc ?_ _)); refine blk_far ?_ NB731_749.out _; (with_reducible repeat (first | refine blk_drewN ?_ _ | refine blk_drew ?_ | refine blk_alloc ?_ _)); exact BK731.out) hb); have n7_ := Aside0.mk (blk_below (g := gb749) (o := .cells #[.slice Ao24 t743.length co24, .slice Ao27 t746.length co27] 36 (0, 0)) (by (with_reducible repeat (first | refine blk_drewN ?_ _ | refine blk_drew ?_ | refine blk_alloc ?_ _)); refine blk_put (cs := #[.slice Ao24 t743.length co24, .slice none 0 0]) ?_ 1 _ rfl; (with_reducible repeat (first | refine blk_drewN ?_ _ | refine blk_drew ?_ | refine blk_alloc ?_ _)); refine blk_put (cs := #[.slice none 0 0, .slice none 0 0]) ?_ 0 _ rfl; (with_reducible repeat (first | refine blk_drewN ?_ _ | refine blk_drew ?_ | refine blk_alloc ?_ _)); exact BK749.out) hb); have n8_ := Aside0.mk (below_step (by repeat (first | (with_reducible first | exact HB.out | apply below_alloc | apply pw_below_drewN | apply below_drew1 | refine below_set ?_ GE731.out | refine below_set ?_ GE749.out) | exact HB.out)) hb); clear HO735; clear HO738; clear HO741; clear HO745; clear HO748; clear BK731; clear BK749; clear HB; have HO735 := n0_; have HO738 := n1_; have HO741 := n2_; have HO745 := n3_; have HO748 := n4_; have HO752 := n5_; have BK731 := n6_; have BK749 := n7_; have HB := n8_; clear n0_ n1_ n2_ n3_ n4_ n5_ n6_ n7_ n8_; (try clear hb); (try clear hb2); (try clear hk); (try clear hi); (try clear ho0)))
    (try simp only [Act.put, List.setIfInBounds_toArray, List.set_cons_zero, List.set_cons_succ])
    go_cut [44] (fun v44 wc => ∃ (kq : Nat) (x44_11 : Bool), v44 = .bool x44_11 ∧ Aside0 (laws_FnExactMovesFor.j0 kq a1 t739 t742 t750 t753 x44_11 l0_0 l0_1 t743 t746 = some r) ∧ Aside0 (kq ≤ k) ∧ Aside0 (Kd.R (Kd.int .i64) 2 wc w.heap.size (fun k_ => some k_ ≠ (v751 : Value).ownBlock ∧ some k_ ≠ ((.slice Ao24 t743.length co24) : Value).ownBlock) v740 t739) ∧ Aside0 (Kd.R (Kd.int .i64) 2 wc w.heap.size (fun k_ => some k_ ≠ (v740 : Value).ownBlock ∧ some k_ ≠ ((.slice Ao24 t743.length co24) : Value).ownBlock) v751 t750) ∧ Aside0 (Kd.R (Kd.int .i64) 2 wc w.heap.size (fun k_ => some k_ ≠ (v740 : Value).ownBlock ∧ some k_ ≠ (v751 : Value).ownBlock) (.slice Ao24 t743.length co24) t743) ∧ Aside0 (Kd.R k55 55 wc w.heap.size (fun _ => True) (.slice Ao27 t746.length co27) t746) ∧ Aside0 (wc.heap[gb731]? = some (.cells #[(.slice A0_0 l0_0.length c0_0), (.slice A0_1 l0_1.length c0_1)] 31 (0, 0))) ∧ Aside0 (wc.heap[gb749]? = some (.cells #[(.slice Ao24 t743.length co24), (.slice Ao27 t746.length co27)] 36 (0, 0))) ∧ Aside0 (Below w.heap.size w wc))
    case first =>
      have H := HC12.out
      clear HC12
      replace H := Option.bind_eq_some_iff.mp H
      obtain ⟨t754, A290, H⟩ := H
      replace H : (if t754 = true then (laws_FnExactMovesFor.j0 k a1 t739 t742 t750 t753 (t753 != t742) l0_0 l0_1 t743 t746) else (laws_FnExactMovesFor.j0 k a1 t739 t742 t750 t753 true l0_0 l0_1 t743 t746)) = some r := H
      have A29 := Aside0.mk A290
      clear A290
      by_cases c30 : t754 = true
      · subst c30
        have H1 : (laws_FnExactMovesFor.j0 k a1 t739 t742 t750 t753 (t753 != t742) l0_0 l0_1 t743 t746) = some r := by rw [if_pos rfl] at H; exact H
        clear H
        have H := H1
        clear H1
        have H' := Aside0.mk H
        clear H
        obtain ⟨Ao31, co31, eo31⟩ := Kd.R_slice HO752.out
        subst eo31
        obtain ⟨Ao32, co32, eo32⟩ := Kd.R_slice HO741.out
        subst eo32
        go_wp2_with (first | ((with_reducible refine gate_callee (f := 17) rfl ?_); refine goesL_ (some 38) rfl rfl Try.func17 (by kernel_rfl) rfl #[.slice Ao31 t750.length co31, .slice Ao32 t739.length co32] rfl (by (try simp only [List.map_toArray, List.map_cons, List.map_nil]); first | done | rfl | (simp only [List.length_drop, List.length_take]; rfl)) ?_; (with_reducible refine (laws_eqInt64S.calls k _ _ t750 _ _ t739 true _ ?side1 ?side2 ?side3 ?side4 A29.out).mono ?_); (case side1 => repeat (first | exact (Kd.R_reads' HO752.out).2.2 | (with_reducible refine Kd.C_alloc ?_ _) | (with_reducible refine Kd.C_drewN ?_ _) | (with_reducible refine Kd.C_drew ?_))); (case side2 => first | exact trivial | (exact (Kd.R_reads' HO752.out).2.1)); (case side3 => repeat (first | exact (Kd.R_reads' HO741.out).2.2 | (with_reducible refine Kd.C_alloc ?_ _) | (with_reducible refine Kd.C_drewN ?_ _) | (with_reducible refine Kd.C_drew ?_))); (case side4 => first | exact trivial | (exact (Kd.R_reads' HO741.out).2.1)); rintro e w' ⟨rfl, ⟨nd, rfl⟩⟩; refine ⟨_, rfl, ?_⟩))
        go_meet
        case rel => exact ⟨_, ((t753 != t742)), (by first | rfl | (simp; done) | (simp [*]; done)), H', ⟨by first | omega | exact Nat.le_refl _⟩, ⟨by (with_reducible repeat (first | apply Kd.R_alloc | apply Kd.R_drewN | apply Kd.R_drew)); exact Kd.R_mono HO741.out (fun _ hk => ⟨hk.2, hk.1.2⟩)⟩, ⟨by (with_reducible repeat (first | apply Kd.R_alloc | apply Kd.R_drewN | apply Kd.R_drew)); exact Kd.R_mono HO752.out (fun _ hk => ⟨hk.1.2, hk.2⟩)⟩, ⟨by (with_reducible repeat (first | apply Kd.R_alloc | apply Kd.R_drewN | apply Kd.R_drew)); exact Kd.R_mono HO745.out (fun _ hk => ⟨hk.1.2, hk.2⟩)⟩, ⟨by (with_reducible repeat (first | apply Kd.R_alloc | apply Kd.R_drewN | apply Kd.R_drew)); exact Kd.R_mono HO748.out (fun _ hk => trivial)⟩, ⟨by (with_reducible repeat (first | refine blk_drewN ?_ _ | refine blk_drew ?_ | refine blk_alloc ?_ _)); exact BK731.out⟩, ⟨by (with_reducible repeat (first | refine blk_drewN ?_ _ | refine blk_drew ?_ | refine blk_alloc ?_ _)); exact BK749.out⟩, ⟨by repeat (first | (with_reducible first | exact HB.out | apply below_alloc | apply pw_below_drewN | apply below_drew1 | refine below_set ?_ GE731.out | refine below_set ?_ GE749.out) | exact HB.out)⟩⟩
      · replace c30 := Bool.eq_false_iff.mpr c30
        subst c30
        have H1 : (laws_FnExactMovesFor.j0 k a1 t739 t742 t750 t753 true l0_0 l0_1 t743 t746) = some r := by rw [if_neg (show ¬ (false = true) by decide)] at H; exact H
        clear H
        have H := H1
        clear H1
        have H' := Aside0.mk H
        clear H
        obtain ⟨Ao33, co33, eo33⟩ := Kd.R_slice HO752.out
        subst eo33
        obtain ⟨Ao34, co34, eo34⟩ := Kd.R_slice HO741.out
        subst eo34
        go_wp2_with (first | ((with_reducible refine gate_callee (f := 17) rfl ?_); refine goesL_ (some 38) rfl rfl Try.func17 (by kernel_rfl) rfl #[.slice Ao33 t750.length co33, .slice Ao34 t739.length co34] rfl (by (try simp only [List.map_toArray, List.map_cons, List.map_nil]); first | done | rfl | (simp only [List.length_drop, List.length_take]; rfl)) ?_; (with_reducible refine (laws_eqInt64S.calls k _ _ t750 _ _ t739 false _ ?side1 ?side2 ?side3 ?side4 A29.out).mono ?_); (case side1 => repeat (first | exact (Kd.R_reads' HO752.out).2.2 | (with_reducible refine Kd.C_alloc ?_ _) | (with_reducible refine Kd.C_drewN ?_ _) | (with_reducible refine Kd.C_drew ?_))); (case side2 => first | exact trivial | (exact (Kd.R_reads' HO752.out).2.1)); (case side3 => repeat (first | exact (Kd.R_reads' HO741.out).2.2 | (with_reducible refine Kd.C_alloc ?_ _) | (with_reducible refine Kd.C_drewN ?_ _) | (with_reducible refine Kd.C_drew ?_))); (case side4 => first | exact trivial | (exact (Kd.R_reads' HO741.out).2.1)); rintro e w' ⟨rfl, ⟨nd, rfl⟩⟩; refine ⟨_, rfl, ?_⟩))
        go_meet
        case rel => exact ⟨_, (true), (by first | rfl | (simp; done) | (simp [*]; done)), H', ⟨by first | omega | exact Nat.le_refl _⟩, ⟨by (with_reducible repeat (first | apply Kd.R_alloc | apply Kd.R_drewN | apply Kd.R_drew)); exact Kd.R_mono HO741.out (fun _ hk => ⟨hk.2, hk.1.2⟩)⟩, ⟨by (with_reducible repeat (first | apply Kd.R_alloc | apply Kd.R_drewN | apply Kd.R_drew)); exact Kd.R_mono HO752.out (fun _ hk => ⟨hk.1.2, hk.2⟩)⟩, ⟨by (with_reducible repeat (first | apply Kd.R_alloc | apply Kd.R_drewN | apply Kd.R_drew)); exact Kd.R_mono HO745.out (fun _ hk => ⟨hk.1.2, hk.2⟩)⟩, ⟨by (with_reducible repeat (first | apply Kd.R_alloc | apply Kd.R_drewN | apply Kd.R_drew)); exact Kd.R_mono HO748.out (fun _ hk => trivial)⟩, ⟨by (with_reducible repeat (first | refine blk_drewN ?_ _ | refine blk_drew ?_ | refine blk_alloc ?_ _)); exact BK731.out⟩, ⟨by (with_reducible repeat (first | refine blk_drewN ?_ _ | refine blk_drew ?_ | refine blk_alloc ?_ _)); exact BK749.out⟩, ⟨by repeat (first | (with_reducible first | exact HB.out | apply below_alloc | apply pw_below_drewN | apply below_drew1 | refine below_set ?_ GE731.out | refine below_set ?_ GE749.out) | exact HB.out)⟩⟩
    case rest =>
      clear HC12
      try clear c1
      try clear c2
      try clear p2
      try clear c3
      try clear c4
      try clear c4b0
      try clear c12
      try clear c17
      try clear c20
      try clear c22
      try clear c25
      try clear c30
      try clear hcz14_0
      try clear hcz14_1
      try clear hcz16_0
      try clear hcz16_1
      try clear hcz21_0
      try clear hcz21_1
      try clear hcz26_0
      try clear hcz26_1
      try clear hcz6_0
      try clear hcz6_1
      try clear hfz14_0
      try clear hfz14_1
      try clear hfz16_0
      try clear hfz16_1
      try clear hfz21_0
      try clear hfz21_1
      try clear hfz26_0
      try clear hfz26_1
      try clear hfz6_0
      try clear hfz6_1
      obtain ⟨kq, x44_11, rfl, HA, HJ11, HO_6, HO_9, HO_750000, HO_750001, BK731, BK749, HB⟩ := hcut
      cases kq with
      | zero => exact absurd HA.out (by simp [laws_FnExactMovesFor.j0])
      | succ kj11 =>
        have H := HA.out
        clear HA
        simp only [laws_FnExactMovesFor.j0] at H
        by_cases c35 : x44_11 = true
        · subst c35
          have H1 : (some false) = some r := by rw [if_pos rfl] at H; exact H
          clear H
          have H := H1
          clear H1
          obtain rfl := Option.some.inj H
          go_wp2
          go_ret
          exact ⟨by first | rfl | (simp [errW_none, errW_some] <;> rfl) | (simp [*, errW_none, errW_some] <;> rfl), by repeat (first | (with_reducible first | exact HB.out | apply below_alloc | apply pw_below_drewN | apply below_drew1 | refine below_set ?_ GE731.out | refine below_set ?_ GE749.out) | exact HB.out)⟩
        · replace c35 := Bool.eq_false_iff.mpr c35
          subst c35
          have H1 : ((laws_toFlow.f kj11 l0_0 l0_1).bind fun bt755 => ((laws_eqFlow.f kj11 t743 t746 bt755.1 bt755.2).bind fun t761 => (if t761 = true then ((laws_markFlow.f kj11 t743 t746 1).bind fun bt762 => (if bt762.1 < 0 then (laws_FnExactMovesFor.j1 kj11 a1 t739 t742 t750 true l0_0 l0_1) else ((laws_eqInt64S.f kj11 t750 t739).bind fun t765 => (if t765 = true then (laws_FnExactMovesFor.j1 kj11 a1 t739 t742 t750 (t753 != t742) l0_0 l0_1) else (laws_FnExactMovesFor.j1 kj11 a1 t739 t742 t750 true l0_0 l0_1))))) else (some false)))) = some r := by rw [if_neg (show ¬ (false = true) by decide)] at H; exact H
          clear H
          have H := H1
          clear H1
          replace H := Option.bind_eq_some_iff.mp H
          obtain ⟨⟨t755, t758⟩, A360, H⟩ := H
          replace H : ((laws_eqFlow.f kj11 t743 t746 t755 t758).bind fun t761 => (if t761 = true then ((laws_markFlow.f kj11 t743 t746 1).bind fun bt762 => (if bt762.1 < 0 then (laws_FnExactMovesFor.j1 kj11 a1 t739 t742 t750 true l0_0 l0_1) else ((laws_eqInt64S.f kj11 t750 t739).bind fun t765 => (if t765 = true then (laws_FnExactMovesFor.j1 kj11 a1 t739 t742 t750 (t753 != t742) l0_0 l0_1) else (laws_FnExactMovesFor.j1 kj11 a1 t739 t742 t750 true l0_0 l0_1))))) else (some false))) = some r := H
          have A36 := Aside0.mk A360
          clear A360
          replace H := Option.bind_eq_some_iff.mp H
          obtain ⟨t761, A370, H⟩ := H
          replace H : (if t761 = true then ((laws_markFlow.f kj11 t743 t746 1).bind fun bt762 => (if bt762.1 < 0 then (laws_FnExactMovesFor.j1 kj11 a1 t739 t742 t750 true l0_0 l0_1) else ((laws_eqInt64S.f kj11 t750 t739).bind fun t765 => (if t765 = true then (laws_FnExactMovesFor.j1 kj11 a1 t739 t742 t750 (t753 != t742) l0_0 l0_1) else (laws_FnExactMovesFor.j1 kj11 a1 t739 t742 t750 true l0_0 l0_1))))) else (some false)) = some r := H
          have A37 := Aside0.mk A370
          clear A370
          by_cases c38 : t761 = true
          · subst c38
            have H1 : ((laws_markFlow.f kj11 t743 t746 1).bind fun bt762 => (if bt762.1 < 0 then (laws_FnExactMovesFor.j1 kj11 a1 t739 t742 t750 true l0_0 l0_1) else ((laws_eqInt64S.f kj11 t750 t739).bind fun t765 => (if t765 = true then (laws_FnExactMovesFor.j1 kj11 a1 t739 t742 t750 (t753 != t742) l0_0 l0_1) else (laws_FnExactMovesFor.j1 kj11 a1 t739 t742 t750 true l0_0 l0_1))))) = some r := by rw [if_pos rfl] at H; exact H
            clear H
            have H := H1
            clear H1
            replace H := Option.bind_eq_some_iff.mp H
            obtain ⟨⟨t762, t763, t764⟩, A390, H⟩ := H
            replace H : (if t762 < 0 then (laws_FnExactMovesFor.j1 kj11 a1 t739 t742 t750 true l0_0 l0_1) else ((laws_eqInt64S.f kj11 t750 t739).bind fun t765 => (if t765 = true then (laws_FnExactMovesFor.j1 kj11 a1 t739 t742 t750 (t753 != t742) l0_0 l0_1) else (laws_FnExactMovesFor.j1 kj11 a1 t739 t742 t750 true l0_0 l0_1)))) = some r := H
            have A39 := Aside0.mk A390
            clear A390
            have HC40 := Aside0.mk H
            clear H
            try go_wp2
            have n0_ := Aside0.mk (Kd.R_drew HO_6.out)
            have n1_ := Aside0.mk (Kd.R_drew HO_9.out)
            have n2_ := Aside0.mk (Kd.R_drew HO_750000.out)
            have n3_ := Aside0.mk (Kd.R_drew HO_750001.out)
            have n4_ := Aside0.mk (blk_drew BK731.out)
            have n5_ := Aside0.mk (blk_drew BK749.out)
            have n6_ := Aside0.mk (below_drew1 HB.out)
            clear HO_6
            clear HO_9
            clear HO_750000
            clear HO_750001
            clear BK731
            clear BK749
            clear HB
            have HO_6 := n0_
            have HO_9 := n1_
            have HO_750000 := n2_
            have HO_750001 := n3_
            have BK731 := n4_
            have BK749 := n5_
            have HB := n6_
            clear n0_ n1_ n2_ n3_ n4_ n5_ n6_
            refine start_ (n := 5) (S := fun w' => w'.cell? ⟨gb749, 0, none⟩ = some (.slice Ao24 t743.length co24) ∧ w'.cell? ⟨gb749, 1, none⟩ = some (.slice Ao27 t746.length co27) ∧ w'.cell? ⟨gb731, 0, none⟩ = some (.slice A0_0 l0_0.length c0_0) ∧ w'.cell? ⟨gb731, 1, none⟩ = some (.slice A0_1 l0_1.length c0_1)) (ds := []) #[false, false, false, false, false] (by kernel_rfl) rfl rfl ⟨(blk_cell BK749.out 0).trans rfl, (blk_cell BK749.out 1).trans rfl, (blk_cell BK731.out 0).trans rfl, (blk_cell BK731.out 1).trans rfl⟩ (fun hHeld => ?_)
            generalize wc.drew = w41 at HO_6 HO_9 HO_750000 HO_750001 BK731 BK749 HB hHeld ⊢
            refine take_ (i := 0) (N := some 45) (v := ?_) (a' := ?_) #[true, false, false, false, false] rfl rfl (by kernel_rfl) (fun _ _ _ h => h) (Or.inl ⟨by rfl, ?_⟩) hHeld ?_ ?_
            rotate_left
            · rintro w' ⟨s0, s1, s2, s3⟩
              go_simp
              with_reducible rfl
            rotate_left
            · simp only [Act.put, List.setIfInBounds_toArray, List.set_cons_zero, List.set_cons_succ, i64_w, i32_w]
              rfl
            refine take_ (i := 1) (N := some 46) (v := ?_) (a' := ?_) #[true, true, false, false, false] rfl rfl (by kernel_rfl) (fun _ _ _ h => h) (Or.inl ⟨by rfl, ?_⟩) hHeld ?_ ?_
            rotate_left
            · rintro w' ⟨s0, s1, s2, s3⟩
              go_simp
              with_reducible rfl
            rotate_left
            · simp only [Act.put, List.setIfInBounds_toArray, List.set_cons_zero, List.set_cons_succ, i64_w, i32_w]
              rfl
            refine one_ (i := 2) (N := some 47) #[true, true, true, false, false] rfl rfl (by kernel_rfl) (by decide) (fun K hK => ?_)
            refine goes_ Try.func22 (by kernel_rfl) rfl #[.agg #[.slice A0_0 l0_0.length c0_0, .slice A0_1 l0_1.length c0_1]] (by rfl) rfl rfl (by (try simp only [List.map_toArray, List.map_cons, List.map_nil]); first | done | rfl | (simp only [List.length_drop, List.length_take]; rfl)) ?_
            with_reducible refine (laws_toFlow.calls kj11 _ _ l0_0 _ _ l0_1 t755 t758 _ ?side1 ?side2 ?side3 ?side4 A36.out).mono ?_
            (case side1 => repeat (first | exact (Kd.C_below HR0_0.out HB.out) | (with_reducible refine Kd.C_alloc ?_ _) | (with_reducible refine Kd.C_drewN ?_ _) | (with_reducible refine Kd.C_drew ?_)))
            (case side2 => first | exact trivial | (exact HC0_0.out))
            (case side3 => repeat (first | exact (Kd.C_below HR0_1.out HB.out) | (with_reducible refine Kd.C_alloc ?_ _) | (with_reducible refine Kd.C_drewN ?_ _) | (with_reducible refine Kd.C_drew ?_)))
            (case side4 => first | exact trivial | (exact HC0_1.out))
            rintro e w42 ⟨v756, v759, rfl, ho0, ho1, hb⟩
            refine ⟨_, rfl, ?_⟩
            have n0_ := Aside0.mk (Kd.R_elder' (by (with_reducible repeat (first | apply Kd.R_alloc | apply Kd.R_drewN | apply Kd.R_drew)); exact HO_6.out) (Kd.R_base ho0) hb)
            have n1_ := Aside0.mk (Kd.R_elder' (by (with_reducible repeat (first | apply Kd.R_alloc | apply Kd.R_drewN | apply Kd.R_drew)); exact HO_9.out) (Kd.R_base ho0) hb)
            have n2_ := Aside0.mk (Kd.R_elder' (by (with_reducible repeat (first | apply Kd.R_alloc | apply Kd.R_drewN | apply Kd.R_drew)); exact HO_750000.out) (Kd.R_base ho0) hb)
            have n3_ := Aside0.mk (Kd.R_elder' (by (with_reducible repeat (first | apply Kd.R_alloc | apply Kd.R_drewN | apply Kd.R_drew)); exact HO_750001.out) (Kd.R_base ho1) hb)
            have n4_ := Aside0.mk (Kd.R_lower (Kd.R_new' (Kd.R_new' (Kd.R_new' ho0 (Kd.R_lt (by (with_reducible repeat (first | apply Kd.R_alloc | apply Kd.R_drewN | apply Kd.R_drew)); exact HO_6.out))) (Kd.R_lt (by (with_reducible repeat (first | apply Kd.R_alloc | apply Kd.R_drewN | apply Kd.R_drew)); exact HO_9.out))) (Kd.R_lt (by (with_reducible repeat (first | apply Kd.R_alloc | apply Kd.R_drewN | apply Kd.R_drew)); exact HO_750000.out))) (below_size (by repeat (first | (with_reducible first | exact HB.out | apply below_alloc | apply pw_below_drewN | apply below_drew1 | refine below_set ?_ GE731.out | refine below_set ?_ GE749.out) | exact HB.out))))
            have n5_ := Aside0.mk (Kd.R_lower (Kd.R_new' ho1 (Kd.R_lt (by (with_reducible repeat (first | apply Kd.R_alloc | apply Kd.R_drewN | apply Kd.R_drew)); exact HO_750001.out))) (below_size (by repeat (first | (with_reducible first | exact HB.out | apply below_alloc | apply pw_below_drewN | apply below_drew1 | refine below_set ?_ GE731.out | refine below_set ?_ GE749.out) | exact HB.out))))
            have n6_ := Aside0.mk (blk_below (g := gb731) (o := .cells #[.slice A0_0 l0_0.length c0_0, .slice A0_1 l0_1.length c0_1] 31 (0, 0)) (by (with_reducible repeat (first | refine blk_drewN ?_ _ | refine blk_drew ?_ | refine blk_alloc ?_ _)); exact BK731.out) hb)
            have n7_ := Aside0.mk (blk_below (g := gb749) (o := .cells #[.slice Ao24 t743.length co24, .slice Ao27 t746.length co27] 36 (0, 0)) (by (with_reducible repeat (first | refine blk_drewN ?_ _ | refine blk_drew ?_ | refine blk_alloc ?_ _)); exact BK749.out) hb)
            have n8_ := Aside0.mk (below_step (by repeat (first | (with_reducible first | exact HB.out | apply below_alloc | apply pw_below_drewN | apply below_drew1 | refine below_set ?_ GE731.out | refine below_set ?_ GE749.out) | exact HB.out)) hb)
            clear HO_6
            clear HO_9
            clear HO_750000
            clear HO_750001
            clear BK731
            clear BK749
            clear HB
            have HO_6 := n0_
            have HO_9 := n1_
            have HO_750000 := n2_
            have HO_750001 := n3_
            have HO757 := n4_
            have HO760 := n5_
            have BK731 := n6_
            have BK749 := n7_
            have HB := n8_
            clear n0_ n1_ n2_ n3_ n4_ n5_ n6_ n7_ n8_
            (try clear hb)
            (try clear hb2)
            (try clear hk)
            (try clear hi)
            (try clear ho0)
            (try clear ho1)
            obtain ⟨Ao43, co43, eo43⟩ := Kd.R_slice HO757.out
            (first | subst eo43 | (injection eo43 with f1_ f2_ f3_; have f4_ := f1_.symm; have f5_ := f3_.symm; clear f1_ f2_ f3_; subst f4_; subst f5_))
            obtain ⟨Ao44, co44, eo44⟩ := Kd.R_slice HO760.out
            (first | subst eo44 | (injection eo44 with f1_ f2_ f3_; have f4_ := f1_.symm; have f5_ := f3_.symm; clear f1_ f2_ f3_; subst f4_; subst f5_))
            refine hK.out _ _ ⟨(blk_cell BK749.out 0).trans rfl, (blk_cell BK749.out 1).trans rfl, (blk_cell BK731.out 0).trans rfl, (blk_cell BK731.out 1).trans rfl⟩ (fun hHeld => ?_)
            clear hK K
            refine norm_ (a' := ?_) ?_ ?_
            rotate_left
            · show Act.put _ (some 47) _ = _
              simp only [Act.put, List.setIfInBounds_toArray, List.set_cons_zero, List.set_cons_succ, i64_w, i32_w]
              rfl
            refine one_ (i := 3) (N := some 48) #[true, true, true, true, false] rfl rfl (by kernel_rfl) (by decide) (fun K hK => ?_)
            refine goes_ Try.func24 (by kernel_rfl) rfl #[.agg #[.slice Ao24 t743.length co24, .slice Ao27 t746.length co27], .agg #[.slice Ao43 t755.length co43, .slice Ao44 t758.length co44]] (by rfl) rfl rfl (by (try simp only [List.map_toArray, List.map_cons, List.map_nil]); first | done | rfl | (simp only [List.length_drop, List.length_take]; rfl)) ?_
            with_reducible refine (laws_eqFlow.calls kj11 _ _ t743 _ _ t746 _ _ t755 _ _ t758 true _ ?side1 ?side2 ?side3 ?side4 ?side5 ?side6 ?side7 ?side8 A37.out).mono ?_
            (case side1 => repeat (first | exact (Kd.R_reads' HO_750000.out).2.2 | (with_reducible refine Kd.C_alloc ?_ _) | (with_reducible refine Kd.C_drewN ?_ _) | (with_reducible refine Kd.C_drew ?_)))
            (case side2 => first | exact trivial | (exact (Kd.R_reads' HO_750000.out).2.1))
            (case side3 => repeat (first | exact (Kd.R_reads' HO_750001.out).2.2 | (with_reducible refine Kd.C_alloc ?_ _) | (with_reducible refine Kd.C_drewN ?_ _) | (with_reducible refine Kd.C_drew ?_)))
            (case side4 => first | exact trivial | (exact (Kd.R_reads' HO_750001.out).2.1))
            (case side5 => repeat (first | exact (Kd.R_reads' HO757.out).2.2 | (with_reducible refine Kd.C_alloc ?_ _) | (with_reducible refine Kd.C_drewN ?_ _) | (with_reducible refine Kd.C_drew ?_)))
            (case side6 => first | exact trivial | (exact (Kd.R_reads' HO757.out).2.1))
            (case side7 => repeat (first | exact (Kd.R_reads' HO760.out).2.2 | (with_reducible refine Kd.C_alloc ?_ _) | (with_reducible refine Kd.C_drewN ?_ _) | (with_reducible refine Kd.C_drew ?_)))
            (case side8 => first | exact trivial | (exact (Kd.R_reads' HO760.out).2.1))
            rintro e w45 ⟨rfl, hb⟩
            refine ⟨_, rfl, ?_⟩
            have n0_ := Aside0.mk (Kd.R_below (by (with_reducible repeat (first | apply Kd.R_alloc | apply Kd.R_drewN | apply Kd.R_drew)); exact HO_6.out) hb)
            have n1_ := Aside0.mk (Kd.R_below (by (with_reducible repeat (first | apply Kd.R_alloc | apply Kd.R_drewN | apply Kd.R_drew)); exact HO_9.out) hb)
            have n2_ := Aside0.mk (Kd.R_below (by (with_reducible repeat (first | apply Kd.R_alloc | apply Kd.R_drewN | apply Kd.R_drew)); exact HO_750000.out) hb)
            have n3_ := Aside0.mk (Kd.R_below (by (with_reducible repeat (first | apply Kd.R_alloc | apply Kd.R_drewN | apply Kd.R_drew)); exact HO_750001.out) hb)
            have n4_ := Aside0.mk (Kd.R_below (by (with_reducible repeat (first | apply Kd.R_alloc | apply Kd.R_drewN | apply Kd.R_drew)); exact HO757.out) hb)
            have n5_ := Aside0.mk (Kd.R_below (by (with_reducible repeat (first | apply Kd.R_alloc | apply Kd.R_drewN | apply Kd.R_drew)); exact HO760.out) hb)
            have n6_ := Aside0.mk (blk_below (g := gb731) (o := .cells #[.slice A0_0 l0_0.length c0_0, .slice A0_1 l0_1.length c0_1] 31 (0, 0)) (by (with_reducible repeat (first | refine blk_drewN ?_ _ | refine blk_drew ?_ | refine blk_alloc ?_ _)); exact BK731.out) hb)
            have n7_ := Aside0.mk (blk_below (g := gb749) (o := .cells #[.slice Ao24 t743.length co24, .slice Ao27 t746.length co27] 36 (0, 0)) (by (with_reducible repeat (first | refine blk_drewN ?_ _ | refine blk_drew ?_ | refine blk_alloc ?_ _)); exact BK749.out) hb)
            have n8_ := Aside0.mk (below_step (by repeat (first | (with_reducible first | exact HB.out | apply below_alloc | apply pw_below_drewN | apply below_drew1 | refine below_set ?_ GE731.out | refine below_set ?_ GE749.out) | exact HB.out)) hb)
            clear HO_6
            clear HO_9
            clear HO_750000
            clear HO_750001
            clear HO757
            clear HO760
            clear BK731
            clear BK749
            clear HB
            have HO_6 := n0_
            have HO_9 := n1_
            have HO_750000 := n2_
            have HO_750001 := n3_
            have HO757 := n4_
            have HO760 := n5_
            have BK731 := n6_
            have BK749 := n7_
            have HB := n8_
            clear n0_ n1_ n2_ n3_ n4_ n5_ n6_ n7_ n8_
            (try clear hb)
            (try clear hb2)
            (try clear hk)
            (try clear hi)
            refine hK.out _ _ ⟨(blk_cell BK749.out 0).trans rfl, (blk_cell BK749.out 1).trans rfl, (blk_cell BK731.out 0).trans rfl, (blk_cell BK731.out 1).trans rfl⟩ (fun hHeld => ?_)
            clear hK K
            refine norm_ (a' := ?_) ?_ ?_
            rotate_left
            · show Act.put _ (some 48) _ = _
              simp only [Act.put, List.setIfInBounds_toArray, List.set_cons_zero, List.set_cons_succ, i64_w, i32_w]
              rfl
            refine pure_ (i := 4) (N := some 49) (v := ?_) (a' := ?_) #[true, true, true, true, true] rfl rfl (by kernel_rfl) (fun _ _ _ h => h) (Or.inl ⟨by rfl, ?_⟩) ?_ ?_
            rotate_left
            · intro w'
              go_simp
              with_reducible rfl
            rotate_left
            · simp only [Act.put, List.setIfInBounds_toArray, List.set_cons_zero, List.set_cons_succ, i64_w, i32_w]
              rfl
            refine done_ (by kernel_rfl) ?_
            have hnb46 := NB749_731.out
            have hnc46 := NB731_749.out
            have hcz47_0 : w45.cell? ⟨gb749, 0, none⟩ = some (.slice Ao24 t743.length co24) := (blk_cell BK749.out 0).trans rfl
            have hcz47_1 : w45.cell? ⟨gb749, 1, none⟩ = some (.slice Ao27 t746.length co27) := (blk_cell BK749.out 1).trans rfl
            have hfz47_0 := blk_frozen BK749.out 0
            have hfz47_1 := blk_frozen BK749.out 1
            go_upto_region 14 with (first | ((with_reducible refine gate_callee (f := 35) rfl ?_); refine goesL_ (some 52) rfl rfl Try.func35 (by kernel_rfl) rfl #[.agg #[.slice Ao24 t743.length co24, .slice Ao27 t746.length co27], .int .i64 1] rfl (by (try simp only [List.map_toArray, List.map_cons, List.map_nil]); first | done | rfl | (simp only [List.length_drop, List.length_take]; rfl)) ?_; (with_reducible refine (laws_markFlow.calls kj11 (fun k_ => some k_ = (.slice Ao24 t743.length co24 : Value).ownBlock) (.slice Ao24 t743.length co24) t743 (fun k_ => some k_ = (.slice Ao27 t746.length co27 : Value).ownBlock) (.slice Ao27 t746.length co27) t746 1 t762 t763 t764 w _ ?side1 ?side2 ?side3 A39.out).mono ?_); (case side1 => repeat (first | (with_reducible first | exact HB.out | apply below_alloc | apply pw_below_drewN | apply below_drew1 | refine below_set ?_ GE731.out | refine below_set ?_ GE749.out) | exact HB.out)); (case side2 => exact Kd.R_tight rfl HO_750000.out); (case side3 => exact Kd.R_tight rfl HO_750001.out); rintro e w48 ⟨rfl, hy0, hy1, hb, hkp⟩; refine ⟨_, rfl, ?_⟩; have n0_ := Aside0.mk (Kd.R_mono (ok' := fun k_ => some k_ ≠ (v751 : Value).ownBlock ∧ some k_ ≠ (.slice Ao24 t743.length co24 : Value).ownBlock ∧ some k_ ≠ (.slice Ao43 t755.length co43 : Value).ownBlock) (Kd.R_keptB ((Kd.R_apart' HO_6.out (Kd.R_typed HO_750001.out) (by decide))) hkp (fun k_ hk_ hs_ => Or.elim hs_ (fun e_ => (hk_.1.1.2) e_) (fun e_ => (hk_.2) e_))) (fun k_ hk_ => ⟨hk_.1.1.1.1, hk_.1.1.1.2, hk_.1.1.2⟩)); have n1_ := Aside0.mk (Kd.R_mono (ok' := fun k_ => some k_ ≠ (v740 : Value).ownBlock ∧ some k_ ≠ (.slice Ao24 t743.length co24 : Value).ownBlock ∧ some k_ ≠ (.slice Ao43 t755.length co43 : Value).ownBlock) (Kd.R_keptB ((Kd.R_apart' HO_9.out (Kd.R_typed HO_750001.out) (by decide))) hkp (fun k_ hk_ hs_ => Or.elim hs_ (fun e_ => (hk_.1.1.2) e_) (fun e_ => (hk_.2) e_))) (fun k_ hk_ => ⟨hk_.1.1.1.1, hk_.1.1.1.2, hk_.1.1.2⟩)); have n2_ := Aside0.mk (Kd.R_reok rfl hy0 (fun k_ e_ => HO_750000.out.1 k_ e_)); have n3_ := Aside0.mk (Kd.R_reok rfl hy1 (fun k_ e_ => HO_750001.out.1 k_ e_)); have n4_ := Aside0.mk (blk_kept (by (with_reducible repeat (first | refine blk_drewN ?_ _ | refine blk_drew ?_ | refine blk_alloc ?_ _)); exact BK731.out) hkp (fun hs_ => Or.elim hs_ (fun e_ => (fun e_ => (Kd.R_ne HO_750000.out BK731.out (by decide)) e_) e_) (fun e_ => (fun e_ => (Kd.R_ne HO_750001.out BK731.out (by decide)) e_) e_))); have n5_ := Aside0.mk (blk_kept (by (with_reducible repeat (first | refine blk_drewN ?_ _ | refine blk_drew ?_ | refine blk_alloc ?_ _)); exact BK749.out) hkp (fun hs_ => Or.elim hs_ (fun e_ => (fun e_ => (Kd.R_ne HO_750000.out BK749.out (by decide)) e_) e_) (fun e_ => (fun e_ => (Kd.R_ne HO_750001.out BK749.out (by decide)) e_) e_))); have n6_ := Aside0.mk (Kd.R_mono (ok' := fun k_ => some k_ ≠ (v740 : Value).ownBlock ∧ some k_ ≠ (v751 : Value).ownBlock ∧ some k_ ≠ (.slice Ao24 t743.length co24 : Value).ownBlock) (Kd.R_keptB ((Kd.R_apart' HO757.out (Kd.R_typed HO_750001.out) (by decide))) hkp (fun k_ hk_ hs_ => Or.elim hs_ (fun e_ => (hk_.1.2) e_) (fun e_ => (hk_.2) e_))) (fun k_ hk_ => ⟨hk_.1.1.1.1.2, hk_.1.1.1.2, hk_.1.1.2⟩)); have n7_ := Aside0.mk (Kd.R_mono (ok' := fun k_ => some k_ ≠ (.slice Ao27 t746.length co27 : Value).ownBlock) (Kd.R_keptB ((Kd.R_apart' HO760.out (Kd.R_typed HO_750000.out) (by decide))) hkp (fun k_ hk_ hs_ => Or.elim hs_ (fun e_ => (hk_.2) e_) (fun e_ => (hk_.1.2) e_))) (fun k_ hk_ => hk_.1.1.2)); have n8_ := Aside0.mk (hb); clear HO_6; clear HO_9; clear HO_750000; clear HO_750001; clear BK731; clear BK749; clear HO757; clear HO760; clear HB; have HO_6 := n0_; have HO_9 := n1_; have HO_750000 := n2_; have HO_750001 := n3_; have BK731 := n4_; have BK749 := n5_; have HO757 := n6_; have HO760 := n7_; have HB := n8_; clear n0_ n1_ n2_ n3_ n4_ n5_ n6_ n7_ n8_; (try clear hb); (try clear hkp); (try clear hy0); (try clear hy1)))
            (try simp only [Act.put, List.setIfInBounds_toArray, List.set_cons_zero, List.set_cons_succ])
            go_cut [65] (fun v65 wc => ∃ (kq : Nat) (x65_39 : Bool), v65 = .bool x65_39 ∧ Aside0 (laws_FnExactMovesFor.j1 kq a1 t739 t742 t750 x65_39 l0_0 l0_1 = some r) ∧ Aside0 (kq ≤ kj11) ∧ Aside0 (Kd.R (Kd.int .i64) 2 wc w.heap.size (fun k_ => some k_ ≠ (v751 : Value).ownBlock ∧ some k_ ≠ ((.slice Ao24 t743.length co24) : Value).ownBlock) v740 t739) ∧ Aside0 (Kd.R (Kd.int .i64) 2 wc w.heap.size (fun k_ => some k_ ≠ (v740 : Value).ownBlock ∧ some k_ ≠ ((.slice Ao24 t743.length co24) : Value).ownBlock) v751 t750) ∧ Aside0 (Kd.R (Kd.int .i64) 2 wc w.heap.size (fun k_ => some k_ ≠ (v740 : Value).ownBlock ∧ some k_ ≠ (v751 : Value).ownBlock) (.slice Ao24 t743.length co24) t763) ∧ Aside0 (Kd.R k55 55 wc w.heap.size (fun _ => True) (.slice Ao27 t746.length co27) t764) ∧ Aside0 (wc.heap[gb731]? = some (.cells #[(.slice A0_0 l0_0.length c0_0), (.slice A0_1 l0_1.length c0_1)] 31 (0, 0))) ∧ Aside0 (wc.heap[gb749]? = some (.cells #[(.slice Ao24 t743.length co24), (.slice Ao27 t746.length co27)] 36 (0, 0))) ∧ Aside0 (Below w.heap.size w wc))
            case first =>
              have H := HC40.out
              clear HC40
              by_cases c49 : t762 < 0
              · rw [if_pos c49] at H
                have c49b0 : decide (t762 < 0) = true := decide_eq_true c49
                clear c49
                (first | rw [c49b0] | (simp only [i64_w, i32_w]; rw [c49b0]) | skip)
                have H' := Aside0.mk H
                clear H
                go_wp2
                go_meet
                case rel => exact ⟨_, (true), (by first | rfl | (simp; done) | (simp [*]; done)), H', ⟨by have := HJ11.out; first | omega | exact Nat.le_refl _⟩, ⟨by (with_reducible repeat (first | apply Kd.R_alloc | apply Kd.R_drewN | apply Kd.R_drew)); exact Kd.R_mono HO_6.out (fun _ hk => ⟨hk.1, hk.2.1⟩)⟩, ⟨by (with_reducible repeat (first | apply Kd.R_alloc | apply Kd.R_drewN | apply Kd.R_drew)); exact Kd.R_mono HO_9.out (fun _ hk => ⟨hk.1, hk.2.1⟩)⟩, ⟨by (with_reducible repeat (first | apply Kd.R_alloc | apply Kd.R_drewN | apply Kd.R_drew)); exact Kd.R_mono HO_750000.out (fun _ hk => ⟨hk.1.1, hk.1.2⟩)⟩, ⟨by (with_reducible repeat (first | apply Kd.R_alloc | apply Kd.R_drewN | apply Kd.R_drew)); exact Kd.R_mono HO_750001.out (fun _ hk => trivial)⟩, ⟨by (with_reducible repeat (first | refine blk_drewN ?_ _ | refine blk_drew ?_ | refine blk_alloc ?_ _)); exact BK731.out⟩, ⟨by (with_reducible repeat (first | refine blk_drewN ?_ _ | refine blk_drew ?_ | refine blk_alloc ?_ _)); exact BK749.out⟩, ⟨by repeat (first | (with_reducible first | exact HB.out | apply below_alloc | apply pw_below_drewN | apply below_drew1 | refine below_set ?_ GE731.out | refine below_set ?_ GE749.out) | exact HB.out)⟩⟩
              · rw [if_neg c49] at H
                have c49b0 : decide (t762 < 0) = false := decide_eq_false c49
                clear c49
                (first | rw [c49b0] | (simp only [i64_w, i32_w]; rw [c49b0]) | skip)
                replace H := Option.bind_eq_some_iff.mp H
                obtain ⟨t765, A500, H⟩ := H
                replace H : (if t765 = true then (laws_FnExactMovesFor.j1 kj11 a1 t739 t742 t750 (t753 != t742) l0_0 l0_1) else (laws_FnExactMovesFor.j1 kj11 a1 t739 t742 t750 true l0_0 l0_1)) = some r := H
                have A50 := Aside0.mk A500
                clear A500
                by_cases c51 : t765 = true
                · subst c51
                  have H1 : (laws_FnExactMovesFor.j1 kj11 a1 t739 t742 t750 (t753 != t742) l0_0 l0_1) = some r := by rw [if_pos rfl] at H; exact H
                  clear H
                  have H := H1
                  clear H1
                  have H' := Aside0.mk H
                  clear H
                  obtain ⟨Ao52, co52, eo52⟩ := Kd.R_slice HO_9.out
                  subst eo52
                  obtain ⟨Ao53, co53, eo53⟩ := Kd.R_slice HO_6.out
                  subst eo53
                  go_wp2_with (first | (go_at_call 17; (with_reducible refine (laws_eqInt64S.calls kj11 _ _ t750 _ _ t739 true _ ?side1 ?side2 ?side3 ?side4 A50.out).mono ?_); (case side1 => repeat (first | exact (Kd.R_reads' HO_9.out).2.2 | (with_reducible refine Kd.C_alloc ?_ _) | (with_reducible refine Kd.C_drewN ?_ _) | (with_reducible refine Kd.C_drew ?_))); (case side2 => first | exact trivial | (exact (Kd.R_reads' HO_9.out).2.1)); (case side3 => repeat (first | exact (Kd.R_reads' HO_6.out).2.2 | (with_reducible refine Kd.C_alloc ?_ _) | (with_reducible refine Kd.C_drewN ?_ _) | (with_reducible refine Kd.C_drew ?_))); (case side4 => first | exact trivial | (exact (Kd.R_reads' HO_6.out).2.1)); rintro e w' ⟨rfl, ⟨nd, rfl⟩⟩))
                  go_meet
                  case rel => exact ⟨_, ((t753 != t742)), (by first | rfl | (simp; done) | (simp [*]; done)), H', ⟨by have := HJ11.out; first | omega | exact Nat.le_refl _⟩, ⟨by (with_reducible repeat (first | apply Kd.R_alloc | apply Kd.R_drewN | apply Kd.R_drew)); exact Kd.R_mono HO_6.out (fun _ hk => ⟨hk.1, hk.2.1⟩)⟩, ⟨by (with_reducible repeat (first | apply Kd.R_alloc | apply Kd.R_drewN | apply Kd.R_drew)); exact Kd.R_mono HO_9.out (fun _ hk => ⟨hk.1, hk.2.1⟩)⟩, ⟨by (with_reducible repeat (first | apply Kd.R_alloc | apply Kd.R_drewN | apply Kd.R_drew)); exact Kd.R_mono HO_750000.out (fun _ hk => ⟨hk.1.1, hk.1.2⟩)⟩, ⟨by (with_reducible repeat (first | apply Kd.R_alloc | apply Kd.R_drewN | apply Kd.R_drew)); exact Kd.R_mono HO_750001.out (fun _ hk => trivial)⟩, ⟨by (with_reducible repeat (first | refine blk_drewN ?_ _ | refine blk_drew ?_ | refine blk_alloc ?_ _)); exact BK731.out⟩, ⟨by (with_reducible repeat (first | refine blk_drewN ?_ _ | refine blk_drew ?_ | refine blk_alloc ?_ _)); exact BK749.out⟩, ⟨by repeat (first | (with_reducible first | exact HB.out | apply below_alloc | apply pw_below_drewN | apply below_drew1 | refine below_set ?_ GE731.out | refine below_set ?_ GE749.out) | exact HB.out)⟩⟩
                · replace c51 := Bool.eq_false_iff.mpr c51
                  subst c51
                  have H1 : (laws_FnExactMovesFor.j1 kj11 a1 t739 t742 t750 true l0_0 l0_1) = some r := by rw [if_neg (show ¬ (false = true) by decide)] at H; exact H
                  clear H
                  have H := H1
                  clear H1
                  have H' := Aside0.mk H
                  clear H
                  obtain ⟨Ao54, co54, eo54⟩ := Kd.R_slice HO_9.out
                  subst eo54
                  obtain ⟨Ao55, co55, eo55⟩ := Kd.R_slice HO_6.out
                  subst eo55
                  go_wp2_with (first | (go_at_call 17; (with_reducible refine (laws_eqInt64S.calls kj11 _ _ t750 _ _ t739 false _ ?side1 ?side2 ?side3 ?side4 A50.out).mono ?_); (case side1 => repeat (first | exact (Kd.R_reads' HO_9.out).2.2 | (with_reducible refine Kd.C_alloc ?_ _) | (with_reducible refine Kd.C_drewN ?_ _) | (with_reducible refine Kd.C_drew ?_))); (case side2 => first | exact trivial | (exact (Kd.R_reads' HO_9.out).2.1)); (case side3 => repeat (first | exact (Kd.R_reads' HO_6.out).2.2 | (with_reducible refine Kd.C_alloc ?_ _) | (with_reducible refine Kd.C_drewN ?_ _) | (with_reducible refine Kd.C_drew ?_))); (case side4 => first | exact trivial | (exact (Kd.R_reads' HO_6.out).2.1)); rintro e w' ⟨rfl, ⟨nd, rfl⟩⟩))
                  go_meet
                  case rel => exact ⟨_, (true), (by first | rfl | (simp; done) | (simp [*]; done)), H', ⟨by have := HJ11.out; first | omega | exact Nat.le_refl _⟩, ⟨by (with_reducible repeat (first | apply Kd.R_alloc | apply Kd.R_drewN | apply Kd.R_drew)); exact Kd.R_mono HO_6.out (fun _ hk => ⟨hk.1, hk.2.1⟩)⟩, ⟨by (with_reducible repeat (first | apply Kd.R_alloc | apply Kd.R_drewN | apply Kd.R_drew)); exact Kd.R_mono HO_9.out (fun _ hk => ⟨hk.1, hk.2.1⟩)⟩, ⟨by (with_reducible repeat (first | apply Kd.R_alloc | apply Kd.R_drewN | apply Kd.R_drew)); exact Kd.R_mono HO_750000.out (fun _ hk => ⟨hk.1.1, hk.1.2⟩)⟩, ⟨by (with_reducible repeat (first | apply Kd.R_alloc | apply Kd.R_drewN | apply Kd.R_drew)); exact Kd.R_mono HO_750001.out (fun _ hk => trivial)⟩, ⟨by (with_reducible repeat (first | refine blk_drewN ?_ _ | refine blk_drew ?_ | refine blk_alloc ?_ _)); exact BK731.out⟩, ⟨by (with_reducible repeat (first | refine blk_drewN ?_ _ | refine blk_drew ?_ | refine blk_alloc ?_ _)); exact BK749.out⟩, ⟨by repeat (first | (with_reducible first | exact HB.out | apply below_alloc | apply pw_below_drewN | apply below_drew1 | refine below_set ?_ GE731.out | refine below_set ?_ GE749.out) | exact HB.out)⟩⟩
            case rest =>
              clear HC40
              try clear c1
              try clear c2
              try clear p2
              try clear c3
              try clear c4
              try clear c4b0
              try clear c5
              try clear c12
              try clear c17
              try clear c20
              try clear c22
              try clear c24
              try clear c25
              try clear c30
              try clear c35
              try clear c38
              try clear c41
              try clear c42
              try clear c46
              try clear c49
              try clear c49b0
              try clear c51
              try clear hcz14_0
              try clear hcz14_1
              try clear hcz16_0
              try clear hcz16_1
              try clear hcz21_0
              try clear hcz21_1
              try clear hcz26_0
              try clear hcz26_1
              try clear hcz47_0
              try clear hcz47_1
              try clear hcz6_0
              try clear hcz6_1
              try clear hfz14_0
              try clear hfz14_1
              try clear hfz16_0
              try clear hfz16_1
              try clear hfz21_0
              try clear hfz21_1
              try clear hfz26_0
              try clear hfz26_1
              try clear hfz47_0
              try clear hfz47_1
              try clear hfz6_0
              try clear hfz6_1
              try clear p2
              obtain ⟨kq, x65_39, rfl, HA, HJ39, HO_6, HO_9, HO_750000, HO_750001, BK731, BK749, HB⟩ := hcut
              have hl750000_39 := (Kd.R_reads' HO_750000.out).1
              rw [hl750000_39] at HO_750000
              (try simp only [hl750000_39])
              (try simp only [hl750000_39] at BK731)
              (try simp only [hl750000_39] at BK749)
              (try simp only [hl750000_39] at HO_6)
              (try simp only [hl750000_39] at HO_9)
              (try simp only [hl750000_39] at HO_750001)
              have hl750001_39 := (Kd.R_reads' HO_750001.out).1
              rw [hl750001_39] at HO_750001
              (try simp only [hl750001_39])
              (try simp only [hl750001_39] at BK731)
              (try simp only [hl750001_39] at BK749)
              (try simp only [hl750001_39] at HO_6)
              (try simp only [hl750001_39] at HO_9)
              (try simp only [hl750001_39] at HO_750000)
              cases kq with
              | zero => exact absurd HA.out (by simp [laws_FnExactMovesFor.j1])
              | succ kj39 =>
                have H := HA.out
                clear HA
                simp only [laws_FnExactMovesFor.j1] at H
                by_cases c56 : x65_39 = true
                · subst c56
                  have H1 : (some false) = some r := by rw [if_pos rfl] at H; exact H
                  clear H
                  have H := H1
                  clear H1
                  obtain rfl := Option.some.inj H
                  go_wp2
                  go_ret
                  exact ⟨by first | rfl | (simp [errW_none, errW_some] <;> rfl) | (simp [*, errW_none, errW_some] <;> rfl), by repeat (first | (with_reducible first | exact HB.out | apply below_alloc | apply pw_below_drewN | apply below_drew1 | refine below_set ?_ GE731.out | refine below_set ?_ GE749.out) | exact HB.out)⟩
                · replace c56 := Bool.eq_false_iff.mpr c56
                  subst c56
                  have H1 : ((laws_markInt64S.f kj39 t750 1).bind fun bt766 => ((laws_heldInt64S.f kj39 bt766.2 1).bind fun t768 => (if t768 < 0 then (some false) else (if t768 = bt766.1 then ((laws_toFlow.f kj39 l0_0 l0_1).bind fun bt769 => ((impl_MovesFor.f kj39 bt769.1 bt769.2 a1).bind fun bt775 => ((laws_eqInt64S.f kj39 bt775.1 t739).bind fun t779 => (if t779 = true then (laws_FnExactMovesFor.j2 kj39 bt766.2 bt766.1 (bt775.2 != t742)) else (laws_FnExactMovesFor.j2 kj39 bt766.2 bt766.1 true))))) else (some false))))) = some r := by rw [if_neg (show ¬ (false = true) by decide)] at H; exact H
                  clear H
                  have H := H1
                  clear H1
                  replace H := Option.bind_eq_some_iff.mp H
                  obtain ⟨⟨t766, t767⟩, A570, H⟩ := H
                  replace H : ((laws_heldInt64S.f kj39 t767 1).bind fun t768 => (if t768 < 0 then (some false) else (if t768 = t766 then ((laws_toFlow.f kj39 l0_0 l0_1).bind fun bt769 => ((impl_MovesFor.f kj39 bt769.1 bt769.2 a1).bind fun bt775 => ((laws_eqInt64S.f kj39 bt775.1 t739).bind fun t779 => (if t779 = true then (laws_FnExactMovesFor.j2 kj39 t767 t766 (bt775.2 != t742)) else (laws_FnExactMovesFor.j2 kj39 t767 t766 true))))) else (some false)))) = some r := H
                  have A57 := Aside0.mk A570
                  clear A570
                  replace H := Option.bind_eq_some_iff.mp H
                  obtain ⟨t768, A580, H⟩ := H
                  replace H : (if t768 < 0 then (some false) else (if t768 = t766 then ((laws_toFlow.f kj39 l0_0 l0_1).bind fun bt769 => ((impl_MovesFor.f kj39 bt769.1 bt769.2 a1).bind fun bt775 => ((laws_eqInt64S.f kj39 bt775.1 t739).bind fun t779 => (if t779 = true then (laws_FnExactMovesFor.j2 kj39 t767 t766 (bt775.2 != t742)) else (laws_FnExactMovesFor.j2 kj39 t767 t766 true))))) else (some false))) = some r := H
                  have A58 := Aside0.mk A580
                  clear A580
                  by_cases c59 : t768 < 0
                  · rw [if_pos c59] at H
                    have c59b0 : decide (t768 < 0) = true := decide_eq_true c59
                    clear c59
                    obtain rfl := Option.some.inj H
                    obtain ⟨Ao60, co60, eo60⟩ := Kd.R_slice HO_9.out
                    subst eo60
                    go_wp2_with (first | ((with_reducible refine gate_callee (f := 18) rfl ?_); refine goesL_ (some 68) rfl rfl Try.func18 (by kernel_rfl) rfl #[.slice Ao60 t750.length co60, .int .i64 1] rfl (by (try simp only [List.map_toArray, List.map_cons, List.map_nil]); first | done | rfl | (simp only [List.length_drop, List.length_take]; rfl)) ?_; (with_reducible refine (laws_markInt64S.calls kj39 (fun k_ => some k_ = (.slice Ao60 t750.length co60 : Value).ownBlock) (.slice Ao60 t750.length co60) t750 1 t766 t767 w _ ?side1 ?side2 A57.out).mono ?_); (case side1 => repeat (first | (with_reducible first | exact HB.out | apply below_alloc | apply pw_below_drewN | apply below_drew1 | refine below_set ?_ GE731.out | refine below_set ?_ GE749.out) | exact HB.out)); (case side2 => exact Kd.R_tight rfl HO_9.out); rintro e w61 ⟨rfl, hy0, hb, hkp⟩; refine ⟨_, rfl, ?_⟩; have n0_ := Aside0.mk (Kd.R_mono (ok' := fun k_ => some k_ ≠ (.slice Ao60 t750.length co60 : Value).ownBlock ∧ some k_ ≠ (.slice Ao24 t763.length co24 : Value).ownBlock) (Kd.R_keptB (HO_6.out) hkp (fun k_ hk_ hs_ => (hk_.1) hs_)) (fun k_ hk_ => ⟨hk_.1.1, hk_.1.2⟩)); have n1_ := Aside0.mk (Kd.R_reok rfl hy0 (fun k_ e_ => HO_9.out.1 k_ e_)); have n2_ := Aside0.mk (Kd.R_mono (ok' := fun k_ => some k_ ≠ (v740 : Value).ownBlock ∧ some k_ ≠ (.slice Ao60 t750.length co60 : Value).ownBlock) (Kd.R_keptB (HO_750000.out) hkp (fun k_ hk_ hs_ => (hk_.2) hs_)) (fun k_ hk_ => ⟨hk_.1.1, hk_.1.2⟩)); have n3_ := Aside0.mk (Kd.R_mono (ok' := fun k_ => True) (Kd.R_keptB ((Kd.R_apart' HO_750001.out (Kd.R_typed HO_9.out) (by decide))) hkp (fun k_ hk_ hs_ => (hk_.2) hs_)) (fun k_ hk_ => trivial)); have n4_ := Aside0.mk (blk_kept (by (with_reducible repeat (first | refine blk_drewN ?_ _ | refine blk_drew ?_ | refine blk_alloc ?_ _)); exact BK731.out) hkp (fun hs_ => (fun e_ => (Kd.R_ne HO_9.out BK731.out (by decide)) e_) hs_)); have n5_ := Aside0.mk (blk_kept (by (with_reducible repeat (first | refine blk_drewN ?_ _ | refine blk_drew ?_ | refine blk_alloc ?_ _)); exact BK749.out) hkp (fun hs_ => (fun e_ => (Kd.R_ne HO_9.out BK749.out (by decide)) e_) hs_)); have n6_ := Aside0.mk (hb); clear HO_6; clear HO_9; clear HO_750000; clear HO_750001; clear BK731; clear BK749; clear HB; have HO_6 := n0_; have HO_9 := n1_; have HO_750000 := n2_; have HO_750001 := n3_; have BK731 := n4_; have BK749 := n5_; have HB := n6_; clear n0_ n1_ n2_ n3_ n4_ n5_ n6_; (try clear hb); (try clear hkp); (try clear hy0)) | ((with_reducible refine gate_callee (f := 19) rfl ?_); refine goesL_ (some 71) rfl rfl Try.func19 (by kernel_rfl) rfl #[.slice Ao60 t767.length co60, .int .i64 1] rfl (by (try simp only [List.map_toArray, List.map_cons, List.map_nil]); first | done | (rw [show t767.length = t750.length from (Kd.R_reads' HO_9.out).1.symm] <;> rfl) | rfl | (simp only [List.length_drop, List.length_take]; rfl)) ?_; (with_reducible refine (laws_heldInt64S.calls kj39 _ _ t767 1 t768 _ ?side1 ?side2 A58.out).mono ?_); (case side1 => repeat (first | exact (Kd.R_reads' HO_9.out).2.2 | (with_reducible refine Kd.C_alloc ?_ _) | (with_reducible refine Kd.C_drewN ?_ _) | (with_reducible refine Kd.C_drew ?_))); (case side2 => rw [show t767.length = t750.length from (Kd.R_reads' HO_9.out).1.symm]; first | exact trivial | (exact (Kd.R_reads' HO_9.out).2.1)); rintro e w' ⟨rfl, ⟨nd, rfl⟩⟩; refine ⟨_, rfl, ?_⟩))
                    go_ret
                    exact ⟨by first | rfl | (simp [errW_none, errW_some] <;> rfl) | (simp [*, errW_none, errW_some] <;> rfl), by repeat (first | (with_reducible first | exact HB.out | apply below_alloc | apply pw_below_drewN | apply below_drew1 | refine below_set ?_ GE731.out | refine below_set ?_ GE749.out) | exact HB.out)⟩
                  · rw [if_neg c59] at H
                    have c59b0 : decide (t768 < 0) = false := decide_eq_false c59
                    clear c59
                    by_cases c62 : t768 = t766
                    · rw [if_pos c62] at H
                      have c62b0 : (t768 == t766) = true := beq_iff_eq.mpr c62
                      have c62b1 : (t768 != t766) = false := bne_eq_false_iff_eq.mpr c62
                      clear c62
                      replace H := Option.bind_eq_some_iff.mp H
                      obtain ⟨⟨t769, t772⟩, A630, H⟩ := H
                      replace H : ((impl_MovesFor.f kj39 t769 t772 a1).bind fun bt775 => ((laws_eqInt64S.f kj39 bt775.1 t739).bind fun t779 => (if t779 = true then (laws_FnExactMovesFor.j2 kj39 t767 t766 (bt775.2 != t742)) else (laws_FnExactMovesFor.j2 kj39 t767 t766 true)))) = some r := H
                      have A63 := Aside0.mk A630
                      clear A630
                      replace H := Option.bind_eq_some_iff.mp H
                      obtain ⟨⟨t775, t778⟩, A640, H⟩ := H
                      replace H : ((laws_eqInt64S.f kj39 t775 t739).bind fun t779 => (if t779 = true then (laws_FnExactMovesFor.j2 kj39 t767 t766 (t778 != t742)) else (laws_FnExactMovesFor.j2 kj39 t767 t766 true))) = some r := H
                      have A64 := Aside0.mk A640
                      clear A640
                      have HC65 := Aside0.mk H
                      clear H
                      obtain ⟨Ao66, co66, eo66⟩ := Kd.R_slice HO_9.out
                      subst eo66
                      go_upto_region 25 with (first | ((with_reducible refine gate_callee (f := 18) rfl ?_); refine goesL_ (some 68) rfl rfl Try.func18 (by kernel_rfl) rfl #[.slice Ao66 t750.length co66, .int .i64 1] rfl (by (try simp only [List.map_toArray, List.map_cons, List.map_nil]); first | done | rfl | (simp only [List.length_drop, List.length_take]; rfl)) ?_; (with_reducible refine (laws_markInt64S.calls kj39 (fun k_ => some k_ = (.slice Ao66 t750.length co66 : Value).ownBlock) (.slice Ao66 t750.length co66) t750 1 t766 t767 w _ ?side1 ?side2 A57.out).mono ?_); (case side1 => repeat (first | (with_reducible first | exact HB.out | apply below_alloc | apply pw_below_drewN | apply below_drew1 | refine below_set ?_ GE731.out | refine below_set ?_ GE749.out) | exact HB.out)); (case side2 => exact Kd.R_tight rfl HO_9.out); rintro e w67 ⟨rfl, hy0, hb, hkp⟩; refine ⟨_, rfl, ?_⟩; have n0_ := Aside0.mk (Kd.R_mono (ok' := fun k_ => some k_ ≠ (.slice Ao66 t750.length co66 : Value).ownBlock ∧ some k_ ≠ (.slice Ao24 t763.length co24 : Value).ownBlock) (Kd.R_keptB (HO_6.out) hkp (fun k_ hk_ hs_ => (hk_.1) hs_)) (fun k_ hk_ => ⟨hk_.1.1, hk_.1.2⟩)); have n1_ := Aside0.mk (Kd.R_reok rfl hy0 (fun k_ e_ => HO_9.out.1 k_ e_)); have n2_ := Aside0.mk (Kd.R_mono (ok' := fun k_ => some k_ ≠ (v740 : Value).ownBlock ∧ some k_ ≠ (.slice Ao66 t750.length co66 : Value).ownBlock) (Kd.R_keptB (HO_750000.out) hkp (fun k_ hk_ hs_ => (hk_.2) hs_)) (fun k_ hk_ => ⟨hk_.1.1, hk_.1.2⟩)); have n3_ := Aside0.mk (Kd.R_mono (ok' := fun k_ => True) (Kd.R_keptB ((Kd.R_apart' HO_750001.out (Kd.R_typed HO_9.out) (by decide))) hkp (fun k_ hk_ hs_ => (hk_.2) hs_)) (fun k_ hk_ => trivial)); have n4_ := Aside0.mk (blk_kept (by (with_reducible repeat (first | refine blk_drewN ?_ _ | refine blk_drew ?_ | refine blk_alloc ?_ _)); exact BK731.out) hkp (fun hs_ => (fun e_ => (Kd.R_ne HO_9.out BK731.out (by decide)) e_) hs_)); have n5_ := Aside0.mk (blk_kept (by (with_reducible repeat (first | refine blk_drewN ?_ _ | refine blk_drew ?_ | refine blk_alloc ?_ _)); exact BK749.out) hkp (fun hs_ => (fun e_ => (Kd.R_ne HO_9.out BK749.out (by decide)) e_) hs_)); have n6_ := Aside0.mk (hb); clear HO_6; clear HO_9; clear HO_750000; clear HO_750001; clear BK731; clear BK749; clear HB; have HO_6 := n0_; have HO_9 := n1_; have HO_750000 := n2_; have HO_750001 := n3_; have BK731 := n4_; have BK749 := n5_; have HB := n6_; clear n0_ n1_ n2_ n3_ n4_ n5_ n6_; (try clear hb); (try clear hkp); (try clear hy0)) | ((with_reducible refine gate_callee (f := 19) rfl ?_); refine goesL_ (some 71) rfl rfl Try.func19 (by kernel_rfl) rfl #[.slice Ao66 t767.length co66, .int .i64 1] rfl (by (try simp only [List.map_toArray, List.map_cons, List.map_nil]); first | done | (rw [show t767.length = t750.length from (Kd.R_reads' HO_9.out).1.symm] <;> rfl) | rfl | (simp only [List.length_drop, List.length_take]; rfl)) ?_; (with_reducible refine (laws_heldInt64S.calls kj39 _ _ t767 1 t768 _ ?side1 ?side2 A58.out).mono ?_); (case side1 => repeat (first | exact (Kd.R_reads' HO_9.out).2.2 | (with_reducible refine Kd.C_alloc ?_ _) | (with_reducible refine Kd.C_drewN ?_ _) | (with_reducible refine Kd.C_drew ?_))); (case side2 => rw [show t767.length = t750.length from (Kd.R_reads' HO_9.out).1.symm]; first | exact trivial | (exact (Kd.R_reads' HO_9.out).2.1)); rintro e w' ⟨rfl, ⟨nd, rfl⟩⟩; refine ⟨_, rfl, ?_⟩; have hnb68 := NB731_749.out; have hnc68 := NB749_731.out; have hcz69_0 : w67.cell? ⟨gb731, 0, none⟩ = some (.slice A0_0 l0_0.length c0_0) := (blk_cell BK731.out 0).trans rfl; have hcz69_1 : w67.cell? ⟨gb731, 1, none⟩ = some (.slice A0_1 l0_1.length c0_1) := (blk_cell BK731.out 1).trans rfl; have hfz69_0 := blk_frozen BK731.out 0; have hfz69_1 := blk_frozen BK731.out 1) | ((with_reducible refine gate_callee (f := 22) rfl ?_); refine goesL_ (some 79) rfl rfl Try.func22 (by kernel_rfl) rfl #[.agg #[.slice A0_0 l0_0.length c0_0, .slice A0_1 l0_1.length c0_1]] rfl (by (try simp only [List.map_toArray, List.map_cons, List.map_nil]); first | done | rfl | (simp only [List.length_drop, List.length_take]; rfl)) ?_; (with_reducible refine (laws_toFlow.calls kj39 _ _ l0_0 _ _ l0_1 t769 t772 _ ?side1 ?side2 ?side3 ?side4 A63.out).mono ?_); (case side1 => repeat (first | exact (Kd.C_below HR0_0.out (by repeat (first | (with_reducible first | exact HB.out | apply below_alloc | apply pw_below_drewN | apply below_drew1 | refine below_set ?_ GE731.out | refine below_set ?_ GE749.out) | exact HB.out))) | (with_reducible refine Kd.C_alloc ?_ _) | (with_reducible refine Kd.C_drewN ?_ _) | (with_reducible refine Kd.C_drew ?_))); (case side2 => first | exact trivial | (exact HC0_0.out)); (case side3 => repeat (first | exact (Kd.C_below HR0_1.out (by repeat (first | (with_reducible first | exact HB.out | apply below_alloc | apply pw_below_drewN | apply below_drew1 | refine below_set ?_ GE731.out | refine below_set ?_ GE749.out) | exact HB.out))) | (with_reducible refine Kd.C_alloc ?_ _) | (with_reducible refine Kd.C_drewN ?_ _) | (with_reducible refine Kd.C_drew ?_))); (case side4 => first | exact trivial | (exact HC0_1.out)); rintro e w70 ⟨v770, v773, rfl, ho0, ho1, hb⟩; refine ⟨_, rfl, ?_⟩; have n0_ := Aside0.mk (Kd.R_elder' (by (with_reducible repeat (first | apply Kd.R_alloc | apply Kd.R_drewN | apply Kd.R_drew)); exact HO_6.out) (Kd.R_base ho0) hb); have n1_ := Aside0.mk (Kd.R_elder' (by (with_reducible repeat (first | apply Kd.R_alloc | apply Kd.R_drewN | apply Kd.R_drew)); exact HO_9.out) (Kd.R_base ho0) hb); have n2_ := Aside0.mk (Kd.R_elder' (by (with_reducible repeat (first | apply Kd.R_alloc | apply Kd.R_drewN | apply Kd.R_drew)); exact HO_750000.out) (Kd.R_base ho0) hb); have n3_ := Aside0.mk (Kd.R_elder' (by (with_reducible repeat (first | apply Kd.R_alloc | apply Kd.R_drewN | apply Kd.R_drew)); exact HO_750001.out) (Kd.R_base ho1) hb); have n4_ := Aside0.mk (Kd.R_lower (Kd.R_new' (Kd.R_new' (Kd.R_new' ho0 (Kd.R_lt (by (with_reducible repeat (first | apply Kd.R_alloc | apply Kd.R_drewN | apply Kd.R_drew)); exact HO_6.out))) (Kd.R_lt (by (with_reducible repeat (first | apply Kd.R_alloc | apply Kd.R_drewN | apply Kd.R_drew)); exact HO_9.out))) (Kd.R_lt (by (with_reducible repeat (first | apply Kd.R_alloc | apply Kd.R_drewN | apply Kd.R_drew)); exact HO_750000.out))) (below_size (by repeat (first | (with_reducible first | exact HB.out | apply below_alloc | apply pw_below_drewN | apply below_drew1 | refine below_set ?_ GE731.out | refine below_set ?_ GE749.out) | exact HB.out)))); have n5_ := Aside0.mk (Kd.R_lower (Kd.R_new' ho1 (Kd.R_lt (by (with_reducible repeat (first | apply Kd.R_alloc | apply Kd.R_drewN | apply Kd.R_drew)); exact HO_750001.out))) (below_size (by repeat (first | (with_reducible first | exact HB.out | apply below_alloc | apply pw_below_drewN | apply below_drew1 | refine below_set ?_ GE731.out | refine below_set ?_ GE749.out) | exact HB.out)))); have n6_ := Aside0.mk (blk_below (g := gb731) (o := .cells #[.slice A0_0 l0_0.length c0_0, .slice A0_1 l0_1.length c0_1] 31 (0, 0)) (by (with_reducible repeat (first | refine blk_drewN ?_ _ | refine blk_drew ?_ | refine blk_alloc ?_ _)); exact BK731.out) hb); have n7_ := Aside0.mk (blk_below (g := gb749) (o := .cells #[.slice Ao24 t763.length co24, .slice Ao27 t764.length co27] 36 (0, 0)) (by (with_reducible repeat (first | refine blk_drewN ?_ _ | refine blk_drew ?_ | refine blk_alloc ?_ _)); exact BK749.out) hb); have n8_ := Aside0.mk (below_step (by repeat (first | (with_reducible first | exact HB.out | apply below_alloc | apply pw_below_drewN | apply below_drew1 | refine below_set ?_ GE731.out | refine below_set ?_ GE749.out) | exact HB.out)) hb); clear HO_6; clear HO_9; clear HO_750000; clear HO_750001; clear BK731; clear BK749; clear HB; have HO_6 := n0_; have HO_9 := n1_; have HO_750000 := n2_; have HO_750001 := n3_; have HO771 := n4_; have HO774 := n5_; have BK731 := n6_; have BK749 := n7_; have HB := n8_; clear n0_ n1_ n2_ n3_ n4_ n5_ n6_ n7_ n8_; (try clear hb); (try clear hb2); (try clear hk); (try clear hi); (try clear ho0); (try clear ho1); obtain ⟨Ao71, co71, eo71⟩ := Kd.R_slice HO771.out; subst eo71; obtain ⟨Ao72, co72, eo72⟩ := Kd.R_slice HO774.out; subst eo72) | ((with_reducible refine gate_callee (f := 42) rfl ?_); refine goesL_ (some 81) rfl rfl Try.func42 (by kernel_rfl) rfl #[.agg #[.slice Ao71 t769.length co71, .slice Ao72 t772.length co72], .int .i64 a1] rfl (by (try simp only [List.map_toArray, List.map_cons, List.map_nil]); first | done | rfl | (simp only [List.length_drop, List.length_take]; rfl)) ?_; (with_reducible refine (impl_MovesFor.calls kj39 _ _ t769 _ _ t772 a1 t775 t778 _ ?side1 ?side2 ?side3 ?side4 A64.out).mono ?_); (case side1 => repeat (first | exact (Kd.R_reads' HO771.out).2.2 | (with_reducible refine Kd.C_alloc ?_ _) | (with_reducible refine Kd.C_drewN ?_ _) | (with_reducible refine Kd.C_drew ?_))); (case side2 => first | exact trivial | (exact (Kd.R_reads' HO771.out).2.1)); (case side3 => repeat (first | exact (Kd.R_reads' HO774.out).2.2 | (with_reducible refine Kd.C_alloc ?_ _) | (with_reducible refine Kd.C_drewN ?_ _) | (with_reducible refine Kd.C_drew ?_))); (case side4 => first | exact trivial | (exact (Kd.R_reads' HO774.out).2.1)); rintro e w73 ⟨v776, rfl, ho0, hb⟩; refine ⟨_, rfl, ?_⟩; have n0_ := Aside0.mk (Kd.R_elder' (by (with_reducible repeat (first | apply Kd.R_alloc | apply Kd.R_drewN | apply Kd.R_drew)); exact HO_6.out) (Kd.R_base ho0) hb); have n1_ := Aside0.mk (Kd.R_elder' (by (with_reducible repeat (first | apply Kd.R_alloc | apply Kd.R_drewN | apply Kd.R_drew)); exact HO_9.out) (Kd.R_base ho0) hb); have n2_ := Aside0.mk (Kd.R_elder' (by (with_reducible repeat (first | apply Kd.R_alloc | apply Kd.R_drewN | apply Kd.R_drew)); exact HO_750000.out) (Kd.R_base ho0) hb); have n3_ := Aside0.mk (Kd.R_below (by (with_reducible repeat (first | apply Kd.R_alloc | apply Kd.R_drewN | apply Kd.R_drew)); exact HO_750001.out) hb); have n4_ := Aside0.mk (Kd.R_elder' (by (with_reducible repeat (first | apply Kd.R_alloc | apply Kd.R_drewN | apply Kd.R_drew)); exact HO771.out) (Kd.R_base ho0) hb); have n5_ := Aside0.mk (Kd.R_below (by (with_reducible repeat (first | apply Kd.R_alloc | apply Kd.R_drewN | apply Kd.R_drew)); exact HO774.out) hb); have n6_ := Aside0.mk (Kd.R_lower (Kd.R_new' (Kd.R_new' (Kd.R_new' (Kd.R_new' ho0 (Kd.R_lt (by (with_reducible repeat (first | apply Kd.R_alloc | apply Kd.R_drewN | apply Kd.R_drew)); exact HO_6.out))) (Kd.R_lt (by (with_reducible repeat (first | apply Kd.R_alloc | apply Kd.R_drewN | apply Kd.R_drew)); exact HO_9.out))) (Kd.R_lt (by (with_reducible repeat (first | apply Kd.R_alloc | apply Kd.R_drewN | apply Kd.R_drew)); exact HO_750000.out))) (Kd.R_lt (by (with_reducible repeat (first | apply Kd.R_alloc | apply Kd.R_drewN | apply Kd.R_drew)); exact HO771.out))) (below_size (by repeat (first | (with_reducible first | exact HB.out | apply below_alloc | apply pw_below_drewN | apply below_drew1 | refine below_set ?_ GE731.out | refine below_set ?_ GE749.out) | exact HB.out)))); have n7_ := Aside0.mk (blk_below (g := gb731) (o := .cells #[.slice A0_0 l0_0.length c0_0, .slice A0_1 l0_1.length c0_1] 31 (0, 0)) (by (with_reducible repeat (first | refine blk_drewN ?_ _ | refine blk_drew ?_ | refine blk_alloc ?_ _)); exact BK731.out) hb); have n8_ := Aside0.mk (blk_below (g := gb749) (o := .cells #[.slice Ao24 t763.length co24, .slice Ao27 t764.length co27] 36 (0, 0)) (by (with_reducible repeat (first | refine blk_drewN ?_ _ | refine blk_drew ?_ | refine blk_alloc ?_ _)); exact BK749.out) hb); have n9_ := Aside0.mk (below_step (by repeat (first | (with_reducible first | exact HB.out | apply below_alloc | apply pw_below_drewN | apply below_drew1 | refine below_set ?_ GE731.out | refine below_set ?_ GE749.out) | exact HB.out)) hb); clear HO_6; clear HO_9; clear HO_750000; clear HO_750001; clear HO771; clear HO774; clear BK731; clear BK749; clear HB; have HO_6 := n0_; have HO_9 := n1_; have HO_750000 := n2_; have HO_750001 := n3_; have HO771 := n4_; have HO774 := n5_; have HO777 := n6_; have BK731 := n7_; have BK749 := n8_; have HB := n9_; clear n0_ n1_ n2_ n3_ n4_ n5_ n6_ n7_ n8_ n9_; (try clear hb); (try clear hb2); (try clear hk); (try clear hi); (try clear ho0)))
                      (try simp only [Act.put, List.setIfInBounds_toArray, List.set_cons_zero, List.set_cons_succ])
                      go_cut [92] (fun v92 wc => ∃ (kq : Nat) (x92_64 : Bool), v92 = .bool x92_64 ∧ Aside0 (laws_FnExactMovesFor.j2 kq t767 t766 x92_64 = some r) ∧ Aside0 (kq ≤ kj39) ∧ Aside0 (Kd.R (Kd.int .i64) 2 wc w.heap.size (fun k_ => some k_ ≠ ((.slice Ao24 t763.length co24) : Value).ownBlock) (.slice Ao66 t750.length co66) t767) ∧ Aside0 (Kd.R (Kd.int .i64) 2 wc w.heap.size (fun k_ => some k_ ≠ ((.slice Ao66 t750.length co66) : Value).ownBlock) (.slice Ao24 t763.length co24) t763) ∧ Aside0 (Kd.R k55 55 wc w.heap.size (fun _ => True) (.slice Ao27 t764.length co27) t764) ∧ Aside0 (wc.heap[gb731]? = some (.cells #[(.slice A0_0 l0_0.length c0_0), (.slice A0_1 l0_1.length c0_1)] 31 (0, 0))) ∧ Aside0 (wc.heap[gb749]? = some (.cells #[(.slice Ao24 t763.length co24), (.slice Ao27 t764.length co27)] 36 (0, 0))) ∧ Aside0 (Below w.heap.size w wc))
                      case first =>
                        have H := HC65.out
                        clear HC65
                        replace H := Option.bind_eq_some_iff.mp H
                        obtain ⟨t779, A740, H⟩ := H
                        replace H : (if t779 = true then (laws_FnExactMovesFor.j2 kj39 t767 t766 (t778 != t742)) else (laws_FnExactMovesFor.j2 kj39 t767 t766 true)) = some r := H
                        have A74 := Aside0.mk A740
                        clear A740
                        by_cases c75 : t779 = true
                        · subst c75
                          have H1 : (laws_FnExactMovesFor.j2 kj39 t767 t766 (t778 != t742)) = some r := by rw [if_pos rfl] at H; exact H
                          clear H
                          have H := H1
                          clear H1
                          have H' := Aside0.mk H
                          clear H
                          obtain ⟨Ao76, co76, eo76⟩ := Kd.R_slice HO777.out
                          subst eo76
                          obtain ⟨Ao77, co77, eo77⟩ := Kd.R_slice HO_6.out
                          subst eo77
                          go_wp2_with (first | ((with_reducible refine gate_callee (f := 17) rfl ?_); refine goesL_ (some 86) rfl rfl Try.func17 (by kernel_rfl) rfl #[.slice Ao76 t775.length co76, .slice Ao77 t739.length co77] rfl (by (try simp only [List.map_toArray, List.map_cons, List.map_nil]); first | done | rfl | (simp only [List.length_drop, List.length_take]; rfl)) ?_; (with_reducible refine (laws_eqInt64S.calls kj39 _ _ t775 _ _ t739 true _ ?side1 ?side2 ?side3 ?side4 A74.out).mono ?_); (case side1 => repeat (first | exact (Kd.R_reads' HO777.out).2.2 | (with_reducible refine Kd.C_alloc ?_ _) | (with_reducible refine Kd.C_drewN ?_ _) | (with_reducible refine Kd.C_drew ?_))); (case side2 => first | exact trivial | (exact (Kd.R_reads' HO777.out).2.1)); (case side3 => repeat (first | exact (Kd.R_reads' HO_6.out).2.2 | (with_reducible refine Kd.C_alloc ?_ _) | (with_reducible refine Kd.C_drewN ?_ _) | (with_reducible refine Kd.C_drew ?_))); (case side4 => first | exact trivial | (exact (Kd.R_reads' HO_6.out).2.1)); rintro e w' ⟨rfl, ⟨nd, rfl⟩⟩; refine ⟨_, rfl, ?_⟩))
                          go_meet
                          case rel => exact ⟨_, ((t778 != t742)), (by first | rfl | (simp; done) | (simp [*]; done)), H', ⟨by have := HJ11.out; have := HJ39.out; first | omega | exact Nat.le_refl _⟩, ⟨by (try simp only [hl750000_39]); (try simp only [hl750001_39]); (with_reducible repeat (first | apply Kd.R_alloc | apply Kd.R_drewN | apply Kd.R_drew)); exact Kd.R_mono HO_9.out (fun _ hk => hk.1.1.2)⟩, ⟨by (try simp only [hl750000_39]); (try simp only [hl750001_39]); (with_reducible repeat (first | apply Kd.R_alloc | apply Kd.R_drewN | apply Kd.R_drew)); exact Kd.R_mono HO_750000.out (fun _ hk => hk.1.1.2)⟩, ⟨by (try simp only [hl750000_39]); (try simp only [hl750001_39]); (with_reducible repeat (first | apply Kd.R_alloc | apply Kd.R_drewN | apply Kd.R_drew)); exact Kd.R_mono HO_750001.out (fun _ hk => trivial)⟩, ⟨by (try simp only [hl750000_39]); (try simp only [hl750001_39]); (with_reducible repeat (first | refine blk_drewN ?_ _ | refine blk_drew ?_ | refine blk_alloc ?_ _)); exact BK731.out⟩, ⟨by (try simp only [hl750000_39]); (try simp only [hl750001_39]); (with_reducible repeat (first | refine blk_drewN ?_ _ | refine blk_drew ?_ | refine blk_alloc ?_ _)); exact BK749.out⟩, ⟨by repeat (first | (with_reducible first | exact HB.out | apply below_alloc | apply pw_below_drewN | apply below_drew1 | refine below_set ?_ GE731.out | refine below_set ?_ GE749.out) | exact HB.out)⟩⟩
                        · replace c75 := Bool.eq_false_iff.mpr c75
                          subst c75
                          have H1 : (laws_FnExactMovesFor.j2 kj39 t767 t766 true) = some r := by rw [if_neg (show ¬ (false = true) by decide)] at H; exact H
                          clear H
                          have H := H1
                          clear H1
                          have H' := Aside0.mk H
                          clear H
                          obtain ⟨Ao78, co78, eo78⟩ := Kd.R_slice HO777.out
                          subst eo78
                          obtain ⟨Ao79, co79, eo79⟩ := Kd.R_slice HO_6.out
                          subst eo79
                          go_wp2_with (first | ((with_reducible refine gate_callee (f := 17) rfl ?_); refine goesL_ (some 86) rfl rfl Try.func17 (by kernel_rfl) rfl #[.slice Ao78 t775.length co78, .slice Ao79 t739.length co79] rfl (by (try simp only [List.map_toArray, List.map_cons, List.map_nil]); first | done | rfl | (simp only [List.length_drop, List.length_take]; rfl)) ?_; (with_reducible refine (laws_eqInt64S.calls kj39 _ _ t775 _ _ t739 false _ ?side1 ?side2 ?side3 ?side4 A74.out).mono ?_); (case side1 => repeat (first | exact (Kd.R_reads' HO777.out).2.2 | (with_reducible refine Kd.C_alloc ?_ _) | (with_reducible refine Kd.C_drewN ?_ _) | (with_reducible refine Kd.C_drew ?_))); (case side2 => first | exact trivial | (exact (Kd.R_reads' HO777.out).2.1)); (case side3 => repeat (first | exact (Kd.R_reads' HO_6.out).2.2 | (with_reducible refine Kd.C_alloc ?_ _) | (with_reducible refine Kd.C_drewN ?_ _) | (with_reducible refine Kd.C_drew ?_))); (case side4 => first | exact trivial | (exact (Kd.R_reads' HO_6.out).2.1)); rintro e w' ⟨rfl, ⟨nd, rfl⟩⟩; refine ⟨_, rfl, ?_⟩))
                          go_meet
                          case rel => exact ⟨_, (true), (by first | rfl | (simp; done) | (simp [*]; done)), H', ⟨by have := HJ11.out; have := HJ39.out; first | omega | exact Nat.le_refl _⟩, ⟨by (try simp only [hl750000_39]); (try simp only [hl750001_39]); (with_reducible repeat (first | apply Kd.R_alloc | apply Kd.R_drewN | apply Kd.R_drew)); exact Kd.R_mono HO_9.out (fun _ hk => hk.1.1.2)⟩, ⟨by (try simp only [hl750000_39]); (try simp only [hl750001_39]); (with_reducible repeat (first | apply Kd.R_alloc | apply Kd.R_drewN | apply Kd.R_drew)); exact Kd.R_mono HO_750000.out (fun _ hk => hk.1.1.2)⟩, ⟨by (try simp only [hl750000_39]); (try simp only [hl750001_39]); (with_reducible repeat (first | apply Kd.R_alloc | apply Kd.R_drewN | apply Kd.R_drew)); exact Kd.R_mono HO_750001.out (fun _ hk => trivial)⟩, ⟨by (try simp only [hl750000_39]); (try simp only [hl750001_39]); (with_reducible repeat (first | refine blk_drewN ?_ _ | refine blk_drew ?_ | refine blk_alloc ?_ _)); exact BK731.out⟩, ⟨by (try simp only [hl750000_39]); (try simp only [hl750001_39]); (with_reducible repeat (first | refine blk_drewN ?_ _ | refine blk_drew ?_ | refine blk_alloc ?_ _)); exact BK749.out⟩, ⟨by repeat (first | (with_reducible first | exact HB.out | apply below_alloc | apply pw_below_drewN | apply below_drew1 | refine below_set ?_ GE731.out | refine below_set ?_ GE749.out) | exact HB.out)⟩⟩
                      case rest =>
                        clear HC65
                        try clear c1
                        try clear c2
                        try clear p2
                        try clear c3
                        try clear c4
                        try clear c4b0
                        try clear c5
                        try clear c6
                        try clear c7
                        try clear c12
                        try clear c17
                        try clear c18
                        try clear c19
                        try clear c20
                        try clear c22
                        try clear c24
                        try clear c25
                        try clear c30
                        try clear c35
                        try clear c38
                        try clear c41
                        try clear c42
                        try clear c46
                        try clear c49
                        try clear c49b0
                        try clear c51
                        try clear c56
                        try clear c59
                        try clear c59b0
                        try clear c62
                        try clear c62b0
                        try clear c62b1
                        try clear c68
                        try clear c75
                        try clear hcz14_0
                        try clear hcz14_1
                        try clear hcz16_0
                        try clear hcz16_1
                        try clear hcz21_0
                        try clear hcz21_1
                        try clear hcz26_0
                        try clear hcz26_1
                        try clear hcz47_0
                        try clear hcz47_1
                        try clear hcz69_0
                        try clear hcz69_1
                        try clear hcz6_0
                        try clear hcz6_1
                        try clear hfz14_0
                        try clear hfz14_1
                        try clear hfz16_0
                        try clear hfz16_1
                        try clear hfz21_0
                        try clear hfz21_1
                        try clear hfz26_0
                        try clear hfz26_1
                        try clear hfz47_0
                        try clear hfz47_1
                        try clear hfz69_0
                        try clear hfz69_1
                        try clear hfz6_0
                        try clear hfz6_1
                        try clear p2
                        obtain ⟨kq, x92_64, rfl, HA, HJ64, HO_9, HO_750000, HO_750001, BK731, BK749, HB⟩ := hcut
                        have hl9_64 := (Kd.R_reads' HO_9.out).1
                        rw [hl9_64] at HO_9
                        (try simp only [hl9_64])
                        (try simp only [hl9_64] at BK731)
                        (try simp only [hl9_64] at BK749)
                        (try simp only [hl9_64] at HO_750000)
                        (try simp only [hl9_64] at HO_750001)
                        cases kq with
                        | zero => exact absurd HA.out (by simp [laws_FnExactMovesFor.j2])
                        | succ kj64 =>
                          have H := HA.out
                          clear HA
                          simp only [laws_FnExactMovesFor.j2] at H
                          by_cases c80 : x92_64 = true
                          · subst c80
                            have H1 : (some false) = some r := by rw [if_pos rfl] at H; exact H
                            clear H
                            have H := H1
                            clear H1
                            obtain rfl := Option.some.inj H
                            go_wp2
                            go_ret
                            exact ⟨by first | rfl | (simp [errW_none, errW_some] <;> rfl) | (simp [*, errW_none, errW_some] <;> rfl), by repeat (first | (with_reducible first | exact HB.out | apply below_alloc | apply pw_below_drewN | apply below_drew1 | refine below_set ?_ GE731.out | refine below_set ?_ GE749.out) | exact HB.out)⟩
                          · replace c80 := Bool.eq_false_iff.mpr c80
                            subst c80
                            have H1 : ((laws_heldInt64S.f kj64 t767 1).bind fun t780 => (if t780 < 0 then (some false) else (if t780 = t766 then (some true) else (some false)))) = some r := by rw [if_neg (show ¬ (false = true) by decide)] at H; exact H
                            clear H
                            have H := H1
                            clear H1
                            replace H := Option.bind_eq_some_iff.mp H
                            obtain ⟨t780, A810, H⟩ := H
                            replace H : (if t780 < 0 then (some false) else (if t780 = t766 then (some true) else (some false))) = some r := H
                            have A81 := Aside0.mk A810
                            clear A810
                            by_cases c82 : t780 < 0
                            · rw [if_pos c82] at H
                              have c82b0 : decide (t780 < 0) = true := decide_eq_true c82
                              clear c82
                              obtain rfl := Option.some.inj H
                              go_wp2_with (first | ((with_reducible refine gate_callee (f := 19) rfl ?_); refine goesL_ (some 95) rfl rfl Try.func19 (by kernel_rfl) rfl #[.slice Ao66 t767.length co66, .int .i64 1] rfl (by (try simp only [List.map_toArray, List.map_cons, List.map_nil]); first | done | rfl | (simp only [List.length_drop, List.length_take]; rfl)) ?_; (with_reducible refine (laws_heldInt64S.calls kj64 _ _ t767 1 t780 _ ?side1 ?side2 A81.out).mono ?_); (case side1 => repeat (first | exact (Kd.R_reads' HO_9.out).2.2 | (with_reducible refine Kd.C_alloc ?_ _) | (with_reducible refine Kd.C_drewN ?_ _) | (with_reducible refine Kd.C_drew ?_))); (case side2 => first | exact trivial | (exact (Kd.R_reads' HO_9.out).2.1)); rintro e w' ⟨rfl, ⟨nd, rfl⟩⟩; refine ⟨_, rfl, ?_⟩))
                              go_ret
                              exact ⟨by first | rfl | (simp [errW_none, errW_some] <;> rfl) | (simp [*, errW_none, errW_some] <;> rfl), by repeat (first | (with_reducible first | exact HB.out | apply below_alloc | apply pw_below_drewN | apply below_drew1 | refine below_set ?_ GE731.out | refine below_set ?_ GE749.out) | exact HB.out)⟩
                            · rw [if_neg c82] at H
                              have c82b0 : decide (t780 < 0) = false := decide_eq_false c82
                              clear c82
                              by_cases c83 : t780 = t766
                              · rw [if_pos c83] at H
                                have c83b0 : (t780 == t766) = true := beq_iff_eq.mpr c83
                                have c83b1 : (t780 != t766) = false := bne_eq_false_iff_eq.mpr c83
                                clear c83
                                obtain rfl := Option.some.inj H
                                go_wp2_with (first | ((with_reducible refine gate_callee (f := 19) rfl ?_); refine goesL_ (some 95) rfl rfl Try.func19 (by kernel_rfl) rfl #[.slice Ao66 t767.length co66, .int .i64 1] rfl (by (try simp only [List.map_toArray, List.map_cons, List.map_nil]); first | done | rfl | (simp only [List.length_drop, List.length_take]; rfl)) ?_; (with_reducible refine (laws_heldInt64S.calls kj64 _ _ t767 1 t780 _ ?side1 ?side2 A81.out).mono ?_); (case side1 => repeat (first | exact (Kd.R_reads' HO_9.out).2.2 | (with_reducible refine Kd.C_alloc ?_ _) | (with_reducible refine Kd.C_drewN ?_ _) | (with_reducible refine Kd.C_drew ?_))); (case side2 => first | exact trivial | (exact (Kd.R_reads' HO_9.out).2.1)); rintro e w' ⟨rfl, ⟨nd, rfl⟩⟩; refine ⟨_, rfl, ?_⟩))
                                go_ret
                                exact ⟨by first | rfl | (simp [errW_none, errW_some] <;> rfl) | (simp [*, errW_none, errW_some] <;> rfl), by repeat (first | (with_reducible first | exact HB.out | apply below_alloc | apply pw_below_drewN | apply below_drew1 | refine below_set ?_ GE731.out | refine below_set ?_ GE749.out) | exact HB.out)⟩
                              · rw [if_neg c83] at H
                                have c83b0 : (t780 == t766) = false := beq_eq_false_iff_ne.mpr c83
                                have c83b1 : (t780 != t766) = true := bne_iff_ne.mpr c83
                                obtain rfl := Option.some.inj H
                                go_wp2_with (first | ((with_reducible refine gate_callee (f := 19) rfl ?_); refine goesL_ (some 95) rfl rfl Try.func19 (by kernel_rfl) rfl #[.slice Ao66 t767.length co66, .int .i64 1] rfl (by (try simp only [List.map_toArray, List.map_cons, List.map_nil]); first | done | rfl | (simp only [List.length_drop, List.length_take]; rfl)) ?_; (with_reducible refine (laws_heldInt64S.calls kj64 _ _ t767 1 t780 _ ?side1 ?side2 A81.out).mono ?_); (case side1 => repeat (first | exact (Kd.R_reads' HO_9.out).2.2 | (with_reducible refine Kd.C_alloc ?_ _) | (with_reducible refine Kd.C_drewN ?_ _) | (with_reducible refine Kd.C_drew ?_))); (case side2 => first | exact trivial | (exact (Kd.R_reads' HO_9.out).2.1)); rintro e w' ⟨rfl, ⟨nd, rfl⟩⟩; refine ⟨_, rfl, ?_⟩))
                                go_ret
                                exact ⟨by first | rfl | (simp [errW_none, errW_some] <;> rfl) | (simp [*, errW_none, errW_some] <;> rfl), by repeat (first | (with_reducible first | exact HB.out | apply below_alloc | apply pw_below_drewN | apply below_drew1 | refine below_set ?_ GE731.out | refine below_set ?_ GE749.out) | exact HB.out)⟩
                    · rw [if_neg c62] at H
                      have c62b0 : (t768 == t766) = false := beq_eq_false_iff_ne.mpr c62
                      have c62b1 : (t768 != t766) = true := bne_iff_ne.mpr c62
                      obtain rfl := Option.some.inj H
                      obtain ⟨Ao84, co84, eo84⟩ := Kd.R_slice HO_9.out
                      subst eo84
                      go_wp2_with (first | ((with_reducible refine gate_callee (f := 18) rfl ?_); refine goesL_ (some 68) rfl rfl Try.func18 (by kernel_rfl) rfl #[.slice Ao84 t750.length co84, .int .i64 1] rfl (by (try simp only [List.map_toArray, List.map_cons, List.map_nil]); first | done | rfl | (simp only [List.length_drop, List.length_take]; rfl)) ?_; (with_reducible refine (laws_markInt64S.calls kj39 (fun k_ => some k_ = (.slice Ao84 t750.length co84 : Value).ownBlock) (.slice Ao84 t750.length co84) t750 1 t766 t767 w _ ?side1 ?side2 A57.out).mono ?_); (case side1 => repeat (first | (with_reducible first | exact HB.out | apply below_alloc | apply pw_below_drewN | apply below_drew1 | refine below_set ?_ GE731.out | refine below_set ?_ GE749.out) | exact HB.out)); (case side2 => exact Kd.R_tight rfl HO_9.out); rintro e w85 ⟨rfl, hy0, hb, hkp⟩; refine ⟨_, rfl, ?_⟩; have n0_ := Aside0.mk (Kd.R_mono (ok' := fun k_ => some k_ ≠ (.slice Ao84 t750.length co84 : Value).ownBlock ∧ some k_ ≠ (.slice Ao24 t763.length co24 : Value).ownBlock) (Kd.R_keptB (HO_6.out) hkp (fun k_ hk_ hs_ => (hk_.1) hs_)) (fun k_ hk_ => ⟨hk_.1.1, hk_.1.2⟩)); have n1_ := Aside0.mk (Kd.R_reok rfl hy0 (fun k_ e_ => HO_9.out.1 k_ e_)); have n2_ := Aside0.mk (Kd.R_mono (ok' := fun k_ => some k_ ≠ (v740 : Value).ownBlock ∧ some k_ ≠ (.slice Ao84 t750.length co84 : Value).ownBlock) (Kd.R_keptB (HO_750000.out) hkp (fun k_ hk_ hs_ => (hk_.2) hs_)) (fun k_ hk_ => ⟨hk_.1.1, hk_.1.2⟩)); have n3_ := Aside0.mk (Kd.R_mono (ok' := fun k_ => True) (Kd.R_keptB ((Kd.R_apart' HO_750001.out (Kd.R_typed HO_9.out) (by decide))) hkp (fun k_ hk_ hs_ => (hk_.2) hs_)) (fun k_ hk_ => trivial)); have n4_ := Aside0.mk (blk_kept (by (with_reducible repeat (first | refine blk_drewN ?_ _ | refine blk_drew ?_ | refine blk_alloc ?_ _)); exact BK731.out) hkp (fun hs_ => (fun e_ => (Kd.R_ne HO_9.out BK731.out (by decide)) e_) hs_)); have n5_ := Aside0.mk (blk_kept (by (with_reducible repeat (first | refine blk_drewN ?_ _ | refine blk_drew ?_ | refine blk_alloc ?_ _)); exact BK749.out) hkp (fun hs_ => (fun e_ => (Kd.R_ne HO_9.out BK749.out (by decide)) e_) hs_)); have n6_ := Aside0.mk (hb); clear HO_6; clear HO_9; clear HO_750000; clear HO_750001; clear BK731; clear BK749; clear HB; have HO_6 := n0_; have HO_9 := n1_; have HO_750000 := n2_; have HO_750001 := n3_; have BK731 := n4_; have BK749 := n5_; have HB := n6_; clear n0_ n1_ n2_ n3_ n4_ n5_ n6_; (try clear hb); (try clear hkp); (try clear hy0)) | ((with_reducible refine gate_callee (f := 19) rfl ?_); refine goesL_ (some 71) rfl rfl Try.func19 (by kernel_rfl) rfl #[.slice Ao84 t767.length co84, .int .i64 1] rfl (by (try simp only [List.map_toArray, List.map_cons, List.map_nil]); first | done | (rw [show t767.length = t750.length from (Kd.R_reads' HO_9.out).1.symm] <;> rfl) | rfl | (simp only [List.length_drop, List.length_take]; rfl)) ?_; (with_reducible refine (laws_heldInt64S.calls kj39 _ _ t767 1 t768 _ ?side1 ?side2 A58.out).mono ?_); (case side1 => repeat (first | exact (Kd.R_reads' HO_9.out).2.2 | (with_reducible refine Kd.C_alloc ?_ _) | (with_reducible refine Kd.C_drewN ?_ _) | (with_reducible refine Kd.C_drew ?_))); (case side2 => rw [show t767.length = t750.length from (Kd.R_reads' HO_9.out).1.symm]; first | exact trivial | (exact (Kd.R_reads' HO_9.out).2.1)); rintro e w' ⟨rfl, ⟨nd, rfl⟩⟩; refine ⟨_, rfl, ?_⟩))
                      go_ret
                      exact ⟨by first | rfl | (simp [errW_none, errW_some] <;> rfl) | (simp [*, errW_none, errW_some] <;> rfl), by repeat (first | (with_reducible first | exact HB.out | apply below_alloc | apply pw_below_drewN | apply below_drew1 | refine below_set ?_ GE731.out | refine below_set ?_ GE749.out) | exact HB.out)⟩
          · replace c38 := Bool.eq_false_iff.mpr c38
            subst c38
            have H1 : (some false) = some r := by rw [if_neg (show ¬ (false = true) by decide)] at H; exact H
            clear H
            have H := H1
            clear H1
            obtain rfl := Option.some.inj H
            try go_wp2
            have n0_ := Aside0.mk (Kd.R_drew HO_6.out)
            have n1_ := Aside0.mk (Kd.R_drew HO_9.out)
            have n2_ := Aside0.mk (Kd.R_drew HO_750000.out)
            have n3_ := Aside0.mk (Kd.R_drew HO_750001.out)
            have n4_ := Aside0.mk (blk_drew BK731.out)
            have n5_ := Aside0.mk (blk_drew BK749.out)
            have n6_ := Aside0.mk (below_drew1 HB.out)
            clear HO_6
            clear HO_9
            clear HO_750000
            clear HO_750001
            clear BK731
            clear BK749
            clear HB
            have HO_6 := n0_
            have HO_9 := n1_
            have HO_750000 := n2_
            have HO_750001 := n3_
            have BK731 := n4_
            have BK749 := n5_
            have HB := n6_
            clear n0_ n1_ n2_ n3_ n4_ n5_ n6_
            refine start_ (n := 5) (S := fun w' => w'.cell? ⟨gb749, 0, none⟩ = some (.slice Ao24 t743.length co24) ∧ w'.cell? ⟨gb749, 1, none⟩ = some (.slice Ao27 t746.length co27) ∧ w'.cell? ⟨gb731, 0, none⟩ = some (.slice A0_0 l0_0.length c0_0) ∧ w'.cell? ⟨gb731, 1, none⟩ = some (.slice A0_1 l0_1.length c0_1)) (ds := []) #[false, false, false, false, false] (by kernel_rfl) rfl rfl ⟨(blk_cell BK749.out 0).trans rfl, (blk_cell BK749.out 1).trans rfl, (blk_cell BK731.out 0).trans rfl, (blk_cell BK731.out 1).trans rfl⟩ (fun hHeld => ?_)
            generalize wc.drew = w86 at HO_6 HO_9 HO_750000 HO_750001 BK731 BK749 HB hHeld ⊢
            refine take_ (i := 0) (N := some 45) (v := ?_) (a' := ?_) #[true, false, false, false, false] rfl rfl (by kernel_rfl) (fun _ _ _ h => h) (Or.inl ⟨by rfl, ?_⟩) hHeld ?_ ?_
            rotate_left
            · rintro w' ⟨s0, s1, s2, s3⟩
              go_simp
              with_reducible rfl
            rotate_left
            · simp only [Act.put, List.setIfInBounds_toArray, List.set_cons_zero, List.set_cons_succ, i64_w, i32_w]
              rfl
            refine take_ (i := 1) (N := some 46) (v := ?_) (a' := ?_) #[true, true, false, false, false] rfl rfl (by kernel_rfl) (fun _ _ _ h => h) (Or.inl ⟨by rfl, ?_⟩) hHeld ?_ ?_
            rotate_left
            · rintro w' ⟨s0, s1, s2, s3⟩
              go_simp
              with_reducible rfl
            rotate_left
            · simp only [Act.put, List.setIfInBounds_toArray, List.set_cons_zero, List.set_cons_succ, i64_w, i32_w]
              rfl
            refine one_ (i := 2) (N := some 47) #[true, true, true, false, false] rfl rfl (by kernel_rfl) (by decide) (fun K hK => ?_)
            refine goes_ Try.func22 (by kernel_rfl) rfl #[.agg #[.slice A0_0 l0_0.length c0_0, .slice A0_1 l0_1.length c0_1]] (by rfl) rfl rfl (by (try simp only [List.map_toArray, List.map_cons, List.map_nil]); first | done | rfl | (simp only [List.length_drop, List.length_take]; rfl)) ?_
            with_reducible refine (laws_toFlow.calls kj11 _ _ l0_0 _ _ l0_1 t755 t758 _ ?side1 ?side2 ?side3 ?side4 A36.out).mono ?_
            (case side1 => repeat (first | exact (Kd.C_below HR0_0.out HB.out) | (with_reducible refine Kd.C_alloc ?_ _) | (with_reducible refine Kd.C_drewN ?_ _) | (with_reducible refine Kd.C_drew ?_)))
            (case side2 => first | exact trivial | (exact HC0_0.out))
            (case side3 => repeat (first | exact (Kd.C_below HR0_1.out HB.out) | (with_reducible refine Kd.C_alloc ?_ _) | (with_reducible refine Kd.C_drewN ?_ _) | (with_reducible refine Kd.C_drew ?_)))
            (case side4 => first | exact trivial | (exact HC0_1.out))
            rintro e w87 ⟨v756, v759, rfl, ho0, ho1, hb⟩
            refine ⟨_, rfl, ?_⟩
            have n0_ := Aside0.mk (Kd.R_elder' (by (with_reducible repeat (first | apply Kd.R_alloc | apply Kd.R_drewN | apply Kd.R_drew)); exact HO_6.out) (Kd.R_base ho0) hb)
            have n1_ := Aside0.mk (Kd.R_elder' (by (with_reducible repeat (first | apply Kd.R_alloc | apply Kd.R_drewN | apply Kd.R_drew)); exact HO_9.out) (Kd.R_base ho0) hb)
            have n2_ := Aside0.mk (Kd.R_elder' (by (with_reducible repeat (first | apply Kd.R_alloc | apply Kd.R_drewN | apply Kd.R_drew)); exact HO_750000.out) (Kd.R_base ho0) hb)
            have n3_ := Aside0.mk (Kd.R_elder' (by (with_reducible repeat (first | apply Kd.R_alloc | apply Kd.R_drewN | apply Kd.R_drew)); exact HO_750001.out) (Kd.R_base ho1) hb)
            have n4_ := Aside0.mk (Kd.R_lower (Kd.R_new' (Kd.R_new' (Kd.R_new' ho0 (Kd.R_lt (by (with_reducible repeat (first | apply Kd.R_alloc | apply Kd.R_drewN | apply Kd.R_drew)); exact HO_6.out))) (Kd.R_lt (by (with_reducible repeat (first | apply Kd.R_alloc | apply Kd.R_drewN | apply Kd.R_drew)); exact HO_9.out))) (Kd.R_lt (by (with_reducible repeat (first | apply Kd.R_alloc | apply Kd.R_drewN | apply Kd.R_drew)); exact HO_750000.out))) (below_size (by repeat (first | (with_reducible first | exact HB.out | apply below_alloc | apply pw_below_drewN | apply below_drew1 | refine below_set ?_ GE731.out | refine below_set ?_ GE749.out) | exact HB.out))))
            have n5_ := Aside0.mk (Kd.R_lower (Kd.R_new' ho1 (Kd.R_lt (by (with_reducible repeat (first | apply Kd.R_alloc | apply Kd.R_drewN | apply Kd.R_drew)); exact HO_750001.out))) (below_size (by repeat (first | (with_reducible first | exact HB.out | apply below_alloc | apply pw_below_drewN | apply below_drew1 | refine below_set ?_ GE731.out | refine below_set ?_ GE749.out) | exact HB.out))))
            have n6_ := Aside0.mk (blk_below (g := gb731) (o := .cells #[.slice A0_0 l0_0.length c0_0, .slice A0_1 l0_1.length c0_1] 31 (0, 0)) (by (with_reducible repeat (first | refine blk_drewN ?_ _ | refine blk_drew ?_ | refine blk_alloc ?_ _)); exact BK731.out) hb)
            have n7_ := Aside0.mk (blk_below (g := gb749) (o := .cells #[.slice Ao24 t743.length co24, .slice Ao27 t746.length co27] 36 (0, 0)) (by (with_reducible repeat (first | refine blk_drewN ?_ _ | refine blk_drew ?_ | refine blk_alloc ?_ _)); exact BK749.out) hb)
            have n8_ := Aside0.mk (below_step (by repeat (first | (with_reducible first | exact HB.out | apply below_alloc | apply pw_below_drewN | apply below_drew1 | refine below_set ?_ GE731.out | refine below_set ?_ GE749.out) | exact HB.out)) hb)
            clear HO_6
            clear HO_9
            clear HO_750000
            clear HO_750001
            clear BK731
            clear BK749
            clear HB
            have HO_6 := n0_
            have HO_9 := n1_
            have HO_750000 := n2_
            have HO_750001 := n3_
            have HO757 := n4_
            have HO760 := n5_
            have BK731 := n6_
            have BK749 := n7_
            have HB := n8_
            clear n0_ n1_ n2_ n3_ n4_ n5_ n6_ n7_ n8_
            (try clear hb)
            (try clear hb2)
            (try clear hk)
            (try clear hi)
            (try clear ho0)
            (try clear ho1)
            obtain ⟨Ao88, co88, eo88⟩ := Kd.R_slice HO757.out
            (first | subst eo88 | (injection eo88 with f1_ f2_ f3_; have f4_ := f1_.symm; have f5_ := f3_.symm; clear f1_ f2_ f3_; subst f4_; subst f5_))
            obtain ⟨Ao89, co89, eo89⟩ := Kd.R_slice HO760.out
            (first | subst eo89 | (injection eo89 with f1_ f2_ f3_; have f4_ := f1_.symm; have f5_ := f3_.symm; clear f1_ f2_ f3_; subst f4_; subst f5_))
            refine hK.out _ _ ⟨(blk_cell BK749.out 0).trans rfl, (blk_cell BK749.out 1).trans rfl, (blk_cell BK731.out 0).trans rfl, (blk_cell BK731.out 1).trans rfl⟩ (fun hHeld => ?_)
            clear hK K
            refine norm_ (a' := ?_) ?_ ?_
            rotate_left
            · show Act.put _ (some 47) _ = _
              simp only [Act.put, List.setIfInBounds_toArray, List.set_cons_zero, List.set_cons_succ, i64_w, i32_w]
              rfl
            refine one_ (i := 3) (N := some 48) #[true, true, true, true, false] rfl rfl (by kernel_rfl) (by decide) (fun K hK => ?_)
            refine goes_ Try.func24 (by kernel_rfl) rfl #[.agg #[.slice Ao24 t743.length co24, .slice Ao27 t746.length co27], .agg #[.slice Ao88 t755.length co88, .slice Ao89 t758.length co89]] (by rfl) rfl rfl (by (try simp only [List.map_toArray, List.map_cons, List.map_nil]); first | done | rfl | (simp only [List.length_drop, List.length_take]; rfl)) ?_
            with_reducible refine (laws_eqFlow.calls kj11 _ _ t743 _ _ t746 _ _ t755 _ _ t758 false _ ?side1 ?side2 ?side3 ?side4 ?side5 ?side6 ?side7 ?side8 A37.out).mono ?_
            (case side1 => repeat (first | exact (Kd.R_reads' HO_750000.out).2.2 | (with_reducible refine Kd.C_alloc ?_ _) | (with_reducible refine Kd.C_drewN ?_ _) | (with_reducible refine Kd.C_drew ?_)))
            (case side2 => first | exact trivial | (exact (Kd.R_reads' HO_750000.out).2.1))
            (case side3 => repeat (first | exact (Kd.R_reads' HO_750001.out).2.2 | (with_reducible refine Kd.C_alloc ?_ _) | (with_reducible refine Kd.C_drewN ?_ _) | (with_reducible refine Kd.C_drew ?_)))
            (case side4 => first | exact trivial | (exact (Kd.R_reads' HO_750001.out).2.1))
            (case side5 => repeat (first | exact (Kd.R_reads' HO757.out).2.2 | (with_reducible refine Kd.C_alloc ?_ _) | (with_reducible refine Kd.C_drewN ?_ _) | (with_reducible refine Kd.C_drew ?_)))
            (case side6 => first | exact trivial | (exact (Kd.R_reads' HO757.out).2.1))
            (case side7 => repeat (first | exact (Kd.R_reads' HO760.out).2.2 | (with_reducible refine Kd.C_alloc ?_ _) | (with_reducible refine Kd.C_drewN ?_ _) | (with_reducible refine Kd.C_drew ?_)))
            (case side8 => first | exact trivial | (exact (Kd.R_reads' HO760.out).2.1))
            rintro e w90 ⟨rfl, hb⟩
            refine ⟨_, rfl, ?_⟩
            have n0_ := Aside0.mk (Kd.R_below (by (with_reducible repeat (first | apply Kd.R_alloc | apply Kd.R_drewN | apply Kd.R_drew)); exact HO_6.out) hb)
            have n1_ := Aside0.mk (Kd.R_below (by (with_reducible repeat (first | apply Kd.R_alloc | apply Kd.R_drewN | apply Kd.R_drew)); exact HO_9.out) hb)
            have n2_ := Aside0.mk (Kd.R_below (by (with_reducible repeat (first | apply Kd.R_alloc | apply Kd.R_drewN | apply Kd.R_drew)); exact HO_750000.out) hb)
            have n3_ := Aside0.mk (Kd.R_below (by (with_reducible repeat (first | apply Kd.R_alloc | apply Kd.R_drewN | apply Kd.R_drew)); exact HO_750001.out) hb)
            have n4_ := Aside0.mk (Kd.R_below (by (with_reducible repeat (first | apply Kd.R_alloc | apply Kd.R_drewN | apply Kd.R_drew)); exact HO757.out) hb)
            have n5_ := Aside0.mk (Kd.R_below (by (with_reducible repeat (first | apply Kd.R_alloc | apply Kd.R_drewN | apply Kd.R_drew)); exact HO760.out) hb)
            have n6_ := Aside0.mk (blk_below (g := gb731) (o := .cells #[.slice A0_0 l0_0.length c0_0, .slice A0_1 l0_1.length c0_1] 31 (0, 0)) (by (with_reducible repeat (first | refine blk_drewN ?_ _ | refine blk_drew ?_ | refine blk_alloc ?_ _)); exact BK731.out) hb)
            have n7_ := Aside0.mk (blk_below (g := gb749) (o := .cells #[.slice Ao24 t743.length co24, .slice Ao27 t746.length co27] 36 (0, 0)) (by (with_reducible repeat (first | refine blk_drewN ?_ _ | refine blk_drew ?_ | refine blk_alloc ?_ _)); exact BK749.out) hb)
            have n8_ := Aside0.mk (below_step (by repeat (first | (with_reducible first | exact HB.out | apply below_alloc | apply pw_below_drewN | apply below_drew1 | refine below_set ?_ GE731.out | refine below_set ?_ GE749.out) | exact HB.out)) hb)
            clear HO_6
            clear HO_9
            clear HO_750000
            clear HO_750001
            clear HO757
            clear HO760
            clear BK731
            clear BK749
            clear HB
            have HO_6 := n0_
            have HO_9 := n1_
            have HO_750000 := n2_
            have HO_750001 := n3_
            have HO757 := n4_
            have HO760 := n5_
            have BK731 := n6_
            have BK749 := n7_
            have HB := n8_
            clear n0_ n1_ n2_ n3_ n4_ n5_ n6_ n7_ n8_
            (try clear hb)
            (try clear hb2)
            (try clear hk)
            (try clear hi)
            refine hK.out _ _ ⟨(blk_cell BK749.out 0).trans rfl, (blk_cell BK749.out 1).trans rfl, (blk_cell BK731.out 0).trans rfl, (blk_cell BK731.out 1).trans rfl⟩ (fun hHeld => ?_)
            clear hK K
            refine norm_ (a' := ?_) ?_ ?_
            rotate_left
            · show Act.put _ (some 48) _ = _
              simp only [Act.put, List.setIfInBounds_toArray, List.set_cons_zero, List.set_cons_succ, i64_w, i32_w]
              rfl
            refine pure_ (i := 4) (N := some 49) (v := ?_) (a' := ?_) #[true, true, true, true, true] rfl rfl (by kernel_rfl) (fun _ _ _ h => h) (Or.inl ⟨by rfl, ?_⟩) ?_ ?_
            rotate_left
            · intro w'
              go_simp
              with_reducible rfl
            rotate_left
            · simp only [Act.put, List.setIfInBounds_toArray, List.set_cons_zero, List.set_cons_succ, i64_w, i32_w]
              rfl
            refine done_ (by kernel_rfl) ?_
            try go_wp2
            go_ret
            exact ⟨by first | rfl | (simp [errW_none, errW_some] <;> rfl) | (simp [*, errW_none, errW_some] <;> rfl), by repeat (first | (with_reducible first | exact HB.out | apply below_alloc | apply pw_below_drewN | apply below_drew1 | refine below_set ?_ GE731.out | refine below_set ?_ GE749.out) | exact HB.out)⟩
end Go.Proofs.Ytojpibpjieanhaa.X
end
section
/- The law of MovesFor, plainly. Conditions: as each lemma says. -/
namespace Go.Proofs.Ytojpibpjieanhaa.X
open Go.RowKit Go.Proofs.YtojpibpjieanhaaW.PrintWords Go.Proofs.YtojpibpjieanhaaW.PrintLast Go.Proofs.YtojpibpjieanhaaW.PrintMore Go.Proofs.Ytojpibpjieanhaa.FlowMath Go.Proofs.Ytojpibpjieanhaa.ConsMath
set_option linter.unusedVariables false
set_option linter.unusedSimpArgs false
theorem flow_of (d : List Int) (ws : List S55) (h : validB d ws = true) : FewMath.Fl d ws d.length := by
  unfold validB at h
  rw [Bool.and_eq_true] at h
  obtain ⟨hn, hm, hd, hw⟩ := form_ok h.1
  refine ⟨rfl, hn.1, hn.2, hm, hw, fun v => ?_, fun v hv => ?_⟩
  · unfold FewMath.dl
    rw [List.getD_eq_getElem?_getD]
    rcases Nat.lt_or_ge v d.length with hv | hv
    · rw [List.getElem?_eq_getElem hv]; exact hd _ (List.getElem_mem hv)
    · rw [List.getElem?_eq_none hv]; simp
  · have := h.2
    rw [@decide_eq_true _ (Classical.propDecidable _) ⟨v, hv⟩] at this
    simp at this
theorem tab_all (K : Nat) (d : List Int) (ws : List S55) (h : validB d ws = true) (hK : 100 < K) : ∃ M, impl_Flow_allBetween.f K d ws = some (rowsS d.length M) ∧ Tab d ws d.length M := by
  have hf := flow_of d ws h
  obtain ⟨M, h1, h2, h3, h4, h5⟩ := FewMath.impl_few hf K hK
  exact ⟨M, h1, tab_of hf h2 h3 h5⟩
theorem moves_same (K : Nat) (d : List Int) (ws : List S55) (P : Int) (h0 : d.length ≤ 2000000) (h1 : ws.length ≤ 2000000) (hK : 9000000 < K) : ∃ r : List Int × Bool, r.1.length ≤ 16 ∧ spec_MovesFor.f (K + 1) d ws P = some r ∧ impl_MovesFor.f (K + 1) d ws P = some r := by
  unfold spec_MovesFor.f impl_MovesFor.f
  rw [spec_is (K + 1) d ws (by omega) (by omega) (by omega), impl_valid (K + 1) d ws (by omega), Option.bind_some, Option.bind_some]
  cases hv : validB d ws with
  | false =>
    rw [if_neg (by decide), if_neg (by decide), impl_MovesFor.j0, if_pos rfl]
    exact ⟨_, by simp, rfl, rfl⟩
  | true =>
    rw [if_pos rfl, if_pos rfl, l00In_w, within_w]
    simp only [Option.bind_some]
    by_cases hp : 0 ≤ P ∧ P ≤ 100000
    · obtain ⟨M, g1, g2⟩ := tab_all K d ws hv (by omega)
      obtain ⟨p, q, e1, e2, e3, e4⟩ := for_same g2 P K (by omega)
      have e1 := at_rounds (g := fun k => spec_l08For.f k d ws P) (fun k => spec_l08For.mono d ws P k) (Nat.le_succ K) e1
      have e1 : spec_l08For.f (K + 1) d ws P = some p := e1
      have i1 : inB P 0 100000 = true := by unfold inB; simp; omega
      have i2 : (decide (0 ≤ P) && decide (P ≤ 100000)) = true := by simp; omega
      rw [i1, i2, if_pos rfl, e1, Bool.not_true, impl_MovesFor.j0, if_neg (by decide), g1]
      simp only [Option.bind_some]
      rw [e2]
      simp only [Option.bind_some]
      cases hp2 : p.2 with
      | false =>
        have hq2 : q.2 = false := by rcases e3 with e3 | e3
                                     · exact e3.2
                                     · rw [← e3]; exact hp2
        rw [hq2]
        exact ⟨_, by simp, rfl, rfl⟩
      | true =>
        have hq : p = q := by rcases e3 with e3 | e3
                              · rw [e3.1] at hp2; exact Bool.noConfusion hp2
                              · exact e3
        rw [← hq, hp2]
        exact ⟨(p.1, true), by have := e4 hp2; show p.1.length ≤ 16; omega, rfl, rfl⟩
    · have i1 : inB P 0 100000 = false := by unfold inB; simp; omega
      have i2 : (decide (0 ≤ P) && decide (P ≤ 100000)) = false := by simp; omega
      rw [i1, i2, if_neg (by decide), Bool.not_false, impl_MovesFor.j0, if_pos rfl]
      exact ⟨_, by simp, rfl, rfl⟩
theorem bne_same (b : Bool) : (b != b) = false := by cases b <;> rfl
theorem FnExactMovesFor_pure (l0 : List Int) (l1 : List S96) (a : Int) (h0 : l0.length ≤ 9223372036854775807) (w0 : ∀ n ∈ l0, (Lit.int .i64 n).wf = true) (h1 : l1.length ≤ 9223372036854775807) (wa : (Lit.int .i64 a).wf = true) : ∃ k, laws_FnExactMovesFor.f k l0 l1 a = some true := by
  obtain ⟨k, hk⟩ : ∃ k : Nat, 20000000 < k := ⟨20000001, by omega⟩
  refine ⟨k + 3, ?_⟩
  unfold laws_FnExactMovesFor.f
  obtain ⟨t, ht, hts⟩ := sz_eq l0 l1 h0 h1
  rw [ht, Option.bind_some]
  by_cases ht0 : t < 0
  · rw [if_pos ht0]
  obtain ⟨z0, z1⟩ := hts ht0
  have hlw : (l1.map toW).length ≤ 1048576 := by simp; omega
  obtain ⟨ws, hws⟩ : ∃ ws, ws = l1.map toW := ⟨_, rfl⟩
  have F : ∀ q, 20000000 < q → laws_toFlow.f q l0 l1 = some (l0, ws) := fun q hq => by rw [hws]; exact toFlow_eq q l0 l1 (by omega) (by omega) (by omega)
  rw [← hws] at hlw
  obtain ⟨c, hc1, hc2⟩ : ∃ c : Nat, 10000000 < c ∧ c < 20000000 := ⟨10000001, by omega, by omega⟩
  obtain ⟨R, r0, s0, i0⟩ := moves_same c l0 ws a (by omega) (by omega) (by omega)
  have S : ∀ q, 20000000 < q → spec_MovesFor.f q l0 ws a = some R := fun q hq => at_rounds (g := fun k => spec_MovesFor.f k l0 ws a) (fun k => spec_MovesFor.mono l0 ws a k) (show c + 1 ≤ q by omega) s0
  have I : ∀ q, 20000000 < q → impl_MovesFor.f q l0 ws a = some R := fun q hq => at_rounds (g := fun k => impl_MovesFor.f k l0 ws a) (fun k => impl_MovesFor.mono l0 ws a k) (show c + 1 ≤ q by omega) i0
  have E : ∀ q, 20000000 < q → laws_eqInt64S.f q R.1 R.1 = some true := fun q hq => eqInt64S_refl q _ (by omega) (by omega)
  have E0 : ∀ q, 20000000 < q → laws_eqFlow.f q l0 ws l0 ws = some true := fun q hq => eqFlow_refl q _ _ (by omega) (by omega) (by omega)
  have M0 := markFlow_eq (k + 2) l0 ws (by omega) (by omega) (by omega)
  have M1 := markInt64S_eq (k + 1) R.1 1 (by omega) (by omega) (by omega) (by omega)
  have H1 := heldInt64S_eq (k + 1) 1 R.1.length (by omega) (by omega) (by omega) (by omega)
  have H2 := heldInt64S_eq k 1 R.1.length (by omega) (by omega) (by omega) (by omega)
  rw [if_neg ht0, F _ (by omega)]
  simp only [Option.bind_some]
  rw [S _ (by omega)]
  simp only [Option.bind_some]
  rw [I _ (by omega)]
  simp only [Option.bind_some]
  rw [E _ (by omega)]
  simp only [Option.bind_some, if_true]
  rw [bne_same, laws_FnExactMovesFor.j0, if_neg (by decide), F _ (by omega)]
  simp only [Option.bind_some]
  rw [E0 _ (by omega)]
  simp only [Option.bind_some, if_true]
  rw [M0]
  simp only [Option.bind_some]
  rw [if_neg (by omega), E _ (by omega)]
  simp only [Option.bind_some, if_true]
  rw [bne_same, laws_FnExactMovesFor.j1, if_neg (by decide), M1]
  simp only [Option.bind_some]
  rw [H1]
  simp only [Option.bind_some, if_true]
  rw [if_neg (by omega), F _ (by omega)]
  simp only [Option.bind_some]
  rw [I _ (by omega)]
  simp only [Option.bind_some]
  rw [E _ (by omega)]
  simp only [Option.bind_some, if_true]
  rw [bne_same, laws_FnExactMovesFor.j2, if_neg (by decide), H2]
  simp only [Option.bind_some, if_true]
  rw [if_neg (by omega)]
end Go.Proofs.Ytojpibpjieanhaa.X
end
