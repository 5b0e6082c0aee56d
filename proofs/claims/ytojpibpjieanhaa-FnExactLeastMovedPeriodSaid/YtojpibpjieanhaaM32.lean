/- My own texts of this seat and its words, merged: Xp13, CLeast. Conditions: as each lemma says. -/
import Derived.Test.YtojpibpjieanhaaM21
import Derived.Test.YtojpibpjieanhaaM26
import Derived.Test.YtojpibpjieanhaaM27
import Derived.Test.YtojpibpjieanhaaM29
import Derived.Test.YtojpibpjieanhaaM30
section
-- Written by a program of this session out of the kit's print of the loaded functions: a plain function of a Go function, and its contract.
namespace Go.Proofs.Ytojpibpjieanhaa.X
open Go.RowKit Go.Proofs.YtojpibpjieanhaaW.PrintWords Go.Proofs.YtojpibpjieanhaaW.PrintLast Go.Proofs.YtojpibpjieanhaaW.PrintMore
attribute [local go_sem] max2_int min2_int max_two min_two max_three min_three max_four min_four   -- for this text's walks alone
set_option linter.unusedVariables false
set_option linter.unusedSimpArgs false
mutual
def laws_FnExactLeastMovedPeriod.j0 : Nat → Int → List Int → Bool → Int → List Int → Bool → Bool → List Int → List (S96) → List Int → List (S55) → Option (Bool)
 | 0, _, _, _, _, _, _, _, _, _, _, _ => none
 | k + 1, x4, x5, x6, x8, x9, x10, x50, x793000, x793001, x812000, x812001 => if x50 = true then (some false) else ((laws_toFlow.f k x793000 x793001).bind fun bt818 => ((laws_eqFlow.f k x812000 x812001 bt818.1 bt818.2).bind fun t824 => (if t824 = true then ((laws_markFlow.f k x812000 x812001 1).bind fun bt825 => (if bt825.1 < 0 then (laws_FnExactLeastMovedPeriod.j1 k x4 x5 x6 x9 true x793000 x793001) else (if x8 = x4 then ((laws_eqInt64S.f k x9 x5).bind fun t828 => (if t828 = true then (laws_FnExactLeastMovedPeriod.j1 k x4 x5 x6 x9 (x10 != x6) x793000 x793001) else (laws_FnExactLeastMovedPeriod.j1 k x4 x5 x6 x9 true x793000 x793001))) else (laws_FnExactLeastMovedPeriod.j1 k x4 x5 x6 x9 true x793000 x793001)))) else (some false))))
def laws_FnExactLeastMovedPeriod.j1 : Nat → Int → List Int → Bool → List Int → Bool → List Int → List (S96) → Option (Bool)
 | 0, _, _, _, _, _, _, _ => none
 | k + 1, x4, x5, x6, x9, x76, x793000, x793001 => if x76 = true then (some false) else ((laws_markInt64S.f k x9 1).bind fun bt829 => ((laws_heldInt64S.f k bt829.2 1).bind fun t831 => (if t831 < 0 then (some false) else (if t831 = bt829.1 then ((laws_toFlow.f k x793000 x793001).bind fun bt832 => ((impl_LeastMovedPeriod.f k bt832.1 bt832.2).bind fun bt838 => (if bt838.1 = x4 then ((laws_eqInt64S.f k bt838.2.1 x5).bind fun t843 => (if t843 = true then (laws_FnExactLeastMovedPeriod.j2 k bt829.2 bt829.1 (bt838.2.2 != x6)) else (laws_FnExactLeastMovedPeriod.j2 k bt829.2 bt829.1 true))) else (laws_FnExactLeastMovedPeriod.j2 k bt829.2 bt829.1 true)))) else (some false)))))
def laws_FnExactLeastMovedPeriod.j2 : Nat → List Int → Int → Bool → Option (Bool)
 | 0, _, _, _ => none
 | k + 1, x9, x12, x108 => if x108 = true then (some false) else ((laws_heldInt64S.f k x9 1).bind fun t844 => (if t844 < 0 then (some false) else (if t844 = x12 then (some true) else (some false))))
end
def laws_FnExactLeastMovedPeriod.f (k : Nat) (l0_0 : List Int) (l0_1 : List (S96)) : Option (Bool) := (laws_szFlow.f l0_0 l0_1 1048576).bind fun t793 => (if t793 < 0 then (some true) else ((laws_toFlow.f k l0_0 l0_1).bind fun bt794 => ((spec_LeastMovedPeriod.f k bt794.1 bt794.2).bind fun bt800 => ((laws_toFlow.f k l0_0 l0_1).bind fun bt805 => ((impl_LeastMovedPeriod.f k bt805.1 bt805.2).bind fun bt812 => (if bt812.1 = bt800.1 then ((laws_eqInt64S.f k bt812.2.1 bt800.2.1).bind fun t817 => (if t817 = true then (laws_FnExactLeastMovedPeriod.j0 k bt800.1 bt800.2.1 bt800.2.2 bt812.1 bt812.2.1 bt812.2.2 (bt812.2.2 != bt800.2.2) l0_0 l0_1 bt805.1 bt805.2) else (laws_FnExactLeastMovedPeriod.j0 k bt800.1 bt800.2.1 bt800.2.2 bt812.1 bt812.2.1 bt812.2.2 true l0_0 l0_1 bt805.1 bt805.2))) else (laws_FnExactLeastMovedPeriod.j0 k bt800.1 bt800.2.1 bt800.2.2 bt812.1 bt812.2.1 bt812.2.2 true l0_0 l0_1 bt805.1 bt805.2)))))))
set_option maxHeartbeats 8000000 in
set_option maxRecDepth 100000 in
theorem laws_FnExactLeastMovedPeriod.calls (k : Nat) (A0_0 : Option Addr) (c0_0 : Nat) (l0_0 : List Int) (A0_1 : Option Addr) (c0_1 : Nat) (l0_1 : List (S96)) (r : Bool) (w : World) (hr0_0 : Kd.C (Kd.int .i64) w A0_0 l0_0.length l0_0) (hc0_0 : l0_0.length ≤ c0_0) (hr0_1 : Kd.C k96 w A0_1 l0_1.length l0_1) (hc0_1 : l0_1.length ≤ c0_1) (h : laws_FnExactLeastMovedPeriod.f k l0_0 l0_1 = some r) (hrT : r = true) :
  Calls Try.prog 13 #[.agg #[.slice A0_0 l0_0.length c0_0, .slice A0_1 l0_1.length c0_1]] w fun e w' => e = .returned (.bool r) ∧ Below w.heap.size w w' := by
 have HRT := Aside0.mk hrT
 clear hrT
 have hu31 := Try.underlying31
 have hu36 := Try.underlying36
 have HR0_0 := Aside0.mk hr0_0
 have HC0_0 := Aside0.mk hc0_0
 clear hr0_0 hc0_0
 have HR0_1 := Aside0.mk hr0_1
 have HC0_1 := Aside0.mk hc0_1
 clear hr0_1 hc0_1
 have HB := Aside0.mk (Below.refl w.heap.size w)
 have H : ((laws_szFlow.f l0_0 l0_1 1048576).bind fun t793 => (if t793 < 0 then (some true) else ((laws_toFlow.f k l0_0 l0_1).bind fun bt794 => ((spec_LeastMovedPeriod.f k bt794.1 bt794.2).bind fun bt800 => ((laws_toFlow.f k l0_0 l0_1).bind fun bt805 => ((impl_LeastMovedPeriod.f k bt805.1 bt805.2).bind fun bt812 => (if bt812.1 = bt800.1 then ((laws_eqInt64S.f k bt812.2.1 bt800.2.1).bind fun t817 => (if t817 = true then (laws_FnExactLeastMovedPeriod.j0 k bt800.1 bt800.2.1 bt800.2.2 bt812.1 bt812.2.1 bt812.2.2 (bt812.2.2 != bt800.2.2) l0_0 l0_1 bt805.1 bt805.2) else (laws_FnExactLeastMovedPeriod.j0 k bt800.1 bt800.2.1 bt800.2.2 bt812.1 bt812.2.1 bt812.2.2 true l0_0 l0_1 bt805.1 bt805.2))) else (laws_FnExactLeastMovedPeriod.j0 k bt800.1 bt800.2.1 bt800.2.2 bt812.1 bt812.2.1 bt812.2.2 true l0_0 l0_1 bt805.1 bt805.2)))))))) = some r := h
 clear h
 replace H := Option.bind_eq_some_iff.mp H
 obtain ⟨t793, A20, H⟩ := H
 replace H : (if t793 < 0 then (some true) else ((laws_toFlow.f k l0_0 l0_1).bind fun bt794 => ((spec_LeastMovedPeriod.f k bt794.1 bt794.2).bind fun bt800 => ((laws_toFlow.f k l0_0 l0_1).bind fun bt805 => ((impl_LeastMovedPeriod.f k bt805.1 bt805.2).bind fun bt812 => (if bt812.1 = bt800.1 then ((laws_eqInt64S.f k bt812.2.1 bt800.2.1).bind fun t817 => (if t817 = true then (laws_FnExactLeastMovedPeriod.j0 k bt800.1 bt800.2.1 bt800.2.2 bt812.1 bt812.2.1 bt812.2.2 (bt812.2.2 != bt800.2.2) l0_0 l0_1 bt805.1 bt805.2) else (laws_FnExactLeastMovedPeriod.j0 k bt800.1 bt800.2.1 bt800.2.2 bt812.1 bt812.2.1 bt812.2.2 true l0_0 l0_1 bt805.1 bt805.2))) else (laws_FnExactLeastMovedPeriod.j0 k bt800.1 bt800.2.1 bt800.2.2 bt812.1 bt812.2.1 bt812.2.2 true l0_0 l0_1 bt805.1 bt805.2))))))) = some r := H
 have A2 := Aside0.mk A20
 clear A20
 by_cases c3 : t793 < 0
 ·rw [if_pos c3] at H
  have c3b0 : decide (t793 < 0) = true := decide_eq_true c3
  clear c3
  obtain rfl := Option.some.inj H
  go_enter Try.func13, Try.ntmps13
  go_wp2_with (first | ((with_reducible refine gate_dst (N := 1) rfl ?_); refine box_event ?hg (N := 1) ?hd (cs := #[.slice A0_0 l0_0.length c0_0, .slice A0_1 l0_1.length c0_1]) (t := 31) ?hr ?_; (case hd => rfl); (case hg => rfl); (case hr => first | (go_simp; done) | (go_simp; rfl)); intro gb792 hg w4 hbox hb; have n0_ := Aside0.mk (below_step (by repeat (first | (with_reducible first | exact HB.out | apply below_alloc | apply pw_below_drewN | apply below_drew1) | exact HB.out)) hb); have n1_ := Aside0.mk (hbox); have n2_ := Aside0.mk ((by rw [hg]; exact (below_size (by repeat (first | (with_reducible first | exact HB.out | apply below_alloc | apply pw_below_drewN | apply below_drew1) | exact HB.out))) : w.heap.size ≤ gb792)); have n3_ := Aside0.mk ((by rw [hg]; exact (below_size (by repeat (first | (with_reducible first | exact HB.out | apply below_alloc | apply pw_below_drewN | apply below_drew1) | exact HB.out))) : w.heap.size ≤ gb792)); clear HB; have HB := n0_; have BK792 := n1_; have GW792 := n2_; have GE792 := n3_; clear n0_ n1_ n2_ n3_; clear hb hbox hg; have hcz5_0 : w4.cell? ⟨gb792, 0, none⟩ = some (.slice A0_0 l0_0.length c0_0) := (blk_cell BK792.out 0).trans rfl; have hcz5_1 : w4.cell? ⟨gb792, 1, none⟩ = some (.slice A0_1 l0_1.length c0_1) := (blk_cell BK792.out 1).trans rfl; have hfz5_0 := blk_frozen BK792.out 0; have hfz5_1 := blk_frozen BK792.out 1) | ((with_reducible refine gate_callee (f := 20) rfl ?_); refine goesL_ (some 19) rfl rfl Try.func20 (by kernel_rfl) rfl #[.agg #[.slice A0_0 l0_0.length c0_0, .slice A0_1 l0_1.length c0_1], .int .i64 1048576] rfl (by (try simp only [List.map_toArray, List.map_cons, List.map_nil]); first | done | rfl | (simp only [List.length_drop, List.length_take]; rfl)) ?_; (with_reducible refine (laws_szFlow.calls _ _ l0_0 _ _ l0_1 1048576 t793 _ ?side1 ?side2 ?side3 ?side4 A2.out).mono ?_); (case side1 => repeat (first | exact (Kd.C_below HR0_0.out HB.out) | (with_reducible refine Kd.C_alloc ?_ _) | (with_reducible refine Kd.C_drewN ?_ _) | (with_reducible refine Kd.C_drew ?_))); (case side2 => first | exact trivial | (exact HC0_0.out)); (case side3 => repeat (first | exact (Kd.C_below HR0_1.out HB.out) | (with_reducible refine Kd.C_alloc ?_ _) | (with_reducible refine Kd.C_drewN ?_ _) | (with_reducible refine Kd.C_drew ?_))); (case side4 => first | exact trivial | (exact HC0_1.out)); rintro e w6 ⟨rfl, hb⟩; refine ⟨_, rfl, ?_⟩; have n0_ := Aside0.mk (blk_below (g := gb792) (o := .cells #[.slice A0_0 l0_0.length c0_0, .slice A0_1 l0_1.length c0_1] 31 (0, 0)) (by (with_reducible repeat (first | refine blk_drewN ?_ _ | refine blk_drew ?_ | refine blk_alloc ?_ _)); exact BK792.out) hb); have n1_ := Aside0.mk (below_step (by repeat (first | (with_reducible first | exact HB.out | apply below_alloc | apply pw_below_drewN | apply below_drew1 | refine below_set ?_ GE792.out) | exact HB.out)) hb); clear BK792; clear HB; have BK792 := n0_; have HB := n1_; clear n0_ n1_; (try clear hb); (try clear hb2); (try clear hk); (try clear hi)))
  go_ret
  exact ⟨by first | rfl | (simp [errW_none, errW_some] <;> rfl) | (simp [*, errW_none, errW_some] <;> rfl), by repeat (first | (with_reducible first | exact HB.out | apply below_alloc | apply pw_below_drewN | apply below_drew1 | refine below_set ?_ GE792.out) | exact HB.out)⟩
 ·rw [if_neg c3] at H
  have c3b0 : decide (t793 < 0) = false := decide_eq_false c3
  clear c3
  replace H := Option.bind_eq_some_iff.mp H
  obtain ⟨⟨t794, t797⟩, A70, H⟩ := H
  replace H : ((spec_LeastMovedPeriod.f k t794 t797).bind fun bt800 => ((laws_toFlow.f k l0_0 l0_1).bind fun bt805 => ((impl_LeastMovedPeriod.f k bt805.1 bt805.2).bind fun bt812 => (if bt812.1 = bt800.1 then ((laws_eqInt64S.f k bt812.2.1 bt800.2.1).bind fun t817 => (if t817 = true then (laws_FnExactLeastMovedPeriod.j0 k bt800.1 bt800.2.1 bt800.2.2 bt812.1 bt812.2.1 bt812.2.2 (bt812.2.2 != bt800.2.2) l0_0 l0_1 bt805.1 bt805.2) else (laws_FnExactLeastMovedPeriod.j0 k bt800.1 bt800.2.1 bt800.2.2 bt812.1 bt812.2.1 bt812.2.2 true l0_0 l0_1 bt805.1 bt805.2))) else (laws_FnExactLeastMovedPeriod.j0 k bt800.1 bt800.2.1 bt800.2.2 bt812.1 bt812.2.1 bt812.2.2 true l0_0 l0_1 bt805.1 bt805.2))))) = some r := H
  have A7 := Aside0.mk A70
  clear A70
  replace H := Option.bind_eq_some_iff.mp H
  obtain ⟨⟨t800, t801, t804⟩, A80, H⟩ := H
  replace H : ((laws_toFlow.f k l0_0 l0_1).bind fun bt805 => ((impl_LeastMovedPeriod.f k bt805.1 bt805.2).bind fun bt812 => (if bt812.1 = t800 then ((laws_eqInt64S.f k bt812.2.1 t801).bind fun t817 => (if t817 = true then (laws_FnExactLeastMovedPeriod.j0 k t800 t801 t804 bt812.1 bt812.2.1 bt812.2.2 (bt812.2.2 != t804) l0_0 l0_1 bt805.1 bt805.2) else (laws_FnExactLeastMovedPeriod.j0 k t800 t801 t804 bt812.1 bt812.2.1 bt812.2.2 true l0_0 l0_1 bt805.1 bt805.2))) else (laws_FnExactLeastMovedPeriod.j0 k t800 t801 t804 bt812.1 bt812.2.1 bt812.2.2 true l0_0 l0_1 bt805.1 bt805.2)))) = some r := H
  have A8 := Aside0.mk A80
  clear A80
  replace H := Option.bind_eq_some_iff.mp H
  obtain ⟨⟨t805, t808⟩, A90, H⟩ := H
  replace H : ((impl_LeastMovedPeriod.f k t805 t808).bind fun bt812 => (if bt812.1 = t800 then ((laws_eqInt64S.f k bt812.2.1 t801).bind fun t817 => (if t817 = true then (laws_FnExactLeastMovedPeriod.j0 k t800 t801 t804 bt812.1 bt812.2.1 bt812.2.2 (bt812.2.2 != t804) l0_0 l0_1 t805 t808) else (laws_FnExactLeastMovedPeriod.j0 k t800 t801 t804 bt812.1 bt812.2.1 bt812.2.2 true l0_0 l0_1 t805 t808))) else (laws_FnExactLeastMovedPeriod.j0 k t800 t801 t804 bt812.1 bt812.2.1 bt812.2.2 true l0_0 l0_1 t805 t808))) = some r := H
  have A9 := Aside0.mk A90
  clear A90
  replace H := Option.bind_eq_some_iff.mp H
  obtain ⟨⟨t812, t813, t816⟩, A100, H⟩ := H
  replace H : (if t812 = t800 then ((laws_eqInt64S.f k t813 t801).bind fun t817 => (if t817 = true then (laws_FnExactLeastMovedPeriod.j0 k t800 t801 t804 t812 t813 t816 (t816 != t804) l0_0 l0_1 t805 t808) else (laws_FnExactLeastMovedPeriod.j0 k t800 t801 t804 t812 t813 t816 true l0_0 l0_1 t805 t808))) else (laws_FnExactLeastMovedPeriod.j0 k t800 t801 t804 t812 t813 t816 true l0_0 l0_1 t805 t808)) = some r := H
  have A10 := Aside0.mk A100
  clear A100
  have HC11 := Aside0.mk H
  clear H
  go_enter Try.func13, Try.ntmps13
  go_upto_region 8 with (first | ((with_reducible refine gate_dst (N := 1) rfl ?_); refine box_event ?hg (N := 1) ?hd (cs := #[.slice A0_0 l0_0.length c0_0, .slice A0_1 l0_1.length c0_1]) (t := 31) ?hr ?_; (case hd => rfl); (case hg => rfl); (case hr => first | (go_simp; done) | (go_simp; rfl)); intro gb792 hg w12 hbox hb; have n0_ := Aside0.mk (below_step (by repeat (first | (with_reducible first | exact HB.out | apply below_alloc | apply pw_below_drewN | apply below_drew1) | exact HB.out)) hb); have n1_ := Aside0.mk (hbox); have n2_ := Aside0.mk ((by rw [hg]; exact (below_size (by repeat (first | (with_reducible first | exact HB.out | apply below_alloc | apply pw_below_drewN | apply below_drew1) | exact HB.out))) : w.heap.size ≤ gb792)); have n3_ := Aside0.mk ((by rw [hg]; exact (below_size (by repeat (first | (with_reducible first | exact HB.out | apply below_alloc | apply pw_below_drewN | apply below_drew1) | exact HB.out))) : w.heap.size ≤ gb792)); clear HB; have HB := n0_; have BK792 := n1_; have GW792 := n2_; have GE792 := n3_; clear n0_ n1_ n2_ n3_; clear hb hbox hg; have hcz13_0 : w12.cell? ⟨gb792, 0, none⟩ = some (.slice A0_0 l0_0.length c0_0) := (blk_cell BK792.out 0).trans rfl; have hcz13_1 : w12.cell? ⟨gb792, 1, none⟩ = some (.slice A0_1 l0_1.length c0_1) := (blk_cell BK792.out 1).trans rfl; have hfz13_0 := blk_frozen BK792.out 0; have hfz13_1 := blk_frozen BK792.out 1) | ((with_reducible refine gate_callee (f := 20) rfl ?_); refine goesL_ (some 19) rfl rfl Try.func20 (by kernel_rfl) rfl #[.agg #[.slice A0_0 l0_0.length c0_0, .slice A0_1 l0_1.length c0_1], .int .i64 1048576] rfl (by (try simp only [List.map_toArray, List.map_cons, List.map_nil]); first | done | rfl | (simp only [List.length_drop, List.length_take]; rfl)) ?_; (with_reducible refine (laws_szFlow.calls _ _ l0_0 _ _ l0_1 1048576 t793 _ ?side1 ?side2 ?side3 ?side4 A2.out).mono ?_); (case side1 => repeat (first | exact (Kd.C_below HR0_0.out HB.out) | (with_reducible refine Kd.C_alloc ?_ _) | (with_reducible refine Kd.C_drewN ?_ _) | (with_reducible refine Kd.C_drew ?_))); (case side2 => first | exact trivial | (exact HC0_0.out)); (case side3 => repeat (first | exact (Kd.C_below HR0_1.out HB.out) | (with_reducible refine Kd.C_alloc ?_ _) | (with_reducible refine Kd.C_drewN ?_ _) | (with_reducible refine Kd.C_drew ?_))); (case side4 => first | exact trivial | (exact HC0_1.out)); rintro e w14 ⟨rfl, hb⟩; refine ⟨_, rfl, ?_⟩; have n0_ := Aside0.mk (blk_below (g := gb792) (o := .cells #[.slice A0_0 l0_0.length c0_0, .slice A0_1 l0_1.length c0_1] 31 (0, 0)) (by (with_reducible repeat (first | refine blk_drewN ?_ _ | refine blk_drew ?_ | refine blk_alloc ?_ _)); exact BK792.out) hb); have n1_ := Aside0.mk (below_step (by repeat (first | (with_reducible first | exact HB.out | apply below_alloc | apply pw_below_drewN | apply below_drew1 | refine below_set ?_ GE792.out) | exact HB.out)) hb); clear BK792; clear HB; have BK792 := n0_; have HB := n1_; clear n0_ n1_; (try clear hb); (try clear hb2); (try clear hk); (try clear hi); have hcz15_0 : w14.cell? ⟨gb792, 0, none⟩ = some (.slice A0_0 l0_0.length c0_0) := (blk_cell BK792.out 0).trans rfl; have hcz15_1 : w14.cell? ⟨gb792, 1, none⟩ = some (.slice A0_1 l0_1.length c0_1) := (blk_cell BK792.out 1).trans rfl; have hfz15_0 := blk_frozen BK792.out 0; have hfz15_1 := blk_frozen BK792.out 1) | ((with_reducible refine gate_callee (f := 22) rfl ?_); refine goesL_ (some 24) rfl rfl Try.func22 (by kernel_rfl) rfl #[.agg #[.slice A0_0 l0_0.length c0_0, .slice A0_1 l0_1.length c0_1]] rfl (by (try simp only [List.map_toArray, List.map_cons, List.map_nil]); first | done | rfl | (simp only [List.length_drop, List.length_take]; rfl)) ?_; (with_reducible refine (laws_toFlow.calls k _ _ l0_0 _ _ l0_1 t794 t797 _ ?side1 ?side2 ?side3 ?side4 A7.out).mono ?_); (case side1 => repeat (first | exact (Kd.C_below HR0_0.out HB.out) | (with_reducible refine Kd.C_alloc ?_ _) | (with_reducible refine Kd.C_drewN ?_ _) | (with_reducible refine Kd.C_drew ?_))); (case side2 => first | exact trivial | (exact HC0_0.out)); (case side3 => repeat (first | exact (Kd.C_below HR0_1.out HB.out) | (with_reducible refine Kd.C_alloc ?_ _) | (with_reducible refine Kd.C_drewN ?_ _) | (with_reducible refine Kd.C_drew ?_))); (case side4 => first | exact trivial | (exact HC0_1.out)); rintro e w16 ⟨v795, v798, rfl, ho0, ho1, hb⟩; refine ⟨_, rfl, ?_⟩; have n0_ := Aside0.mk (Kd.R_lower ho0 (below_size (by repeat (first | (with_reducible first | exact HB.out | apply below_alloc | apply pw_below_drewN | apply below_drew1 | refine below_set ?_ GE792.out) | exact HB.out)))); have n1_ := Aside0.mk (Kd.R_lower ho1 (below_size (by repeat (first | (with_reducible first | exact HB.out | apply below_alloc | apply pw_below_drewN | apply below_drew1 | refine below_set ?_ GE792.out) | exact HB.out)))); have n2_ := Aside0.mk (blk_below (g := gb792) (o := .cells #[.slice A0_0 l0_0.length c0_0, .slice A0_1 l0_1.length c0_1] 31 (0, 0)) (by (with_reducible repeat (first | refine blk_drewN ?_ _ | refine blk_drew ?_ | refine blk_alloc ?_ _)); exact BK792.out) hb); have n3_ := Aside0.mk (below_step (by repeat (first | (with_reducible first | exact HB.out | apply below_alloc | apply pw_below_drewN | apply below_drew1 | refine below_set ?_ GE792.out) | exact HB.out)) hb); clear BK792; clear HB; have HO796 := n0_; have HO799 := n1_; have BK792 := n2_; have HB := n3_; clear n0_ n1_ n2_ n3_; (try clear hb); (try clear hb2); (try clear hk); (try clear hi); (try clear ho0); (try clear ho1); obtain ⟨Ao17, co17, eo17⟩ := Kd.R_slice HO796.out; subst eo17; obtain ⟨Ao18, co18, eo18⟩ := Kd.R_slice HO799.out; subst eo18) | ((with_reducible refine gate_callee (f := 43) rfl ?_); refine goesL_ (some 25) rfl rfl Try.func43 (by kernel_rfl) rfl #[.agg #[.slice Ao17 t794.length co17, .slice Ao18 t797.length co18]] rfl (by (try simp only [List.map_toArray, List.map_cons, List.map_nil]); first | done | rfl | (simp only [List.length_drop, List.length_take]; rfl)) ?_; (with_reducible refine (spec_LeastMovedPeriod.calls k _ _ t794 _ _ t797 t800 t801 t804 _ ?side1 ?side2 ?side3 ?side4 A8.out).mono ?_); (case side1 => repeat (first | exact (Kd.R_reads' HO796.out).2.2 | (with_reducible refine Kd.C_alloc ?_ _) | (with_reducible refine Kd.C_drewN ?_ _) | (with_reducible refine Kd.C_drew ?_))); (case side2 => first | exact trivial | (exact (Kd.R_reads' HO796.out).2.1)); (case side3 => repeat (first | exact (Kd.R_reads' HO799.out).2.2 | (with_reducible refine Kd.C_alloc ?_ _) | (with_reducible refine Kd.C_drewN ?_ _) | (with_reducible refine Kd.C_drew ?_))); (case side4 => first | exact trivial | (exact (Kd.R_reads' HO799.out).2.1)); rintro e w19 ⟨v802, rfl, ho0, hb⟩; refine ⟨_, rfl, ?_⟩; have n0_ := Aside0.mk (Kd.R_elder' (by (with_reducible repeat (first | apply Kd.R_alloc | apply Kd.R_drewN | apply Kd.R_drew)); exact HO796.out) (Kd.R_base ho0) hb); have n1_ := Aside0.mk (Kd.R_below (by (with_reducible repeat (first | apply Kd.R_alloc | apply Kd.R_drewN | apply Kd.R_drew)); exact HO799.out) hb); have n2_ := Aside0.mk (Kd.R_lower (Kd.R_new' ho0 (Kd.R_lt (by (with_reducible repeat (first | apply Kd.R_alloc | apply Kd.R_drewN | apply Kd.R_drew)); exact HO796.out))) (below_size (by repeat (first | (with_reducible first | exact HB.out | apply below_alloc | apply pw_below_drewN | apply below_drew1 | refine below_set ?_ GE792.out) | exact HB.out)))); have n3_ := Aside0.mk (blk_below (g := gb792) (o := .cells #[.slice A0_0 l0_0.length c0_0, .slice A0_1 l0_1.length c0_1] 31 (0, 0)) (by (with_reducible repeat (first | refine blk_drewN ?_ _ | refine blk_drew ?_ | refine blk_alloc ?_ _)); exact BK792.out) hb); have n4_ := Aside0.mk (below_step (by repeat (first | (with_reducible first | exact HB.out | apply below_alloc | apply pw_below_drewN | apply below_drew1 | refine below_set ?_ GE792.out) | exact HB.out)) hb); clear HO796; clear HO799; clear BK792; clear HB; have HO796 := n0_; have HO799 := n1_; have HO803 := n2_; have BK792 := n3_; have HB := n4_; clear n0_ n1_ n2_ n3_ n4_; (try clear hb); (try clear hb2); (try clear hk); (try clear hi); (try clear ho0); have hcz20_0 : w19.cell? ⟨gb792, 0, none⟩ = some (.slice A0_0 l0_0.length c0_0) := (blk_cell BK792.out 0).trans rfl; have hcz20_1 : w19.cell? ⟨gb792, 1, none⟩ = some (.slice A0_1 l0_1.length c0_1) := (blk_cell BK792.out 1).trans rfl; have hfz20_0 := blk_frozen BK792.out 0; have hfz20_1 := blk_frozen BK792.out 1) | ((with_reducible refine gate_callee (f := 22) rfl ?_); refine goesL_ (some 30) rfl rfl Try.func22 (by kernel_rfl) rfl #[.agg #[.slice A0_0 l0_0.length c0_0, .slice A0_1 l0_1.length c0_1]] rfl (by (try simp only [List.map_toArray, List.map_cons, List.map_nil]); first | done | rfl | (simp only [List.length_drop, List.length_take]; rfl)) ?_; (with_reducible refine (laws_toFlow.calls k _ _ l0_0 _ _ l0_1 t805 t808 _ ?side1 ?side2 ?side3 ?side4 A9.out).mono ?_); (case side1 => repeat (first | exact (Kd.C_below HR0_0.out HB.out) | (with_reducible refine Kd.C_alloc ?_ _) | (with_reducible refine Kd.C_drewN ?_ _) | (with_reducible refine Kd.C_drew ?_))); (case side2 => first | exact trivial | (exact HC0_0.out)); (case side3 => repeat (first | exact (Kd.C_below HR0_1.out HB.out) | (with_reducible refine Kd.C_alloc ?_ _) | (with_reducible refine Kd.C_drewN ?_ _) | (with_reducible refine Kd.C_drew ?_))); (case side4 => first | exact trivial | (exact HC0_1.out)); rintro e w21 ⟨v806, v809, rfl, ho0, ho1, hb⟩; refine ⟨_, rfl, ?_⟩; have n0_ := Aside0.mk (Kd.R_elder' (by (with_reducible repeat (first | apply Kd.R_alloc | apply Kd.R_drewN | apply Kd.R_drew)); exact HO796.out) (Kd.R_base ho0) hb); have n1_ := Aside0.mk (Kd.R_elder' (by (with_reducible repeat (first | apply Kd.R_alloc | apply Kd.R_drewN | apply Kd.R_drew)); exact HO799.out) (Kd.R_base ho1) hb); have n2_ := Aside0.mk (Kd.R_elder' (by (with_reducible repeat (first | apply Kd.R_alloc | apply Kd.R_drewN | apply Kd.R_drew)); exact HO803.out) (Kd.R_base ho0) hb); have n3_ := Aside0.mk (Kd.R_lower (Kd.R_new' (Kd.R_new' ho0 (Kd.R_lt (by (with_reducible repeat (first | apply Kd.R_alloc | apply Kd.R_drewN | apply Kd.R_drew)); exact HO796.out))) (Kd.R_lt (by (with_reducible repeat (first | apply Kd.R_alloc | apply Kd.R_drewN | apply Kd.R_drew)); exact HO803.out))) (below_size (by repeat (first | (with_reducible first | exact HB.out | apply below_alloc | apply pw_below_drewN | apply below_drew1 | refine below_set ?_ GE792.out) | exact HB.out)))); have n4_ := Aside0.mk (Kd.R_lower (Kd.R_new' ho1 (Kd.R_lt (by (with_reducible repeat (first | apply Kd.R_alloc | apply Kd.R_drewN | apply Kd.R_drew)); exact HO799.out))) (below_size (by repeat (first | (with_reducible first | exact HB.out | apply below_alloc | apply pw_below_drewN | apply below_drew1 | refine below_set ?_ GE792.out) | exact HB.out)))); have n5_ := Aside0.mk (blk_below (g := gb792) (o := .cells #[.slice A0_0 l0_0.length c0_0, .slice A0_1 l0_1.length c0_1] 31 (0, 0)) (by (with_reducible repeat (first | refine blk_drewN ?_ _ | refine blk_drew ?_ | refine blk_alloc ?_ _)); exact BK792.out) hb); have n6_ := Aside0.mk (below_step (by repeat (first | (with_reducible first | exact HB.out | apply below_alloc | apply pw_below_drewN | apply below_drew1 | refine below_set ?_ GE792.out) | exact HB.out)) hb); clear HO796; clear HO799; clear HO803; clear BK792; clear HB; have HO796 := n0_; have HO799 := n1_; have HO803 := n2_; have HO807 := n3_; have HO810 := n4_; have BK792 := n5_; have HB := n6_; clear n0_ n1_ n2_ n3_ n4_ n5_ n6_; (try clear hb); (try clear hb2); (try clear hk); (try clear hi); (try clear ho0); (try clear ho1)) | ((with_reducible refine gate_dst (N := 7) rfl ?_); refine box_event ?hg (N := 7) ?hd (cs := #[.slice none 0 0, .slice none 0 0]) (t := 36) ?hr ?_; (case hd => rfl); (case hg => rfl); (case hr => first | (go_simp; done) | (go_simp; rfl)); intro gb811 hg w22 hbox hb; have n0_ := Aside0.mk (Kd.R_below (by (with_reducible repeat (first | apply Kd.R_alloc | apply Kd.R_drewN | apply Kd.R_drew)); exact HO796.out) hb); have n1_ := Aside0.mk (Kd.R_below (by (with_reducible repeat (first | apply Kd.R_alloc | apply Kd.R_drewN | apply Kd.R_drew)); exact HO799.out) hb); have n2_ := Aside0.mk (Kd.R_below (by (with_reducible repeat (first | apply Kd.R_alloc | apply Kd.R_drewN | apply Kd.R_drew)); exact HO803.out) hb); have n3_ := Aside0.mk (Kd.R_below (by (with_reducible repeat (first | apply Kd.R_alloc | apply Kd.R_drewN | apply Kd.R_drew)); exact HO807.out) hb); have n4_ := Aside0.mk (Kd.R_below (by (with_reducible repeat (first | apply Kd.R_alloc | apply Kd.R_drewN | apply Kd.R_drew)); exact HO810.out) hb); have n5_ := Aside0.mk (blk_below (g := gb792) (o := .cells #[.slice A0_0 l0_0.length c0_0, .slice A0_1 l0_1.length c0_1] 31 (0, 0)) (by (with_reducible repeat (first | refine blk_drewN ?_ _ | refine blk_drew ?_ | refine blk_alloc ?_ _)); exact BK792.out) hb); have n6_ := Aside0.mk (below_step (by repeat (first | (with_reducible first | exact HB.out | apply below_alloc | apply pw_below_drewN | apply below_drew1 | refine below_set ?_ GE792.out) | exact HB.out)) hb); have n7_ := Aside0.mk (hbox); have n8_ := Aside0.mk ((by rw [hg]; exact (below_size (by repeat (first | (with_reducible first | exact HB.out | apply below_alloc | apply pw_below_drewN | apply below_drew1 | refine below_set ?_ GE792.out) | exact HB.out))) : w.heap.size ≤ gb811)); have n9_ := Aside0.mk ((by rw [hg]; exact (below_size (by repeat (first | (with_reducible first | exact HB.out | apply below_alloc | apply pw_below_drewN | apply below_drew1 | refine below_set ?_ GE792.out) | exact HB.out))) : w.heap.size ≤ gb811)); have n10_ := Aside0.mk ((by rw [hg]; exact Nat.ne_of_lt (blk_lt (g := gb792) (o := .cells #[.slice A0_0 l0_0.length c0_0, .slice A0_1 l0_1.length c0_1] 31 (0, 0)) (by (with_reducible repeat (first | refine blk_drewN ?_ _ | refine blk_drew ?_ | refine blk_alloc ?_ _)); exact BK792.out)) : gb792 ≠ gb811)); have n11_ := Aside0.mk ((by rw [hg]; exact Nat.ne_of_gt (blk_lt (g := gb792) (o := .cells #[.slice A0_0 l0_0.length c0_0, .slice A0_1 l0_1.length c0_1] 31 (0, 0)) (by (with_reducible repeat (first | refine blk_drewN ?_ _ | refine blk_drew ?_ | refine blk_alloc ?_ _)); exact BK792.out)) : gb811 ≠ gb792)); clear HO796; clear HO799; clear HO803; clear HO807; clear HO810; clear BK792; clear HB; have HO796 := n0_; have HO799 := n1_; have HO803 := n2_; have HO807 := n3_; have HO810 := n4_; have BK792 := n5_; have HB := n6_; have BK811 := n7_; have GW811 := n8_; have GE811 := n9_; have NB792_811 := n10_; have NB811_792 := n11_; clear n0_ n1_ n2_ n3_ n4_ n5_ n6_ n7_ n8_ n9_ n10_ n11_; clear hb hbox hg; obtain ⟨Ao23, co23, eo23⟩ := Kd.R_slice HO807.out; subst eo23; have hnb24 := NB811_792.out; have hnc24 := NB792_811.out; have hcz25_0 : w22.cell? ⟨gb811, 0, none⟩ = some (.slice none 0 0) := (blk_cell BK811.out 0).trans rfl; have hcz25_1 : w22.cell? ⟨gb811, 1, none⟩ = some (.slice none 0 0) := (blk_cell BK811.out 1).trans rfl; have hfz25_0 := blk_frozen BK811.out 0; have hfz25_1 := blk_frozen BK811.out 1; obtain ⟨Ao26, co26, eo26⟩ := Kd.R_slice HO810.out; subst eo26) | ((with_reducible refine gate_callee (f := 44) rfl ?_); refine goesL_ (some 33) rfl rfl Try.func44 (by kernel_rfl) rfl #[.agg #[.slice Ao23 t805.length co23, .slice Ao26 t808.length co26]] rfl (by (try simp only [List.map_toArray, List.map_cons, List.map_nil]); first | done | rfl | (simp only [List.length_drop, List.length_take]; rfl)) ?_; (with_reducible refine (impl_LeastMovedPeriod.calls k _ _ t805 _ _ t808 t812 t813 t816 _ ?side1 ?side2 ?side3 ?side4 A10.out).mono ?_); (case side1 => refine (Kd.R_reads' (e := 2) (base := w.heap.size) (ok := fun k_ => ((True ∧ some k_ ≠ (.slice Ao17 t794.length co17 : Value).ownBlock) ∧ some k_ ≠ (v802 : Value).ownBlock)) (n := t805.length) (c := co23) ?_).2.2; exact (by (with_reducible repeat (first | apply Kd.R_alloc | apply Kd.R_drewN | apply Kd.R_drew)); exact (Kd.R_mono (Kd.R_far (p := ⟨gb811, 1, none⟩) (Kd.R_far (p := ⟨gb811, 0, none⟩) (Kd.R_types HO807.out BK811.out (by decide)) (fun _ hk => hk.2) (.slice Ao23 t805.length co23)) (fun _ hk => hk.2) (.slice Ao26 t808.length co26)) (fun _ h_ => h_.1)))); (case side2 => first | exact trivial | (exact (Kd.R_reads' HO807.out).2.1)); (case side3 => refine (Kd.R_reads' (e := 55) (base := w.heap.size) (ok := fun k_ => (True ∧ some k_ ≠ (.slice Ao18 t797.length co18 : Value).ownBlock)) (n := t808.length) (c := co26) ?_).2.2; exact (by (with_reducible repeat (first | apply Kd.R_alloc | apply Kd.R_drewN | apply Kd.R_drew)); exact (Kd.R_mono (Kd.R_far (p := ⟨gb811, 1, none⟩) (Kd.R_far (p := ⟨gb811, 0, none⟩) (Kd.R_types HO810.out BK811.out (by decide)) (fun _ hk => hk.2) (.slice Ao23 t805.length co23)) (fun _ hk => hk.2) (.slice Ao26 t808.length co26)) (fun _ h_ => h_.1)))); (case side4 => first | exact trivial | (exact (Kd.R_reads' HO810.out).2.1)); rintro e w27 ⟨v814, rfl, ho0, hb⟩; refine ⟨_, rfl, ?_⟩; have n0_ := Aside0.mk (Kd.R_elder' (by (with_reducible repeat (first | apply Kd.R_alloc | apply Kd.R_drewN | apply Kd.R_drew)); exact (Kd.R_mono (Kd.R_far (p := ⟨gb811, 1, none⟩) (Kd.R_far (p := ⟨gb811, 0, none⟩) (Kd.R_types HO796.out BK811.out (by decide)) (fun _ hk => hk.2) (.slice Ao23 t805.length co23)) (fun _ hk => hk.2) (.slice Ao26 t808.length co26)) (fun _ h_ => h_.1))) (Kd.R_base ho0) hb); have n1_ := Aside0.mk (Kd.R_below (by (with_reducible repeat (first | apply Kd.R_alloc | apply Kd.R_drewN | apply Kd.R_drew)); exact (Kd.R_mono (Kd.R_far (p := ⟨gb811, 1, none⟩) (Kd.R_far (p := ⟨gb811, 0, none⟩) (Kd.R_types HO799.out BK811.out (by decide)) (fun _ hk => hk.2) (.slice Ao23 t805.length co23)) (fun _ hk => hk.2) (.slice Ao26 t808.length co26)) (fun _ h_ => h_.1))) hb); have n2_ := Aside0.mk (Kd.R_elder' (by (with_reducible repeat (first | apply Kd.R_alloc | apply Kd.R_drewN | apply Kd.R_drew)); exact (Kd.R_mono (Kd.R_far (p := ⟨gb811, 1, none⟩) (Kd.R_far (p := ⟨gb811, 0, none⟩) (Kd.R_types HO803.out BK811.out (by decide)) (fun _ hk => hk.2) (.slice Ao23 t805.length co23)) (fun _ hk => hk.2) (.slice Ao26 t808.length co26)) (fun _ h_ => h_.1))) (Kd.R_base ho0) hb); have n3_ := Aside0.mk (Kd.R_elder' (by (with_reducible repeat (first | apply Kd.R_alloc | apply Kd.R_drewN | apply Kd.R_drew)); exact (Kd.R_mono (Kd.R_far (p := ⟨gb811, 1, none⟩) (Kd.R_far (p := ⟨gb811, 0, none⟩) (Kd.R_types HO807.out BK811.out (by decide)) (fun _ hk => hk.2) (.slice Ao23 t805.length co23)) (fun _ hk => hk.2) (.slice Ao26 t808.length co26)) (fun _ h_ => h_.1))) (Kd.R_base ho0) hb); have n4_ := Aside0.mk (Kd.R_below (by (with_reducible repeat (first | apply Kd.R_alloc | apply Kd.R_drewN | apply Kd.R_drew)); exact (Kd.R_mono (Kd.R_far (p := ⟨gb811, 1, none⟩) (Kd.R_far (p := ⟨gb811, 0, none⟩) (Kd.R_types HO810.out BK811.out (by decide)) (fun _ hk => hk.2) (.slice Ao23 t805.length co23)) (fun _ hk => hk.2) (.slice Ao26 t808.length co26)) (fun _ h_ => h_.1))) hb); have n5_ := Aside0.mk (Kd.R_lower (Kd.R_new' (Kd.R_new' (Kd.R_new' ho0 (Kd.R_lt (by (with_reducible repeat (first | apply Kd.R_alloc | apply Kd.R_drewN | apply Kd.R_drew)); exact (Kd.R_mono (Kd.R_far (p := ⟨gb811, 1, none⟩) (Kd.R_far (p := ⟨gb811, 0, none⟩) (Kd.R_types HO796.out BK811.out (by decide)) (fun _ hk => hk.2) (.slice Ao23 t805.length co23)) (fun _ hk => hk.2) (.slice Ao26 t808.length co26)) (fun _ h_ => h_.1))))) (Kd.R_lt (by (with_reducible repeat (first | apply Kd.R_alloc | apply Kd.R_drewN | apply Kd.R_drew)); exact (Kd.R_mono (Kd.R_far (p := ⟨gb811, 1, none⟩) (Kd.R_far (p := ⟨gb811, 0, none⟩) (Kd.R_types HO803.out BK811.out (by decide)) (fun _ hk => hk.2) (.slice Ao23 t805.length co23)) (fun _ hk => hk.2) (.slice Ao26 t808.length co26)) (fun _ h_ => h_.1))))) (Kd.R_lt (by (with_reducible repeat (first | apply Kd.R_alloc | apply Kd.R_drewN | apply Kd.R_drew)); exact (Kd.R_mono (Kd.R_far (p := ⟨gb811, 1, none⟩) (Kd.R_far (p := ⟨gb811, 0, none⟩) (Kd.R_types HO807.out BK811.out (by decide)) (fun _ hk => hk.2) (.slice Ao23 t805.length co23)) (fun _ hk => hk.2) (.slice Ao26 t808.length co26)) (fun _ h_ => h_.1))))) (below_size (by repeat (first | (with_reducible first | exact HB.out | apply below_alloc | apply pw_below_drewN | apply below_drew1 | refine below_set ?_ GE792.out | refine below_set ?_ GE811.out) | exact HB.out)))); have n6_ := Aside0.mk (blk_below (g := gb792) (o := .cells #[.slice A0_0 l0_0.length c0_0, .slice A0_1 l0_1.length c0_1] 31 (0, 0)) (by (with_reducible repeat (first | refine blk_drewN ?_ _ | refine blk_drew ?_ | refine blk_alloc ?_ _)); refine blk_far ?_ NB792_811.out _; (with_reducible repeat (first | refine blk_drewN ?_ _ | refine blk_drew ?_ | refine blk_alloc ?_ _)); refine blk_far ?_ NB792_811.out _; (with_reducible repeat (first | refine blk_drewN ?_ _ | refine blk_drew ?_ | refine blk_alloc ?_ _)); exact BK792.out) hb); have n7_ := Aside0.mk (blk_below (g := gb811) (o := .cells #[.slice Ao23 t805.length co23, .slice Ao26 t808.length co26] 36 (0, 0)) (by (with_reducible repeat (first | refine blk_drewN ?_ _ | refine blk_drew ?_ | refine blk_alloc ?_ _)); refine blk_put (cs := #[.slice Ao23 t805.length co23, .slice none 0 0]) ?_ 1 _ rfl; (with_reducible repeat (first | refine blk_drewN ?_ _ | refine blk_drew ?_ | refine blk_alloc ?_ _)); refine blk_put (cs := #[.slice none 0 0, .slice none 0 0]) ?_ 0 _ rfl; (with_reducible repeat (first | refine blk_drewN ?_ _ | refine blk_drew ?_ | refine blk_alloc ?_ _)); exact BK811.out) hb); have n8_ := Aside0.mk (below_step (by repeat (first | (with_reducible first | exact HB.out | apply below_alloc | apply pw_below_drewN | apply below_drew1 | refine below_set ?_ GE792.out | refine below_set ?_ GE811.out) | exact HB.out)) hb); clear HO796; clear HO799; clear HO803; clear HO807; clear HO810; clear BK792; clear BK811; clear HB; have HO796 := n0_; have HO799 := n1_; have HO803 := n2_; have HO807 := n3_; have HO810 := n4_; have HO815 := n5_; have BK792 := n6_; have BK811 := n7_; have HB := n8_; clear n0_ n1_ n2_ n3_ n4_ n5_ n6_ n7_ n8_; (try clear hb); (try clear hb2); (try clear hk); (try clear hi); (try clear ho0)))
  (try simp only [Act.put, List.setIfInBounds_toArray, List.set_cons_zero, List.set_cons_succ])
  go_cut [50] (fun v50 wc => ∃ (kq : Nat) (x50_10 : Bool), v50 = .bool x50_10 ∧ Aside0 (laws_FnExactLeastMovedPeriod.j0 kq t800 t801 t804 t812 t813 t816 x50_10 l0_0 l0_1 t805 t808 = some r) ∧ Aside0 (kq ≤ k) ∧ Aside0 (Kd.R (Kd.int .i64) 2 wc w.heap.size (fun k_ => some k_ ≠ (v814 : Value).ownBlock ∧ some k_ ≠ ((.slice Ao23 t805.length co23) : Value).ownBlock) v802 t801) ∧ Aside0 (Kd.R (Kd.int .i64) 2 wc w.heap.size (fun k_ => some k_ ≠ (v802 : Value).ownBlock ∧ some k_ ≠ ((.slice Ao23 t805.length co23) : Value).ownBlock) v814 t813) ∧ Aside0 (Kd.R (Kd.int .i64) 2 wc w.heap.size (fun k_ => some k_ ≠ (v802 : Value).ownBlock ∧ some k_ ≠ (v814 : Value).ownBlock) (.slice Ao23 t805.length co23) t805) ∧ Aside0 (Kd.R k55 55 wc w.heap.size (fun _ => True) (.slice Ao26 t808.length co26) t808) ∧ Aside0 (wc.heap[gb792]? = some (.cells #[(.slice A0_0 l0_0.length c0_0), (.slice A0_1 l0_1.length c0_1)] 31 (0, 0))) ∧ Aside0 (wc.heap[gb811]? = some (.cells #[(.slice Ao23 t805.length co23), (.slice Ao26 t808.length co26)] 36 (0, 0))) ∧ Aside0 (Below w.heap.size w wc))
  case first =>
   have H := HC11.out
   clear HC11
   by_cases c28 : t812 = t800
   ·rw [if_pos c28] at H
    have c28b0 : (t812 == t800) = true := beq_iff_eq.mpr c28
    have c28b1 : (t812 != t800) = false := bne_eq_false_iff_eq.mpr c28
    clear c28
    (first | rw [c28b0] | (simp only [i64_w, i32_w]; rw [c28b0]) | skip)
    replace H := Option.bind_eq_some_iff.mp H
    obtain ⟨t817, A290, H⟩ := H
    replace H : (if t817 = true then (laws_FnExactLeastMovedPeriod.j0 k t800 t801 t804 t812 t813 t816 (t816 != t804) l0_0 l0_1 t805 t808) else (laws_FnExactLeastMovedPeriod.j0 k t800 t801 t804 t812 t813 t816 true l0_0 l0_1 t805 t808)) = some r := H
    have A29 := Aside0.mk A290
    clear A290
    by_cases c30 : t817 = true
    ·subst c30
     have H1 : (laws_FnExactLeastMovedPeriod.j0 k t800 t801 t804 t812 t813 t816 (t816 != t804) l0_0 l0_1 t805 t808) = some r := by rw [if_pos rfl] at H; exact H
     clear H
     have H := H1
     clear H1
     have H' := Aside0.mk H
     clear H
     obtain ⟨Ao31, co31, eo31⟩ := Kd.R_slice HO815.out
     subst eo31
     obtain ⟨Ao32, co32, eo32⟩ := Kd.R_slice HO803.out
     subst eo32
     go_wp2_with (first | (go_at_call 17; (with_reducible refine (laws_eqInt64S.calls k _ _ t813 _ _ t801 true _ ?side1 ?side2 ?side3 ?side4 A29.out).mono ?_); (case side1 => repeat (first | exact (Kd.R_reads' HO815.out).2.2 | (with_reducible refine Kd.C_alloc ?_ _) | (with_reducible refine Kd.C_drewN ?_ _) | (with_reducible refine Kd.C_drew ?_))); (case side2 => first | exact trivial | (exact (Kd.R_reads' HO815.out).2.1)); (case side3 => repeat (first | exact (Kd.R_reads' HO803.out).2.2 | (with_reducible refine Kd.C_alloc ?_ _) | (with_reducible refine Kd.C_drewN ?_ _) | (with_reducible refine Kd.C_drew ?_))); (case side4 => first | exact trivial | (exact (Kd.R_reads' HO803.out).2.1)); rintro e w' ⟨rfl, ⟨nd, rfl⟩⟩))
     go_meet
     case rel => exact ⟨_, ((t816 != t804)), (by first | rfl | (simp; done) | (simp [*]; done)), H', ⟨by first | omega | exact Nat.le_refl _⟩, ⟨by (with_reducible repeat (first | apply Kd.R_alloc | apply Kd.R_drewN | apply Kd.R_drew)); exact Kd.R_mono HO803.out (fun _ hk => ⟨hk.2, hk.1.2⟩)⟩, ⟨by (with_reducible repeat (first | apply Kd.R_alloc | apply Kd.R_drewN | apply Kd.R_drew)); exact Kd.R_mono HO815.out (fun _ hk => ⟨hk.1.2, hk.2⟩)⟩, ⟨by (with_reducible repeat (first | apply Kd.R_alloc | apply Kd.R_drewN | apply Kd.R_drew)); exact Kd.R_mono HO807.out (fun _ hk => ⟨hk.1.2, hk.2⟩)⟩, ⟨by (with_reducible repeat (first | apply Kd.R_alloc | apply Kd.R_drewN | apply Kd.R_drew)); exact Kd.R_mono HO810.out (fun _ hk => trivial)⟩, ⟨by (with_reducible repeat (first | refine blk_drewN ?_ _ | refine blk_drew ?_ | refine blk_alloc ?_ _)); exact BK792.out⟩, ⟨by (with_reducible repeat (first | refine blk_drewN ?_ _ | refine blk_drew ?_ | refine blk_alloc ?_ _)); exact BK811.out⟩, ⟨by repeat (first | (with_reducible first | exact HB.out | apply below_alloc | apply pw_below_drewN | apply below_drew1 | refine below_set ?_ GE792.out | refine below_set ?_ GE811.out) | exact HB.out)⟩⟩
    ·replace c30 := Bool.eq_false_iff.mpr c30
     subst c30
     have H1 : (laws_FnExactLeastMovedPeriod.j0 k t800 t801 t804 t812 t813 t816 true l0_0 l0_1 t805 t808) = some r := by rw [if_neg (show ¬ (false = true) by decide)] at H; exact H
     clear H
     have H := H1
     clear H1
     have H' := Aside0.mk H
     clear H
     obtain ⟨Ao33, co33, eo33⟩ := Kd.R_slice HO815.out
     subst eo33
     obtain ⟨Ao34, co34, eo34⟩ := Kd.R_slice HO803.out
     subst eo34
     go_wp2_with (first | (go_at_call 17; (with_reducible refine (laws_eqInt64S.calls k _ _ t813 _ _ t801 false _ ?side1 ?side2 ?side3 ?side4 A29.out).mono ?_); (case side1 => repeat (first | exact (Kd.R_reads' HO815.out).2.2 | (with_reducible refine Kd.C_alloc ?_ _) | (with_reducible refine Kd.C_drewN ?_ _) | (with_reducible refine Kd.C_drew ?_))); (case side2 => first | exact trivial | (exact (Kd.R_reads' HO815.out).2.1)); (case side3 => repeat (first | exact (Kd.R_reads' HO803.out).2.2 | (with_reducible refine Kd.C_alloc ?_ _) | (with_reducible refine Kd.C_drewN ?_ _) | (with_reducible refine Kd.C_drew ?_))); (case side4 => first | exact trivial | (exact (Kd.R_reads' HO803.out).2.1)); rintro e w' ⟨rfl, ⟨nd, rfl⟩⟩))
     go_meet
     case rel => exact ⟨_, (true), (by first | rfl | (simp; done) | (simp [*]; done)), H', ⟨by first | omega | exact Nat.le_refl _⟩, ⟨by (with_reducible repeat (first | apply Kd.R_alloc | apply Kd.R_drewN | apply Kd.R_drew)); exact Kd.R_mono HO803.out (fun _ hk => ⟨hk.2, hk.1.2⟩)⟩, ⟨by (with_reducible repeat (first | apply Kd.R_alloc | apply Kd.R_drewN | apply Kd.R_drew)); exact Kd.R_mono HO815.out (fun _ hk => ⟨hk.1.2, hk.2⟩)⟩, ⟨by (with_reducible repeat (first | apply Kd.R_alloc | apply Kd.R_drewN | apply Kd.R_drew)); exact Kd.R_mono HO807.out (fun _ hk => ⟨hk.1.2, hk.2⟩)⟩, ⟨by (with_reducible repeat (first | apply Kd.R_alloc | apply Kd.R_drewN | apply Kd.R_drew)); exact Kd.R_mono HO810.out (fun _ hk => trivial)⟩, ⟨by (with_reducible repeat (first | refine blk_drewN ?_ _ | refine blk_drew ?_ | refine blk_alloc ?_ _)); exact BK792.out⟩, ⟨by (with_reducible repeat (first | refine blk_drewN ?_ _ | refine blk_drew ?_ | refine blk_alloc ?_ _)); exact BK811.out⟩, ⟨by repeat (first | (with_reducible first | exact HB.out | apply below_alloc | apply pw_below_drewN | apply below_drew1 | refine below_set ?_ GE792.out | refine below_set ?_ GE811.out) | exact HB.out)⟩⟩
   ·rw [if_neg c28] at H
    have c28b0 : (t812 == t800) = false := beq_eq_false_iff_ne.mpr c28
    have c28b1 : (t812 != t800) = true := bne_iff_ne.mpr c28
    (first | rw [c28b0] | (simp only [i64_w, i32_w]; rw [c28b0]) | skip)
    have H' := Aside0.mk H
    clear H
    go_wp2
    go_meet
    case rel => exact ⟨_, (true), (by first | rfl | (simp; done) | (simp [*]; done)), H', ⟨by first | omega | exact Nat.le_refl _⟩, ⟨by (with_reducible repeat (first | apply Kd.R_alloc | apply Kd.R_drewN | apply Kd.R_drew)); exact Kd.R_mono HO803.out (fun _ hk => ⟨hk.2, hk.1.2⟩)⟩, ⟨by (with_reducible repeat (first | apply Kd.R_alloc | apply Kd.R_drewN | apply Kd.R_drew)); exact Kd.R_mono HO815.out (fun _ hk => ⟨hk.1.2, hk.2⟩)⟩, ⟨by (with_reducible repeat (first | apply Kd.R_alloc | apply Kd.R_drewN | apply Kd.R_drew)); exact Kd.R_mono HO807.out (fun _ hk => ⟨hk.1.2, hk.2⟩)⟩, ⟨by (with_reducible repeat (first | apply Kd.R_alloc | apply Kd.R_drewN | apply Kd.R_drew)); exact Kd.R_mono HO810.out (fun _ hk => trivial)⟩, ⟨by (with_reducible repeat (first | refine blk_drewN ?_ _ | refine blk_drew ?_ | refine blk_alloc ?_ _)); exact BK792.out⟩, ⟨by (with_reducible repeat (first | refine blk_drewN ?_ _ | refine blk_drew ?_ | refine blk_alloc ?_ _)); exact BK811.out⟩, ⟨by repeat (first | (with_reducible first | exact HB.out | apply below_alloc | apply pw_below_drewN | apply below_drew1 | refine below_set ?_ GE792.out | refine below_set ?_ GE811.out) | exact HB.out)⟩⟩
  case rest =>
   clear HC11
   try clear c1
   try clear c2
   try clear p2
   try clear c3
   try clear c3b0
   try clear c4
   try clear c13
   try clear c20
   try clear c22
   try clear c24
   try clear c28
   try clear c28b0
   try clear c28b1
   try clear c30
   try clear hcz13_0
   try clear hcz13_1
   try clear hcz15_0
   try clear hcz15_1
   try clear hcz20_0
   try clear hcz20_1
   try clear hcz25_0
   try clear hcz25_1
   try clear hcz5_0
   try clear hcz5_1
   try clear hfz13_0
   try clear hfz13_1
   try clear hfz15_0
   try clear hfz15_1
   try clear hfz20_0
   try clear hfz20_1
   try clear hfz25_0
   try clear hfz25_1
   try clear hfz5_0
   try clear hfz5_1
   obtain ⟨kq, x50_10, rfl, HA, HJ10, HO_5, HO_9, HO_812000, HO_812001, BK792, BK811, HB⟩ := hcut
   cases kq with
   | zero => exact absurd HA.out (by simp [laws_FnExactLeastMovedPeriod.j0])
   | succ kj10 =>
    have H := HA.out
    clear HA
    simp only [laws_FnExactLeastMovedPeriod.j0] at H
    by_cases c35 : x50_10 = true
    ·subst c35
     have H1 : (some false) = some r := by rw [if_pos rfl] at H; exact H
     clear H
     have H := H1
     clear H1
     exact absurd (Option.some.inj (H.trans (congrArg some HRT.out))) (by decide)
    ·replace c35 := Bool.eq_false_iff.mpr c35
     subst c35
     have H1 : ((laws_toFlow.f kj10 l0_0 l0_1).bind fun bt818 => ((laws_eqFlow.f kj10 t805 t808 bt818.1 bt818.2).bind fun t824 => (if t824 = true then ((laws_markFlow.f kj10 t805 t808 1).bind fun bt825 => (if bt825.1 < 0 then (laws_FnExactLeastMovedPeriod.j1 kj10 t800 t801 t804 t813 true l0_0 l0_1) else (if t812 = t800 then ((laws_eqInt64S.f kj10 t813 t801).bind fun t828 => (if t828 = true then (laws_FnExactLeastMovedPeriod.j1 kj10 t800 t801 t804 t813 (t816 != t804) l0_0 l0_1) else (laws_FnExactLeastMovedPeriod.j1 kj10 t800 t801 t804 t813 true l0_0 l0_1))) else (laws_FnExactLeastMovedPeriod.j1 kj10 t800 t801 t804 t813 true l0_0 l0_1)))) else (some false)))) = some r := by rw [if_neg (show ¬ (false = true) by decide)] at H; exact H
     clear H
     have H := H1
     clear H1
     replace H := Option.bind_eq_some_iff.mp H
     obtain ⟨⟨t818, t821⟩, A360, H⟩ := H
     replace H : ((laws_eqFlow.f kj10 t805 t808 t818 t821).bind fun t824 => (if t824 = true then ((laws_markFlow.f kj10 t805 t808 1).bind fun bt825 => (if bt825.1 < 0 then (laws_FnExactLeastMovedPeriod.j1 kj10 t800 t801 t804 t813 true l0_0 l0_1) else (if t812 = t800 then ((laws_eqInt64S.f kj10 t813 t801).bind fun t828 => (if t828 = true then (laws_FnExactLeastMovedPeriod.j1 kj10 t800 t801 t804 t813 (t816 != t804) l0_0 l0_1) else (laws_FnExactLeastMovedPeriod.j1 kj10 t800 t801 t804 t813 true l0_0 l0_1))) else (laws_FnExactLeastMovedPeriod.j1 kj10 t800 t801 t804 t813 true l0_0 l0_1)))) else (some false))) = some r := H
     have A36 := Aside0.mk A360
     clear A360
     replace H := Option.bind_eq_some_iff.mp H
     obtain ⟨t824, A370, H⟩ := H
     replace H : (if t824 = true then ((laws_markFlow.f kj10 t805 t808 1).bind fun bt825 => (if bt825.1 < 0 then (laws_FnExactLeastMovedPeriod.j1 kj10 t800 t801 t804 t813 true l0_0 l0_1) else (if t812 = t800 then ((laws_eqInt64S.f kj10 t813 t801).bind fun t828 => (if t828 = true then (laws_FnExactLeastMovedPeriod.j1 kj10 t800 t801 t804 t813 (t816 != t804) l0_0 l0_1) else (laws_FnExactLeastMovedPeriod.j1 kj10 t800 t801 t804 t813 true l0_0 l0_1))) else (laws_FnExactLeastMovedPeriod.j1 kj10 t800 t801 t804 t813 true l0_0 l0_1)))) else (some false)) = some r := H
     have A37 := Aside0.mk A370
     clear A370
     by_cases c38 : t824 = true
     ·subst c38
      have H1 : ((laws_markFlow.f kj10 t805 t808 1).bind fun bt825 => (if bt825.1 < 0 then (laws_FnExactLeastMovedPeriod.j1 kj10 t800 t801 t804 t813 true l0_0 l0_1) else (if t812 = t800 then ((laws_eqInt64S.f kj10 t813 t801).bind fun t828 => (if t828 = true then (laws_FnExactLeastMovedPeriod.j1 kj10 t800 t801 t804 t813 (t816 != t804) l0_0 l0_1) else (laws_FnExactLeastMovedPeriod.j1 kj10 t800 t801 t804 t813 true l0_0 l0_1))) else (laws_FnExactLeastMovedPeriod.j1 kj10 t800 t801 t804 t813 true l0_0 l0_1)))) = some r := by rw [if_pos rfl] at H; exact H
      clear H
      have H := H1
      clear H1
      replace H := Option.bind_eq_some_iff.mp H
      obtain ⟨⟨t825, t826, t827⟩, A390, H⟩ := H
      replace H : (if t825 < 0 then (laws_FnExactLeastMovedPeriod.j1 kj10 t800 t801 t804 t813 true l0_0 l0_1) else (if t812 = t800 then ((laws_eqInt64S.f kj10 t813 t801).bind fun t828 => (if t828 = true then (laws_FnExactLeastMovedPeriod.j1 kj10 t800 t801 t804 t813 (t816 != t804) l0_0 l0_1) else (laws_FnExactLeastMovedPeriod.j1 kj10 t800 t801 t804 t813 true l0_0 l0_1))) else (laws_FnExactLeastMovedPeriod.j1 kj10 t800 t801 t804 t813 true l0_0 l0_1))) = some r := H
      have A39 := Aside0.mk A390
      clear A390
      have HC40 := Aside0.mk H
      clear H
      try go_wp2
      have n0_ := Aside0.mk (Kd.R_drew HO_5.out)
      have n1_ := Aside0.mk (Kd.R_drew HO_9.out)
      have n2_ := Aside0.mk (Kd.R_drew HO_812000.out)
      have n3_ := Aside0.mk (Kd.R_drew HO_812001.out)
      have n4_ := Aside0.mk (blk_drew BK792.out)
      have n5_ := Aside0.mk (blk_drew BK811.out)
      have n6_ := Aside0.mk (below_drew1 HB.out)
      clear HO_5
      clear HO_9
      clear HO_812000
      clear HO_812001
      clear BK792
      clear BK811
      clear HB
      have HO_5 := n0_
      have HO_9 := n1_
      have HO_812000 := n2_
      have HO_812001 := n3_
      have BK792 := n4_
      have BK811 := n5_
      have HB := n6_
      clear n0_ n1_ n2_ n3_ n4_ n5_ n6_
      refine start_ (n := 5) (S := fun w' => w'.cell? ⟨gb811, 0, none⟩ = some (.slice Ao23 t805.length co23) ∧ w'.cell? ⟨gb811, 1, none⟩ = some (.slice Ao26 t808.length co26) ∧ w'.cell? ⟨gb792, 0, none⟩ = some (.slice A0_0 l0_0.length c0_0) ∧ w'.cell? ⟨gb792, 1, none⟩ = some (.slice A0_1 l0_1.length c0_1)) (ds := []) #[false, false, false, false, false] (by kernel_rfl) rfl rfl ⟨(blk_cell BK811.out 0).trans rfl, (blk_cell BK811.out 1).trans rfl, (blk_cell BK792.out 0).trans rfl, (blk_cell BK792.out 1).trans rfl⟩ (fun hHeld => ?_)
      generalize wc.drew = w41 at HO_5 HO_9 HO_812000 HO_812001 BK792 BK811 HB hHeld ⊢
      refine take_ (i := 0) (N := some 51) (v := ?_) (a' := ?_) #[true, false, false, false, false] rfl rfl (by kernel_rfl) (fun _ _ _ h => h) (Or.inl ⟨by rfl, ?_⟩) hHeld ?_ ?_
      rotate_left
      ·rintro w' ⟨s0, s1, s2, s3⟩
       go_simp
       with_reducible rfl
      rotate_left
      ·simp only [Act.put, List.setIfInBounds_toArray, List.set_cons_zero, List.set_cons_succ, i64_w, i32_w]
       rfl
      refine take_ (i := 1) (N := some 52) (v := ?_) (a' := ?_) #[true, true, false, false, false] rfl rfl (by kernel_rfl) (fun _ _ _ h => h) (Or.inl ⟨by rfl, ?_⟩) hHeld ?_ ?_
      rotate_left
      ·rintro w' ⟨s0, s1, s2, s3⟩
       go_simp
       with_reducible rfl
      rotate_left
      ·simp only [Act.put, List.setIfInBounds_toArray, List.set_cons_zero, List.set_cons_succ, i64_w, i32_w]
       rfl
      refine one_ (i := 2) (N := some 53) #[true, true, true, false, false] rfl rfl (by kernel_rfl) (by decide) (fun K hK => ?_)
      refine goes_ Try.func22 (by kernel_rfl) rfl #[.agg #[.slice A0_0 l0_0.length c0_0, .slice A0_1 l0_1.length c0_1]] (by rfl) rfl rfl (by (try simp only [List.map_toArray, List.map_cons, List.map_nil]); first | done | rfl | (simp only [List.length_drop, List.length_take]; rfl)) ?_
      with_reducible refine (laws_toFlow.calls kj10 _ _ l0_0 _ _ l0_1 t818 t821 _ ?side1 ?side2 ?side3 ?side4 A36.out).mono ?_
      (case side1 => repeat (first | exact (Kd.C_below HR0_0.out HB.out) | (with_reducible refine Kd.C_alloc ?_ _) | (with_reducible refine Kd.C_drewN ?_ _) | (with_reducible refine Kd.C_drew ?_)))
      (case side2 => first | exact trivial | (exact HC0_0.out))
      (case side3 => repeat (first | exact (Kd.C_below HR0_1.out HB.out) | (with_reducible refine Kd.C_alloc ?_ _) | (with_reducible refine Kd.C_drewN ?_ _) | (with_reducible refine Kd.C_drew ?_)))
      (case side4 => first | exact trivial | (exact HC0_1.out))
      rintro e w42 ⟨v819, v822, rfl, ho0, ho1, hb⟩
      refine ⟨_, rfl, ?_⟩
      have n0_ := Aside0.mk (Kd.R_elder' (by (with_reducible repeat (first | apply Kd.R_alloc | apply Kd.R_drewN | apply Kd.R_drew)); exact HO_5.out) (Kd.R_base ho0) hb)
      have n1_ := Aside0.mk (Kd.R_elder' (by (with_reducible repeat (first | apply Kd.R_alloc | apply Kd.R_drewN | apply Kd.R_drew)); exact HO_9.out) (Kd.R_base ho0) hb)
      have n2_ := Aside0.mk (Kd.R_elder' (by (with_reducible repeat (first | apply Kd.R_alloc | apply Kd.R_drewN | apply Kd.R_drew)); exact HO_812000.out) (Kd.R_base ho0) hb)
      have n3_ := Aside0.mk (Kd.R_elder' (by (with_reducible repeat (first | apply Kd.R_alloc | apply Kd.R_drewN | apply Kd.R_drew)); exact HO_812001.out) (Kd.R_base ho1) hb)
      have n4_ := Aside0.mk (Kd.R_lower (Kd.R_new' (Kd.R_new' (Kd.R_new' ho0 (Kd.R_lt (by (with_reducible repeat (first | apply Kd.R_alloc | apply Kd.R_drewN | apply Kd.R_drew)); exact HO_5.out))) (Kd.R_lt (by (with_reducible repeat (first | apply Kd.R_alloc | apply Kd.R_drewN | apply Kd.R_drew)); exact HO_9.out))) (Kd.R_lt (by (with_reducible repeat (first | apply Kd.R_alloc | apply Kd.R_drewN | apply Kd.R_drew)); exact HO_812000.out))) (below_size (by repeat (first | (with_reducible first | exact HB.out | apply below_alloc | apply pw_below_drewN | apply below_drew1 | refine below_set ?_ GE792.out | refine below_set ?_ GE811.out) | exact HB.out))))
      have n5_ := Aside0.mk (Kd.R_lower (Kd.R_new' ho1 (Kd.R_lt (by (with_reducible repeat (first | apply Kd.R_alloc | apply Kd.R_drewN | apply Kd.R_drew)); exact HO_812001.out))) (below_size (by repeat (first | (with_reducible first | exact HB.out | apply below_alloc | apply pw_below_drewN | apply below_drew1 | refine below_set ?_ GE792.out | refine below_set ?_ GE811.out) | exact HB.out))))
      have n6_ := Aside0.mk (blk_below (g := gb792) (o := .cells #[.slice A0_0 l0_0.length c0_0, .slice A0_1 l0_1.length c0_1] 31 (0, 0)) (by (with_reducible repeat (first | refine blk_drewN ?_ _ | refine blk_drew ?_ | refine blk_alloc ?_ _)); exact BK792.out) hb)
      have n7_ := Aside0.mk (blk_below (g := gb811) (o := .cells #[.slice Ao23 t805.length co23, .slice Ao26 t808.length co26] 36 (0, 0)) (by (with_reducible repeat (first | refine blk_drewN ?_ _ | refine blk_drew ?_ | refine blk_alloc ?_ _)); exact BK811.out) hb)
      have n8_ := Aside0.mk (below_step (by repeat (first | (with_reducible first | exact HB.out | apply below_alloc | apply pw_below_drewN | apply below_drew1 | refine below_set ?_ GE792.out | refine below_set ?_ GE811.out) | exact HB.out)) hb)
      clear HO_5
      clear HO_9
      clear HO_812000
      clear HO_812001
      clear BK792
      clear BK811
      clear HB
      have HO_5 := n0_
      have HO_9 := n1_
      have HO_812000 := n2_
      have HO_812001 := n3_
      have HO820 := n4_
      have HO823 := n5_
      have BK792 := n6_
      have BK811 := n7_
      have HB := n8_
      clear n0_ n1_ n2_ n3_ n4_ n5_ n6_ n7_ n8_
      (try clear hb)
      (try clear hb2)
      (try clear hk)
      (try clear hi)
      (try clear ho0)
      (try clear ho1)
      obtain ⟨Ao43, co43, eo43⟩ := Kd.R_slice HO820.out
      (first | subst eo43 | (injection eo43 with f1_ f2_ f3_; have f4_ := f1_.symm; have f5_ := f3_.symm; clear f1_ f2_ f3_; subst f4_; subst f5_))
      obtain ⟨Ao44, co44, eo44⟩ := Kd.R_slice HO823.out
      (first | subst eo44 | (injection eo44 with f1_ f2_ f3_; have f4_ := f1_.symm; have f5_ := f3_.symm; clear f1_ f2_ f3_; subst f4_; subst f5_))
      refine hK.out _ _ ⟨(blk_cell BK811.out 0).trans rfl, (blk_cell BK811.out 1).trans rfl, (blk_cell BK792.out 0).trans rfl, (blk_cell BK792.out 1).trans rfl⟩ (fun hHeld => ?_)
      clear hK K
      refine norm_ (a' := ?_) ?_ ?_
      rotate_left
      ·show Act.put _ (some 53) _ = _
       simp only [Act.put, List.setIfInBounds_toArray, List.set_cons_zero, List.set_cons_succ, i64_w, i32_w]
       rfl
      refine one_ (i := 3) (N := some 54) #[true, true, true, true, false] rfl rfl (by kernel_rfl) (by decide) (fun K hK => ?_)
      refine goes_ Try.func24 (by kernel_rfl) rfl #[.agg #[.slice Ao23 t805.length co23, .slice Ao26 t808.length co26], .agg #[.slice Ao43 t818.length co43, .slice Ao44 t821.length co44]] (by rfl) rfl rfl (by (try simp only [List.map_toArray, List.map_cons, List.map_nil]); first | done | rfl | (simp only [List.length_drop, List.length_take]; rfl)) ?_
      with_reducible refine (laws_eqFlow.calls kj10 _ _ t805 _ _ t808 _ _ t818 _ _ t821 true _ ?side1 ?side2 ?side3 ?side4 ?side5 ?side6 ?side7 ?side8 A37.out).mono ?_
      (case side1 => repeat (first | exact (Kd.R_reads' HO_812000.out).2.2 | (with_reducible refine Kd.C_alloc ?_ _) | (with_reducible refine Kd.C_drewN ?_ _) | (with_reducible refine Kd.C_drew ?_)))
      (case side2 => first | exact trivial | (exact (Kd.R_reads' HO_812000.out).2.1))
      (case side3 => repeat (first | exact (Kd.R_reads' HO_812001.out).2.2 | (with_reducible refine Kd.C_alloc ?_ _) | (with_reducible refine Kd.C_drewN ?_ _) | (with_reducible refine Kd.C_drew ?_)))
      (case side4 => first | exact trivial | (exact (Kd.R_reads' HO_812001.out).2.1))
      (case side5 => repeat (first | exact (Kd.R_reads' HO820.out).2.2 | (with_reducible refine Kd.C_alloc ?_ _) | (with_reducible refine Kd.C_drewN ?_ _) | (with_reducible refine Kd.C_drew ?_)))
      (case side6 => first | exact trivial | (exact (Kd.R_reads' HO820.out).2.1))
      (case side7 => repeat (first | exact (Kd.R_reads' HO823.out).2.2 | (with_reducible refine Kd.C_alloc ?_ _) | (with_reducible refine Kd.C_drewN ?_ _) | (with_reducible refine Kd.C_drew ?_)))
      (case side8 => first | exact trivial | (exact (Kd.R_reads' HO823.out).2.1))
      rintro e w45 ⟨rfl, hb⟩
      refine ⟨_, rfl, ?_⟩
      have n0_ := Aside0.mk (Kd.R_below (by (with_reducible repeat (first | apply Kd.R_alloc | apply Kd.R_drewN | apply Kd.R_drew)); exact HO_5.out) hb)
      have n1_ := Aside0.mk (Kd.R_below (by (with_reducible repeat (first | apply Kd.R_alloc | apply Kd.R_drewN | apply Kd.R_drew)); exact HO_9.out) hb)
      have n2_ := Aside0.mk (Kd.R_below (by (with_reducible repeat (first | apply Kd.R_alloc | apply Kd.R_drewN | apply Kd.R_drew)); exact HO_812000.out) hb)
      have n3_ := Aside0.mk (Kd.R_below (by (with_reducible repeat (first | apply Kd.R_alloc | apply Kd.R_drewN | apply Kd.R_drew)); exact HO_812001.out) hb)
      have n4_ := Aside0.mk (Kd.R_below (by (with_reducible repeat (first | apply Kd.R_alloc | apply Kd.R_drewN | apply Kd.R_drew)); exact HO820.out) hb)
      have n5_ := Aside0.mk (Kd.R_below (by (with_reducible repeat (first | apply Kd.R_alloc | apply Kd.R_drewN | apply Kd.R_drew)); exact HO823.out) hb)
      have n6_ := Aside0.mk (blk_below (g := gb792) (o := .cells #[.slice A0_0 l0_0.length c0_0, .slice A0_1 l0_1.length c0_1] 31 (0, 0)) (by (with_reducible repeat (first | refine blk_drewN ?_ _ | refine blk_drew ?_ | refine blk_alloc ?_ _)); exact BK792.out) hb)
      have n7_ := Aside0.mk (blk_below (g := gb811) (o := .cells #[.slice Ao23 t805.length co23, .slice Ao26 t808.length co26] 36 (0, 0)) (by (with_reducible repeat (first | refine blk_drewN ?_ _ | refine blk_drew ?_ | refine blk_alloc ?_ _)); exact BK811.out) hb)
      have n8_ := Aside0.mk (below_step (by repeat (first | (with_reducible first | exact HB.out | apply below_alloc | apply pw_below_drewN | apply below_drew1 | refine below_set ?_ GE792.out | refine below_set ?_ GE811.out) | exact HB.out)) hb)
      clear HO_5
      clear HO_9
      clear HO_812000
      clear HO_812001
      clear HO820
      clear HO823
      clear BK792
      clear BK811
      clear HB
      have HO_5 := n0_
      have HO_9 := n1_
      have HO_812000 := n2_
      have HO_812001 := n3_
      have HO820 := n4_
      have HO823 := n5_
      have BK792 := n6_
      have BK811 := n7_
      have HB := n8_
      clear n0_ n1_ n2_ n3_ n4_ n5_ n6_ n7_ n8_
      (try clear hb)
      (try clear hb2)
      (try clear hk)
      (try clear hi)
      refine hK.out _ _ ⟨(blk_cell BK811.out 0).trans rfl, (blk_cell BK811.out 1).trans rfl, (blk_cell BK792.out 0).trans rfl, (blk_cell BK792.out 1).trans rfl⟩ (fun hHeld => ?_)
      clear hK K
      refine norm_ (a' := ?_) ?_ ?_
      rotate_left
      ·show Act.put _ (some 54) _ = _
       simp only [Act.put, List.setIfInBounds_toArray, List.set_cons_zero, List.set_cons_succ, i64_w, i32_w]
       rfl
      refine pure_ (i := 4) (N := some 55) (v := ?_) (a' := ?_) #[true, true, true, true, true] rfl rfl (by kernel_rfl) (fun _ _ _ h => h) (Or.inl ⟨by rfl, ?_⟩) ?_ ?_
      rotate_left
      ·intro w'
       go_simp
       with_reducible rfl
      rotate_left
      ·simp only [Act.put, List.setIfInBounds_toArray, List.set_cons_zero, List.set_cons_succ, i64_w, i32_w]
       rfl
      refine done_ (by kernel_rfl) ?_
      have hnb46 := NB811_792.out
      have hnc46 := NB792_811.out
      have hcz47_0 : w45.cell? ⟨gb811, 0, none⟩ = some (.slice Ao23 t805.length co23) := (blk_cell BK811.out 0).trans rfl
      have hcz47_1 : w45.cell? ⟨gb811, 1, none⟩ = some (.slice Ao26 t808.length co26) := (blk_cell BK811.out 1).trans rfl
      have hfz47_0 := blk_frozen BK811.out 0
      have hfz47_1 := blk_frozen BK811.out 1
      go_upto_region 14 with (first | ((with_reducible refine gate_callee (f := 35) rfl ?_); refine goesL_ (some 58) rfl rfl Try.func35 (by kernel_rfl) rfl #[.agg #[.slice Ao23 t805.length co23, .slice Ao26 t808.length co26], .int .i64 1] rfl (by (try simp only [List.map_toArray, List.map_cons, List.map_nil]); first | done | rfl | (simp only [List.length_drop, List.length_take]; rfl)) ?_; (with_reducible refine (laws_markFlow.calls kj10 (fun k_ => some k_ = (.slice Ao23 t805.length co23 : Value).ownBlock) (.slice Ao23 t805.length co23) t805 (fun k_ => some k_ = (.slice Ao26 t808.length co26 : Value).ownBlock) (.slice Ao26 t808.length co26) t808 1 t825 t826 t827 w _ ?side1 ?side2 ?side3 A39.out).mono ?_); (case side1 => repeat (first | (with_reducible first | exact HB.out | apply below_alloc | apply pw_below_drewN | apply below_drew1 | refine below_set ?_ GE792.out | refine below_set ?_ GE811.out) | exact HB.out)); (case side2 => exact Kd.R_tight rfl HO_812000.out); (case side3 => exact Kd.R_tight rfl HO_812001.out); rintro e w48 ⟨rfl, hy0, hy1, hb, hkp⟩; refine ⟨_, rfl, ?_⟩; have n0_ := Aside0.mk (Kd.R_mono (ok' := fun k_ => some k_ ≠ (v814 : Value).ownBlock ∧ some k_ ≠ (.slice Ao23 t805.length co23 : Value).ownBlock ∧ some k_ ≠ (.slice Ao43 t818.length co43 : Value).ownBlock) (Kd.R_keptB ((Kd.R_apart' HO_5.out (Kd.R_typed HO_812001.out) (by decide))) hkp (fun k_ hk_ hs_ => Or.elim hs_ (fun e_ => (hk_.1.1.2) e_) (fun e_ => (hk_.2) e_))) (fun k_ hk_ => ⟨hk_.1.1.1.1, hk_.1.1.1.2, hk_.1.1.2⟩)); have n1_ := Aside0.mk (Kd.R_mono (ok' := fun k_ => some k_ ≠ (v802 : Value).ownBlock ∧ some k_ ≠ (.slice Ao23 t805.length co23 : Value).ownBlock ∧ some k_ ≠ (.slice Ao43 t818.length co43 : Value).ownBlock) (Kd.R_keptB ((Kd.R_apart' HO_9.out (Kd.R_typed HO_812001.out) (by decide))) hkp (fun k_ hk_ hs_ => Or.elim hs_ (fun e_ => (hk_.1.1.2) e_) (fun e_ => (hk_.2) e_))) (fun k_ hk_ => ⟨hk_.1.1.1.1, hk_.1.1.1.2, hk_.1.1.2⟩)); have n2_ := Aside0.mk (Kd.R_reok rfl hy0 (fun k_ e_ => HO_812000.out.1 k_ e_)); have n3_ := Aside0.mk (Kd.R_reok rfl hy1 (fun k_ e_ => HO_812001.out.1 k_ e_)); have n4_ := Aside0.mk (blk_kept (by (with_reducible repeat (first | refine blk_drewN ?_ _ | refine blk_drew ?_ | refine blk_alloc ?_ _)); exact BK792.out) hkp (fun hs_ => Or.elim hs_ (fun e_ => (fun e_ => (Kd.R_ne HO_812000.out BK792.out (by decide)) e_) e_) (fun e_ => (fun e_ => (Kd.R_ne HO_812001.out BK792.out (by decide)) e_) e_))); have n5_ := Aside0.mk (blk_kept (by (with_reducible repeat (first | refine blk_drewN ?_ _ | refine blk_drew ?_ | refine blk_alloc ?_ _)); exact BK811.out) hkp (fun hs_ => Or.elim hs_ (fun e_ => (fun e_ => (Kd.R_ne HO_812000.out BK811.out (by decide)) e_) e_) (fun e_ => (fun e_ => (Kd.R_ne HO_812001.out BK811.out (by decide)) e_) e_))); have n6_ := Aside0.mk (Kd.R_mono (ok' := fun k_ => some k_ ≠ (v802 : Value).ownBlock ∧ some k_ ≠ (v814 : Value).ownBlock ∧ some k_ ≠ (.slice Ao23 t805.length co23 : Value).ownBlock) (Kd.R_keptB ((Kd.R_apart' HO820.out (Kd.R_typed HO_812001.out) (by decide))) hkp (fun k_ hk_ hs_ => Or.elim hs_ (fun e_ => (hk_.1.2) e_) (fun e_ => (hk_.2) e_))) (fun k_ hk_ => ⟨hk_.1.1.1.1.2, hk_.1.1.1.2, hk_.1.1.2⟩)); have n7_ := Aside0.mk (Kd.R_mono (ok' := fun k_ => some k_ ≠ (.slice Ao26 t808.length co26 : Value).ownBlock) (Kd.R_keptB ((Kd.R_apart' HO823.out (Kd.R_typed HO_812000.out) (by decide))) hkp (fun k_ hk_ hs_ => Or.elim hs_ (fun e_ => (hk_.2) e_) (fun e_ => (hk_.1.2) e_))) (fun k_ hk_ => hk_.1.1.2)); have n8_ := Aside0.mk (hb); clear HO_5; clear HO_9; clear HO_812000; clear HO_812001; clear BK792; clear BK811; clear HO820; clear HO823; clear HB; have HO_5 := n0_; have HO_9 := n1_; have HO_812000 := n2_; have HO_812001 := n3_; have BK792 := n4_; have BK811 := n5_; have HO820 := n6_; have HO823 := n7_; have HB := n8_; clear n0_ n1_ n2_ n3_ n4_ n5_ n6_ n7_ n8_; (try clear hb); (try clear hkp); (try clear hy0); (try clear hy1)))
      (try simp only [Act.put, List.setIfInBounds_toArray, List.set_cons_zero, List.set_cons_succ])
      go_cut [76] (fun v76 wc => ∃ (kq : Nat) (x76_39 : Bool), v76 = .bool x76_39 ∧ Aside0 (laws_FnExactLeastMovedPeriod.j1 kq t800 t801 t804 t813 x76_39 l0_0 l0_1 = some r) ∧ Aside0 (kq ≤ kj10) ∧ Aside0 (Kd.R (Kd.int .i64) 2 wc w.heap.size (fun k_ => some k_ ≠ (v814 : Value).ownBlock ∧ some k_ ≠ ((.slice Ao23 t805.length co23) : Value).ownBlock) v802 t801) ∧ Aside0 (Kd.R (Kd.int .i64) 2 wc w.heap.size (fun k_ => some k_ ≠ (v802 : Value).ownBlock ∧ some k_ ≠ ((.slice Ao23 t805.length co23) : Value).ownBlock) v814 t813) ∧ Aside0 (Kd.R (Kd.int .i64) 2 wc w.heap.size (fun k_ => some k_ ≠ (v802 : Value).ownBlock ∧ some k_ ≠ (v814 : Value).ownBlock) (.slice Ao23 t805.length co23) t826) ∧ Aside0 (Kd.R k55 55 wc w.heap.size (fun _ => True) (.slice Ao26 t808.length co26) t827) ∧ Aside0 (wc.heap[gb792]? = some (.cells #[(.slice A0_0 l0_0.length c0_0), (.slice A0_1 l0_1.length c0_1)] 31 (0, 0))) ∧ Aside0 (wc.heap[gb811]? = some (.cells #[(.slice Ao23 t805.length co23), (.slice Ao26 t808.length co26)] 36 (0, 0))) ∧ Aside0 (Below w.heap.size w wc))
      case first =>
       have H := HC40.out
       clear HC40
       by_cases c49 : t825 < 0
       ·rw [if_pos c49] at H
        have c49b0 : decide (t825 < 0) = true := decide_eq_true c49
        clear c49
        (first | rw [c49b0] | (simp only [i64_w, i32_w]; rw [c49b0]) | skip)
        have H' := Aside0.mk H
        clear H
        go_wp2
        go_meet
        case rel => exact ⟨_, (true), (by first | rfl | (simp; done) | (simp [*]; done)), H', ⟨by have := HJ10.out; first | omega | exact Nat.le_refl _⟩, ⟨by (with_reducible repeat (first | apply Kd.R_alloc | apply Kd.R_drewN | apply Kd.R_drew)); exact Kd.R_mono HO_5.out (fun _ hk => ⟨hk.1, hk.2.1⟩)⟩, ⟨by (with_reducible repeat (first | apply Kd.R_alloc | apply Kd.R_drewN | apply Kd.R_drew)); exact Kd.R_mono HO_9.out (fun _ hk => ⟨hk.1, hk.2.1⟩)⟩, ⟨by (with_reducible repeat (first | apply Kd.R_alloc | apply Kd.R_drewN | apply Kd.R_drew)); exact Kd.R_mono HO_812000.out (fun _ hk => ⟨hk.1.1, hk.1.2⟩)⟩, ⟨by (with_reducible repeat (first | apply Kd.R_alloc | apply Kd.R_drewN | apply Kd.R_drew)); exact Kd.R_mono HO_812001.out (fun _ hk => trivial)⟩, ⟨by (with_reducible repeat (first | refine blk_drewN ?_ _ | refine blk_drew ?_ | refine blk_alloc ?_ _)); exact BK792.out⟩, ⟨by (with_reducible repeat (first | refine blk_drewN ?_ _ | refine blk_drew ?_ | refine blk_alloc ?_ _)); exact BK811.out⟩, ⟨by repeat (first | (with_reducible first | exact HB.out | apply below_alloc | apply pw_below_drewN | apply below_drew1 | refine below_set ?_ GE792.out | refine below_set ?_ GE811.out) | exact HB.out)⟩⟩
       ·rw [if_neg c49] at H
        have c49b0 : decide (t825 < 0) = false := decide_eq_false c49
        clear c49
        (first | rw [c49b0] | (simp only [i64_w, i32_w]; rw [c49b0]) | skip)
        by_cases c50 : t812 = t800
        ·rw [if_pos c50] at H
         have c50b0 : (t812 == t800) = true := beq_iff_eq.mpr c50
         have c50b1 : (t812 != t800) = false := bne_eq_false_iff_eq.mpr c50
         clear c50
         replace H := Option.bind_eq_some_iff.mp H
         obtain ⟨t828, A510, H⟩ := H
         replace H : (if t828 = true then (laws_FnExactLeastMovedPeriod.j1 kj10 t800 t801 t804 t813 (t816 != t804) l0_0 l0_1) else (laws_FnExactLeastMovedPeriod.j1 kj10 t800 t801 t804 t813 true l0_0 l0_1)) = some r := H
         have A51 := Aside0.mk A510
         clear A510
         by_cases c52 : t828 = true
         ·subst c52
          have H1 : (laws_FnExactLeastMovedPeriod.j1 kj10 t800 t801 t804 t813 (t816 != t804) l0_0 l0_1) = some r := by rw [if_pos rfl] at H; exact H
          clear H
          have H := H1
          clear H1
          have H' := Aside0.mk H
          clear H
          obtain ⟨Ao53, co53, eo53⟩ := Kd.R_slice HO_9.out
          subst eo53
          obtain ⟨Ao54, co54, eo54⟩ := Kd.R_slice HO_5.out
          subst eo54
          go_wp2_with (first | (go_at_call 17; (with_reducible refine (laws_eqInt64S.calls kj10 _ _ t813 _ _ t801 true _ ?side1 ?side2 ?side3 ?side4 A51.out).mono ?_); (case side1 => repeat (first | exact (Kd.R_reads' HO_9.out).2.2 | (with_reducible refine Kd.C_alloc ?_ _) | (with_reducible refine Kd.C_drewN ?_ _) | (with_reducible refine Kd.C_drew ?_))); (case side2 => first | exact trivial | (exact (Kd.R_reads' HO_9.out).2.1)); (case side3 => repeat (first | exact (Kd.R_reads' HO_5.out).2.2 | (with_reducible refine Kd.C_alloc ?_ _) | (with_reducible refine Kd.C_drewN ?_ _) | (with_reducible refine Kd.C_drew ?_))); (case side4 => first | exact trivial | (exact (Kd.R_reads' HO_5.out).2.1)); rintro e w' ⟨rfl, ⟨nd, rfl⟩⟩))
          go_meet
          case rel => exact ⟨_, ((t816 != t804)), (by first | rfl | (simp; done) | (simp [*]; done)), H', ⟨by have := HJ10.out; first | omega | exact Nat.le_refl _⟩, ⟨by (with_reducible repeat (first | apply Kd.R_alloc | apply Kd.R_drewN | apply Kd.R_drew)); exact Kd.R_mono HO_5.out (fun _ hk => ⟨hk.1, hk.2.1⟩)⟩, ⟨by (with_reducible repeat (first | apply Kd.R_alloc | apply Kd.R_drewN | apply Kd.R_drew)); exact Kd.R_mono HO_9.out (fun _ hk => ⟨hk.1, hk.2.1⟩)⟩, ⟨by (with_reducible repeat (first | apply Kd.R_alloc | apply Kd.R_drewN | apply Kd.R_drew)); exact Kd.R_mono HO_812000.out (fun _ hk => ⟨hk.1.1, hk.1.2⟩)⟩, ⟨by (with_reducible repeat (first | apply Kd.R_alloc | apply Kd.R_drewN | apply Kd.R_drew)); exact Kd.R_mono HO_812001.out (fun _ hk => trivial)⟩, ⟨by (with_reducible repeat (first | refine blk_drewN ?_ _ | refine blk_drew ?_ | refine blk_alloc ?_ _)); exact BK792.out⟩, ⟨by (with_reducible repeat (first | refine blk_drewN ?_ _ | refine blk_drew ?_ | refine blk_alloc ?_ _)); exact BK811.out⟩, ⟨by repeat (first | (with_reducible first | exact HB.out | apply below_alloc | apply pw_below_drewN | apply below_drew1 | refine below_set ?_ GE792.out | refine below_set ?_ GE811.out) | exact HB.out)⟩⟩
         ·replace c52 := Bool.eq_false_iff.mpr c52
          subst c52
          have H1 : (laws_FnExactLeastMovedPeriod.j1 kj10 t800 t801 t804 t813 true l0_0 l0_1) = some r := by rw [if_neg (show ¬ (false = true) by decide)] at H; exact H
          clear H
          have H := H1
          clear H1
          have H' := Aside0.mk H
          clear H
          obtain ⟨Ao55, co55, eo55⟩ := Kd.R_slice HO_9.out
          subst eo55
          obtain ⟨Ao56, co56, eo56⟩ := Kd.R_slice HO_5.out
          subst eo56
          go_wp2_with (first | (go_at_call 17; (with_reducible refine (laws_eqInt64S.calls kj10 _ _ t813 _ _ t801 false _ ?side1 ?side2 ?side3 ?side4 A51.out).mono ?_); (case side1 => repeat (first | exact (Kd.R_reads' HO_9.out).2.2 | (with_reducible refine Kd.C_alloc ?_ _) | (with_reducible refine Kd.C_drewN ?_ _) | (with_reducible refine Kd.C_drew ?_))); (case side2 => first | exact trivial | (exact (Kd.R_reads' HO_9.out).2.1)); (case side3 => repeat (first | exact (Kd.R_reads' HO_5.out).2.2 | (with_reducible refine Kd.C_alloc ?_ _) | (with_reducible refine Kd.C_drewN ?_ _) | (with_reducible refine Kd.C_drew ?_))); (case side4 => first | exact trivial | (exact (Kd.R_reads' HO_5.out).2.1)); rintro e w' ⟨rfl, ⟨nd, rfl⟩⟩))
          go_meet
          case rel => exact ⟨_, (true), (by first | rfl | (simp; done) | (simp [*]; done)), H', ⟨by have := HJ10.out; first | omega | exact Nat.le_refl _⟩, ⟨by (with_reducible repeat (first | apply Kd.R_alloc | apply Kd.R_drewN | apply Kd.R_drew)); exact Kd.R_mono HO_5.out (fun _ hk => ⟨hk.1, hk.2.1⟩)⟩, ⟨by (with_reducible repeat (first | apply Kd.R_alloc | apply Kd.R_drewN | apply Kd.R_drew)); exact Kd.R_mono HO_9.out (fun _ hk => ⟨hk.1, hk.2.1⟩)⟩, ⟨by (with_reducible repeat (first | apply Kd.R_alloc | apply Kd.R_drewN | apply Kd.R_drew)); exact Kd.R_mono HO_812000.out (fun _ hk => ⟨hk.1.1, hk.1.2⟩)⟩, ⟨by (with_reducible repeat (first | apply Kd.R_alloc | apply Kd.R_drewN | apply Kd.R_drew)); exact Kd.R_mono HO_812001.out (fun _ hk => trivial)⟩, ⟨by (with_reducible repeat (first | refine blk_drewN ?_ _ | refine blk_drew ?_ | refine blk_alloc ?_ _)); exact BK792.out⟩, ⟨by (with_reducible repeat (first | refine blk_drewN ?_ _ | refine blk_drew ?_ | refine blk_alloc ?_ _)); exact BK811.out⟩, ⟨by repeat (first | (with_reducible first | exact HB.out | apply below_alloc | apply pw_below_drewN | apply below_drew1 | refine below_set ?_ GE792.out | refine below_set ?_ GE811.out) | exact HB.out)⟩⟩
        ·rw [if_neg c50] at H
         have c50b0 : (t812 == t800) = false := beq_eq_false_iff_ne.mpr c50
         have c50b1 : (t812 != t800) = true := bne_iff_ne.mpr c50
         have H' := Aside0.mk H
         clear H
         go_wp2
         go_meet
         case rel => exact ⟨_, (true), (by first | rfl | (simp; done) | (simp [*]; done)), H', ⟨by have := HJ10.out; first | omega | exact Nat.le_refl _⟩, ⟨by (with_reducible repeat (first | apply Kd.R_alloc | apply Kd.R_drewN | apply Kd.R_drew)); exact Kd.R_mono HO_5.out (fun _ hk => ⟨hk.1, hk.2.1⟩)⟩, ⟨by (with_reducible repeat (first | apply Kd.R_alloc | apply Kd.R_drewN | apply Kd.R_drew)); exact Kd.R_mono HO_9.out (fun _ hk => ⟨hk.1, hk.2.1⟩)⟩, ⟨by (with_reducible repeat (first | apply Kd.R_alloc | apply Kd.R_drewN | apply Kd.R_drew)); exact Kd.R_mono HO_812000.out (fun _ hk => ⟨hk.1.1, hk.1.2⟩)⟩, ⟨by (with_reducible repeat (first | apply Kd.R_alloc | apply Kd.R_drewN | apply Kd.R_drew)); exact Kd.R_mono HO_812001.out (fun _ hk => trivial)⟩, ⟨by (with_reducible repeat (first | refine blk_drewN ?_ _ | refine blk_drew ?_ | refine blk_alloc ?_ _)); exact BK792.out⟩, ⟨by (with_reducible repeat (first | refine blk_drewN ?_ _ | refine blk_drew ?_ | refine blk_alloc ?_ _)); exact BK811.out⟩, ⟨by repeat (first | (with_reducible first | exact HB.out | apply below_alloc | apply pw_below_drewN | apply below_drew1 | refine below_set ?_ GE792.out | refine below_set ?_ GE811.out) | exact HB.out)⟩⟩
      case rest =>
       clear HC40
       try clear c1
       try clear c2
       try clear p2
       try clear c3
       try clear c3b0
       try clear c4
       try clear c5
       try clear c13
       try clear c20
       try clear c22
       try clear c24
       try clear c28
       try clear c28b0
       try clear c28b1
       try clear c30
       try clear c35
       try clear c38
       try clear c43
       try clear c44
       try clear c46
       try clear c49
       try clear c49b0
       try clear c50
       try clear c50b0
       try clear c50b1
       try clear c52
       try clear hcz13_0
       try clear hcz13_1
       try clear hcz15_0
       try clear hcz15_1
       try clear hcz20_0
       try clear hcz20_1
       try clear hcz25_0
       try clear hcz25_1
       try clear hcz47_0
       try clear hcz47_1
       try clear hcz5_0
       try clear hcz5_1
       try clear hfz13_0
       try clear hfz13_1
       try clear hfz15_0
       try clear hfz15_1
       try clear hfz20_0
       try clear hfz20_1
       try clear hfz25_0
       try clear hfz25_1
       try clear hfz47_0
       try clear hfz47_1
       try clear hfz5_0
       try clear hfz5_1
       try clear p2
       obtain ⟨kq, x76_39, rfl, HA, HJ39, HO_5, HO_9, HO_812000, HO_812001, BK792, BK811, HB⟩ := hcut
       have hl812000_39 := (Kd.R_reads' HO_812000.out).1
       rw [hl812000_39] at HO_812000
       (try simp only [hl812000_39])
       (try simp only [hl812000_39] at BK792)
       (try simp only [hl812000_39] at BK811)
       (try simp only [hl812000_39] at HO_5)
       (try simp only [hl812000_39] at HO_9)
       (try simp only [hl812000_39] at HO_812001)
       have hl812001_39 := (Kd.R_reads' HO_812001.out).1
       rw [hl812001_39] at HO_812001
       (try simp only [hl812001_39])
       (try simp only [hl812001_39] at BK792)
       (try simp only [hl812001_39] at BK811)
       (try simp only [hl812001_39] at HO_5)
       (try simp only [hl812001_39] at HO_9)
       (try simp only [hl812001_39] at HO_812000)
       cases kq with
       | zero => exact absurd HA.out (by simp [laws_FnExactLeastMovedPeriod.j1])
       | succ kj39 =>
        have H := HA.out
        clear HA
        simp only [laws_FnExactLeastMovedPeriod.j1] at H
        by_cases c57 : x76_39 = true
        ·subst c57
         have H1 : (some false) = some r := by rw [if_pos rfl] at H; exact H
         clear H
         have H := H1
         clear H1
         exact absurd (Option.some.inj (H.trans (congrArg some HRT.out))) (by decide)
        ·replace c57 := Bool.eq_false_iff.mpr c57
         subst c57
         have H1 : ((laws_markInt64S.f kj39 t813 1).bind fun bt829 => ((laws_heldInt64S.f kj39 bt829.2 1).bind fun t831 => (if t831 < 0 then (some false) else (if t831 = bt829.1 then ((laws_toFlow.f kj39 l0_0 l0_1).bind fun bt832 => ((impl_LeastMovedPeriod.f kj39 bt832.1 bt832.2).bind fun bt838 => (if bt838.1 = t800 then ((laws_eqInt64S.f kj39 bt838.2.1 t801).bind fun t843 => (if t843 = true then (laws_FnExactLeastMovedPeriod.j2 kj39 bt829.2 bt829.1 (bt838.2.2 != t804)) else (laws_FnExactLeastMovedPeriod.j2 kj39 bt829.2 bt829.1 true))) else (laws_FnExactLeastMovedPeriod.j2 kj39 bt829.2 bt829.1 true)))) else (some false))))) = some r := by rw [if_neg (show ¬ (false = true) by decide)] at H; exact H
         clear H
         have H := H1
         clear H1
         replace H := Option.bind_eq_some_iff.mp H
         obtain ⟨⟨t829, t830⟩, A580, H⟩ := H
         replace H : ((laws_heldInt64S.f kj39 t830 1).bind fun t831 => (if t831 < 0 then (some false) else (if t831 = t829 then ((laws_toFlow.f kj39 l0_0 l0_1).bind fun bt832 => ((impl_LeastMovedPeriod.f kj39 bt832.1 bt832.2).bind fun bt838 => (if bt838.1 = t800 then ((laws_eqInt64S.f kj39 bt838.2.1 t801).bind fun t843 => (if t843 = true then (laws_FnExactLeastMovedPeriod.j2 kj39 t830 t829 (bt838.2.2 != t804)) else (laws_FnExactLeastMovedPeriod.j2 kj39 t830 t829 true))) else (laws_FnExactLeastMovedPeriod.j2 kj39 t830 t829 true)))) else (some false)))) = some r := H
         have A58 := Aside0.mk A580
         clear A580
         replace H := Option.bind_eq_some_iff.mp H
         obtain ⟨t831, A590, H⟩ := H
         replace H : (if t831 < 0 then (some false) else (if t831 = t829 then ((laws_toFlow.f kj39 l0_0 l0_1).bind fun bt832 => ((impl_LeastMovedPeriod.f kj39 bt832.1 bt832.2).bind fun bt838 => (if bt838.1 = t800 then ((laws_eqInt64S.f kj39 bt838.2.1 t801).bind fun t843 => (if t843 = true then (laws_FnExactLeastMovedPeriod.j2 kj39 t830 t829 (bt838.2.2 != t804)) else (laws_FnExactLeastMovedPeriod.j2 kj39 t830 t829 true))) else (laws_FnExactLeastMovedPeriod.j2 kj39 t830 t829 true)))) else (some false))) = some r := H
         have A59 := Aside0.mk A590
         clear A590
         by_cases c60 : t831 < 0
         ·rw [if_pos c60] at H
          have c60b0 : decide (t831 < 0) = true := decide_eq_true c60
          clear c60
          exact absurd (Option.some.inj (H.trans (congrArg some HRT.out))) (by decide)
         ·rw [if_neg c60] at H
          have c60b0 : decide (t831 < 0) = false := decide_eq_false c60
          clear c60
          by_cases c63 : t831 = t829
          ·rw [if_pos c63] at H
           have c63b0 : (t831 == t829) = true := beq_iff_eq.mpr c63
           have c63b1 : (t831 != t829) = false := bne_eq_false_iff_eq.mpr c63
           clear c63
           replace H := Option.bind_eq_some_iff.mp H
           obtain ⟨⟨t832, t835⟩, A640, H⟩ := H
           replace H : ((impl_LeastMovedPeriod.f kj39 t832 t835).bind fun bt838 => (if bt838.1 = t800 then ((laws_eqInt64S.f kj39 bt838.2.1 t801).bind fun t843 => (if t843 = true then (laws_FnExactLeastMovedPeriod.j2 kj39 t830 t829 (bt838.2.2 != t804)) else (laws_FnExactLeastMovedPeriod.j2 kj39 t830 t829 true))) else (laws_FnExactLeastMovedPeriod.j2 kj39 t830 t829 true))) = some r := H
           have A64 := Aside0.mk A640
           clear A640
           replace H := Option.bind_eq_some_iff.mp H
           obtain ⟨⟨t838, t839, t842⟩, A650, H⟩ := H
           replace H : (if t838 = t800 then ((laws_eqInt64S.f kj39 t839 t801).bind fun t843 => (if t843 = true then (laws_FnExactLeastMovedPeriod.j2 kj39 t830 t829 (t842 != t804)) else (laws_FnExactLeastMovedPeriod.j2 kj39 t830 t829 true))) else (laws_FnExactLeastMovedPeriod.j2 kj39 t830 t829 true)) = some r := H
           have A65 := Aside0.mk A650
           clear A650
           have HC66 := Aside0.mk H
           clear H
           obtain ⟨Ao67, co67, eo67⟩ := Kd.R_slice HO_9.out
           subst eo67
           go_upto_region 25 with (first | ((with_reducible refine gate_callee (f := 18) rfl ?_); refine goesL_ (some 79) rfl rfl Try.func18 (by kernel_rfl) rfl #[.slice Ao67 t813.length co67, .int .i64 1] rfl (by (try simp only [List.map_toArray, List.map_cons, List.map_nil]); first | done | rfl | (simp only [List.length_drop, List.length_take]; rfl)) ?_; (with_reducible refine (laws_markInt64S.calls kj39 (fun k_ => some k_ = (.slice Ao67 t813.length co67 : Value).ownBlock) (.slice Ao67 t813.length co67) t813 1 t829 t830 w _ ?side1 ?side2 A58.out).mono ?_); (case side1 => repeat (first | (with_reducible first | exact HB.out | apply below_alloc | apply pw_below_drewN | apply below_drew1 | refine below_set ?_ GE792.out | refine below_set ?_ GE811.out) | exact HB.out)); (case side2 => exact Kd.R_tight rfl HO_9.out); rintro e w68 ⟨rfl, hy0, hb, hkp⟩; refine ⟨_, rfl, ?_⟩; have n0_ := Aside0.mk (Kd.R_mono (ok' := fun k_ => some k_ ≠ (.slice Ao67 t813.length co67 : Value).ownBlock ∧ some k_ ≠ (.slice Ao23 t826.length co23 : Value).ownBlock) (Kd.R_keptB (HO_5.out) hkp (fun k_ hk_ hs_ => (hk_.1) hs_)) (fun k_ hk_ => ⟨hk_.1.1, hk_.1.2⟩)); have n1_ := Aside0.mk (Kd.R_reok rfl hy0 (fun k_ e_ => HO_9.out.1 k_ e_)); have n2_ := Aside0.mk (Kd.R_mono (ok' := fun k_ => some k_ ≠ (v802 : Value).ownBlock ∧ some k_ ≠ (.slice Ao67 t813.length co67 : Value).ownBlock) (Kd.R_keptB (HO_812000.out) hkp (fun k_ hk_ hs_ => (hk_.2) hs_)) (fun k_ hk_ => ⟨hk_.1.1, hk_.1.2⟩)); have n3_ := Aside0.mk (Kd.R_mono (ok' := fun k_ => True) (Kd.R_keptB ((Kd.R_apart' HO_812001.out (Kd.R_typed HO_9.out) (by decide))) hkp (fun k_ hk_ hs_ => (hk_.2) hs_)) (fun k_ hk_ => trivial)); have n4_ := Aside0.mk (blk_kept (by (with_reducible repeat (first | refine blk_drewN ?_ _ | refine blk_drew ?_ | refine blk_alloc ?_ _)); exact BK792.out) hkp (fun hs_ => (fun e_ => (Kd.R_ne HO_9.out BK792.out (by decide)) e_) hs_)); have n5_ := Aside0.mk (blk_kept (by (with_reducible repeat (first | refine blk_drewN ?_ _ | refine blk_drew ?_ | refine blk_alloc ?_ _)); exact BK811.out) hkp (fun hs_ => (fun e_ => (Kd.R_ne HO_9.out BK811.out (by decide)) e_) hs_)); have n6_ := Aside0.mk (hb); clear HO_5; clear HO_9; clear HO_812000; clear HO_812001; clear BK792; clear BK811; clear HB; have HO_5 := n0_; have HO_9 := n1_; have HO_812000 := n2_; have HO_812001 := n3_; have BK792 := n4_; have BK811 := n5_; have HB := n6_; clear n0_ n1_ n2_ n3_ n4_ n5_ n6_; (try clear hb); (try clear hkp); (try clear hy0)) | ((with_reducible refine gate_callee (f := 19) rfl ?_); refine goesL_ (some 82) rfl rfl Try.func19 (by kernel_rfl) rfl #[.slice Ao67 t830.length co67, .int .i64 1] rfl (by (try simp only [List.map_toArray, List.map_cons, List.map_nil]); first | done | (rw [show t830.length = t813.length from (Kd.R_reads' HO_9.out).1.symm] <;> rfl) | rfl | (simp only [List.length_drop, List.length_take]; rfl)) ?_; (with_reducible refine (laws_heldInt64S.calls kj39 _ _ t830 1 t831 _ ?side1 ?side2 A59.out).mono ?_); (case side1 => repeat (first | exact (Kd.R_reads' HO_9.out).2.2 | (with_reducible refine Kd.C_alloc ?_ _) | (with_reducible refine Kd.C_drewN ?_ _) | (with_reducible refine Kd.C_drew ?_))); (case side2 => rw [show t830.length = t813.length from (Kd.R_reads' HO_9.out).1.symm]; first | exact trivial | (exact (Kd.R_reads' HO_9.out).2.1)); rintro e w' ⟨rfl, ⟨nd, rfl⟩⟩; refine ⟨_, rfl, ?_⟩; have hnb69 := NB792_811.out; have hnc69 := NB811_792.out; have hcz70_0 : w68.cell? ⟨gb792, 0, none⟩ = some (.slice A0_0 l0_0.length c0_0) := (blk_cell BK792.out 0).trans rfl; have hcz70_1 : w68.cell? ⟨gb792, 1, none⟩ = some (.slice A0_1 l0_1.length c0_1) := (blk_cell BK792.out 1).trans rfl; have hfz70_0 := blk_frozen BK792.out 0; have hfz70_1 := blk_frozen BK792.out 1) | ((with_reducible refine gate_callee (f := 22) rfl ?_); refine goesL_ (some 90) rfl rfl Try.func22 (by kernel_rfl) rfl #[.agg #[.slice A0_0 l0_0.length c0_0, .slice A0_1 l0_1.length c0_1]] rfl (by (try simp only [List.map_toArray, List.map_cons, List.map_nil]); first | done | rfl | (simp only [List.length_drop, List.length_take]; rfl)) ?_; (with_reducible refine (laws_toFlow.calls kj39 _ _ l0_0 _ _ l0_1 t832 t835 _ ?side1 ?side2 ?side3 ?side4 A64.out).mono ?_); (case side1 => repeat (first | exact (Kd.C_below HR0_0.out (by repeat (first | (with_reducible first | exact HB.out | apply below_alloc | apply pw_below_drewN | apply below_drew1 | refine below_set ?_ GE792.out | refine below_set ?_ GE811.out) | exact HB.out))) | (with_reducible refine Kd.C_alloc ?_ _) | (with_reducible refine Kd.C_drewN ?_ _) | (with_reducible refine Kd.C_drew ?_))); (case side2 => first | exact trivial | (exact HC0_0.out)); (case side3 => repeat (first | exact (Kd.C_below HR0_1.out (by repeat (first | (with_reducible first | exact HB.out | apply below_alloc | apply pw_below_drewN | apply below_drew1 | refine below_set ?_ GE792.out | refine below_set ?_ GE811.out) | exact HB.out))) | (with_reducible refine Kd.C_alloc ?_ _) | (with_reducible refine Kd.C_drewN ?_ _) | (with_reducible refine Kd.C_drew ?_))); (case side4 => first | exact trivial | (exact HC0_1.out)); rintro e w71 ⟨v833, v836, rfl, ho0, ho1, hb⟩; refine ⟨_, rfl, ?_⟩; have n0_ := Aside0.mk (Kd.R_elder' (by (with_reducible repeat (first | apply Kd.R_alloc | apply Kd.R_drewN | apply Kd.R_drew)); exact HO_5.out) (Kd.R_base ho0) hb); have n1_ := Aside0.mk (Kd.R_elder' (by (with_reducible repeat (first | apply Kd.R_alloc | apply Kd.R_drewN | apply Kd.R_drew)); exact HO_9.out) (Kd.R_base ho0) hb); have n2_ := Aside0.mk (Kd.R_elder' (by (with_reducible repeat (first | apply Kd.R_alloc | apply Kd.R_drewN | apply Kd.R_drew)); exact HO_812000.out) (Kd.R_base ho0) hb); have n3_ := Aside0.mk (Kd.R_elder' (by (with_reducible repeat (first | apply Kd.R_alloc | apply Kd.R_drewN | apply Kd.R_drew)); exact HO_812001.out) (Kd.R_base ho1) hb); have n4_ := Aside0.mk (Kd.R_lower (Kd.R_new' (Kd.R_new' (Kd.R_new' ho0 (Kd.R_lt (by (with_reducible repeat (first | apply Kd.R_alloc | apply Kd.R_drewN | apply Kd.R_drew)); exact HO_5.out))) (Kd.R_lt (by (with_reducible repeat (first | apply Kd.R_alloc | apply Kd.R_drewN | apply Kd.R_drew)); exact HO_9.out))) (Kd.R_lt (by (with_reducible repeat (first | apply Kd.R_alloc | apply Kd.R_drewN | apply Kd.R_drew)); exact HO_812000.out))) (below_size (by repeat (first | (with_reducible first | exact HB.out | apply below_alloc | apply pw_below_drewN | apply below_drew1 | refine below_set ?_ GE792.out | refine below_set ?_ GE811.out) | exact HB.out)))); have n5_ := Aside0.mk (Kd.R_lower (Kd.R_new' ho1 (Kd.R_lt (by (with_reducible repeat (first | apply Kd.R_alloc | apply Kd.R_drewN | apply Kd.R_drew)); exact HO_812001.out))) (below_size (by repeat (first | (with_reducible first | exact HB.out | apply below_alloc | apply pw_below_drewN | apply below_drew1 | refine below_set ?_ GE792.out | refine below_set ?_ GE811.out) | exact HB.out)))); have n6_ := Aside0.mk (blk_below (g := gb792) (o := .cells #[.slice A0_0 l0_0.length c0_0, .slice A0_1 l0_1.length c0_1] 31 (0, 0)) (by (with_reducible repeat (first | refine blk_drewN ?_ _ | refine blk_drew ?_ | refine blk_alloc ?_ _)); exact BK792.out) hb); have n7_ := Aside0.mk (blk_below (g := gb811) (o := .cells #[.slice Ao23 t826.length co23, .slice Ao26 t827.length co26] 36 (0, 0)) (by (with_reducible repeat (first | refine blk_drewN ?_ _ | refine blk_drew ?_ | refine blk_alloc ?_ _)); exact BK811.out) hb); have n8_ := Aside0.mk (below_step (by repeat (first | (with_reducible first | exact HB.out | apply below_alloc | apply pw_below_drewN | apply below_drew1 | refine below_set ?_ GE792.out | refine below_set ?_ GE811.out) | exact HB.out)) hb); clear HO_5; clear HO_9; clear HO_812000; clear HO_812001; clear BK792; clear BK811; clear HB; have HO_5 := n0_; have HO_9 := n1_; have HO_812000 := n2_; have HO_812001 := n3_; have HO834 := n4_; have HO837 := n5_; have BK792 := n6_; have BK811 := n7_; have HB := n8_; clear n0_ n1_ n2_ n3_ n4_ n5_ n6_ n7_ n8_; (try clear hb); (try clear hb2); (try clear hk); (try clear hi); (try clear ho0); (try clear ho1); obtain ⟨Ao72, co72, eo72⟩ := Kd.R_slice HO834.out; subst eo72; obtain ⟨Ao73, co73, eo73⟩ := Kd.R_slice HO837.out; subst eo73) | ((with_reducible refine gate_callee (f := 44) rfl ?_); refine goesL_ (some 91) rfl rfl Try.func44 (by kernel_rfl) rfl #[.agg #[.slice Ao72 t832.length co72, .slice Ao73 t835.length co73]] rfl (by (try simp only [List.map_toArray, List.map_cons, List.map_nil]); first | done | rfl | (simp only [List.length_drop, List.length_take]; rfl)) ?_; (with_reducible refine (impl_LeastMovedPeriod.calls kj39 _ _ t832 _ _ t835 t838 t839 t842 _ ?side1 ?side2 ?side3 ?side4 A65.out).mono ?_); (case side1 => repeat (first | exact (Kd.R_reads' HO834.out).2.2 | (with_reducible refine Kd.C_alloc ?_ _) | (with_reducible refine Kd.C_drewN ?_ _) | (with_reducible refine Kd.C_drew ?_))); (case side2 => first | exact trivial | (exact (Kd.R_reads' HO834.out).2.1)); (case side3 => repeat (first | exact (Kd.R_reads' HO837.out).2.2 | (with_reducible refine Kd.C_alloc ?_ _) | (with_reducible refine Kd.C_drewN ?_ _) | (with_reducible refine Kd.C_drew ?_))); (case side4 => first | exact trivial | (exact (Kd.R_reads' HO837.out).2.1)); rintro e w74 ⟨v840, rfl, ho0, hb⟩; refine ⟨_, rfl, ?_⟩; have n0_ := Aside0.mk (Kd.R_elder' (by (with_reducible repeat (first | apply Kd.R_alloc | apply Kd.R_drewN | apply Kd.R_drew)); exact HO_5.out) (Kd.R_base ho0) hb); have n1_ := Aside0.mk (Kd.R_elder' (by (with_reducible repeat (first | apply Kd.R_alloc | apply Kd.R_drewN | apply Kd.R_drew)); exact HO_9.out) (Kd.R_base ho0) hb); have n2_ := Aside0.mk (Kd.R_elder' (by (with_reducible repeat (first | apply Kd.R_alloc | apply Kd.R_drewN | apply Kd.R_drew)); exact HO_812000.out) (Kd.R_base ho0) hb); have n3_ := Aside0.mk (Kd.R_below (by (with_reducible repeat (first | apply Kd.R_alloc | apply Kd.R_drewN | apply Kd.R_drew)); exact HO_812001.out) hb); have n4_ := Aside0.mk (Kd.R_elder' (by (with_reducible repeat (first | apply Kd.R_alloc | apply Kd.R_drewN | apply Kd.R_drew)); exact HO834.out) (Kd.R_base ho0) hb); have n5_ := Aside0.mk (Kd.R_below (by (with_reducible repeat (first | apply Kd.R_alloc | apply Kd.R_drewN | apply Kd.R_drew)); exact HO837.out) hb); have n6_ := Aside0.mk (Kd.R_lower (Kd.R_new' (Kd.R_new' (Kd.R_new' (Kd.R_new' ho0 (Kd.R_lt (by (with_reducible repeat (first | apply Kd.R_alloc | apply Kd.R_drewN | apply Kd.R_drew)); exact HO_5.out))) (Kd.R_lt (by (with_reducible repeat (first | apply Kd.R_alloc | apply Kd.R_drewN | apply Kd.R_drew)); exact HO_9.out))) (Kd.R_lt (by (with_reducible repeat (first | apply Kd.R_alloc | apply Kd.R_drewN | apply Kd.R_drew)); exact HO_812000.out))) (Kd.R_lt (by (with_reducible repeat (first | apply Kd.R_alloc | apply Kd.R_drewN | apply Kd.R_drew)); exact HO834.out))) (below_size (by repeat (first | (with_reducible first | exact HB.out | apply below_alloc | apply pw_below_drewN | apply below_drew1 | refine below_set ?_ GE792.out | refine below_set ?_ GE811.out) | exact HB.out)))); have n7_ := Aside0.mk (blk_below (g := gb792) (o := .cells #[.slice A0_0 l0_0.length c0_0, .slice A0_1 l0_1.length c0_1] 31 (0, 0)) (by (with_reducible repeat (first | refine blk_drewN ?_ _ | refine blk_drew ?_ | refine blk_alloc ?_ _)); exact BK792.out) hb); have n8_ := Aside0.mk (blk_below (g := gb811) (o := .cells #[.slice Ao23 t826.length co23, .slice Ao26 t827.length co26] 36 (0, 0)) (by (with_reducible repeat (first | refine blk_drewN ?_ _ | refine blk_drew ?_ | refine blk_alloc ?_ _)); exact BK811.out) hb); have n9_ := Aside0.mk (below_step (by repeat (first | (with_reducible first | exact HB.out | apply below_alloc | apply pw_below_drewN | apply below_drew1 | refine below_set ?_ GE792.out | refine below_set ?_ GE811.out) | exact HB.out)) hb); clear HO_5; clear HO_9; clear HO_812000; clear HO_812001; clear HO834; clear HO837; clear BK792; clear BK811; clear HB; have HO_5 := n0_; have HO_9 := n1_; have HO_812000 := n2_; have HO_812001 := n3_; have HO834 := n4_; have HO837 := n5_; have HO841 := n6_; have BK792 := n7_; have BK811 := n8_; have HB := n9_; clear n0_ n1_ n2_ n3_ n4_ n5_ n6_ n7_ n8_ n9_; (try clear hb); (try clear hb2); (try clear hk); (try clear hi); (try clear ho0)))
           (try simp only [Act.put, List.setIfInBounds_toArray, List.set_cons_zero, List.set_cons_succ])
           go_cut [108] (fun v108 wc => ∃ (kq : Nat) (x108_65 : Bool), v108 = .bool x108_65 ∧ Aside0 (laws_FnExactLeastMovedPeriod.j2 kq t830 t829 x108_65 = some r) ∧ Aside0 (kq ≤ kj39) ∧ Aside0 (Kd.R (Kd.int .i64) 2 wc w.heap.size (fun k_ => some k_ ≠ ((.slice Ao23 t826.length co23) : Value).ownBlock) (.slice Ao67 t813.length co67) t830) ∧ Aside0 (Kd.R (Kd.int .i64) 2 wc w.heap.size (fun k_ => some k_ ≠ ((.slice Ao67 t813.length co67) : Value).ownBlock) (.slice Ao23 t826.length co23) t826) ∧ Aside0 (Kd.R k55 55 wc w.heap.size (fun _ => True) (.slice Ao26 t827.length co26) t827) ∧ Aside0 (wc.heap[gb792]? = some (.cells #[(.slice A0_0 l0_0.length c0_0), (.slice A0_1 l0_1.length c0_1)] 31 (0, 0))) ∧ Aside0 (wc.heap[gb811]? = some (.cells #[(.slice Ao23 t826.length co23), (.slice Ao26 t827.length co26)] 36 (0, 0))) ∧ Aside0 (Below w.heap.size w wc))
           case first =>
            have H := HC66.out
            clear HC66
            by_cases c75 : t838 = t800
            ·rw [if_pos c75] at H
             have c75b0 : (t838 == t800) = true := beq_iff_eq.mpr c75
             have c75b1 : (t838 != t800) = false := bne_eq_false_iff_eq.mpr c75
             clear c75
             (first | rw [c75b0] | (simp only [i64_w, i32_w]; rw [c75b0]) | skip)
             replace H := Option.bind_eq_some_iff.mp H
             obtain ⟨t843, A760, H⟩ := H
             replace H : (if t843 = true then (laws_FnExactLeastMovedPeriod.j2 kj39 t830 t829 (t842 != t804)) else (laws_FnExactLeastMovedPeriod.j2 kj39 t830 t829 true)) = some r := H
             have A76 := Aside0.mk A760
             clear A760
             by_cases c77 : t843 = true
             ·subst c77
              have H1 : (laws_FnExactLeastMovedPeriod.j2 kj39 t830 t829 (t842 != t804)) = some r := by rw [if_pos rfl] at H; exact H
              clear H
              have H := H1
              clear H1
              have H' := Aside0.mk H
              clear H
              obtain ⟨Ao78, co78, eo78⟩ := Kd.R_slice HO841.out
              subst eo78
              obtain ⟨Ao79, co79, eo79⟩ := Kd.R_slice HO_5.out
              subst eo79
              go_wp2_with (first | (go_at_call 17; (with_reducible refine (laws_eqInt64S.calls kj39 _ _ t839 _ _ t801 true _ ?side1 ?side2 ?side3 ?side4 A76.out).mono ?_); (case side1 => repeat (first | exact (Kd.R_reads' HO841.out).2.2 | (with_reducible refine Kd.C_alloc ?_ _) | (with_reducible refine Kd.C_drewN ?_ _) | (with_reducible refine Kd.C_drew ?_))); (case side2 => first | exact trivial | (exact (Kd.R_reads' HO841.out).2.1)); (case side3 => repeat (first | exact (Kd.R_reads' HO_5.out).2.2 | (with_reducible refine Kd.C_alloc ?_ _) | (with_reducible refine Kd.C_drewN ?_ _) | (with_reducible refine Kd.C_drew ?_))); (case side4 => first | exact trivial | (exact (Kd.R_reads' HO_5.out).2.1)); rintro e w' ⟨rfl, ⟨nd, rfl⟩⟩))
              go_meet
              case rel => exact ⟨_, ((t842 != t804)), (by first | rfl | (simp; done) | (simp [*]; done)), H', ⟨by have := HJ10.out; have := HJ39.out; first | omega | exact Nat.le_refl _⟩, ⟨by (try simp only [hl812000_39]); (try simp only [hl812001_39]); (with_reducible repeat (first | apply Kd.R_alloc | apply Kd.R_drewN | apply Kd.R_drew)); exact Kd.R_mono HO_9.out (fun _ hk => hk.1.1.2)⟩, ⟨by (try simp only [hl812000_39]); (try simp only [hl812001_39]); (with_reducible repeat (first | apply Kd.R_alloc | apply Kd.R_drewN | apply Kd.R_drew)); exact Kd.R_mono HO_812000.out (fun _ hk => hk.1.1.2)⟩, ⟨by (try simp only [hl812000_39]); (try simp only [hl812001_39]); (with_reducible repeat (first | apply Kd.R_alloc | apply Kd.R_drewN | apply Kd.R_drew)); exact Kd.R_mono HO_812001.out (fun _ hk => trivial)⟩, ⟨by (try simp only [hl812000_39]); (try simp only [hl812001_39]); (with_reducible repeat (first | refine blk_drewN ?_ _ | refine blk_drew ?_ | refine blk_alloc ?_ _)); exact BK792.out⟩, ⟨by (try simp only [hl812000_39]); (try simp only [hl812001_39]); (with_reducible repeat (first | refine blk_drewN ?_ _ | refine blk_drew ?_ | refine blk_alloc ?_ _)); exact BK811.out⟩, ⟨by repeat (first | (with_reducible first | exact HB.out | apply below_alloc | apply pw_below_drewN | apply below_drew1 | refine below_set ?_ GE792.out | refine below_set ?_ GE811.out) | exact HB.out)⟩⟩
             ·replace c77 := Bool.eq_false_iff.mpr c77
              subst c77
              have H1 : (laws_FnExactLeastMovedPeriod.j2 kj39 t830 t829 true) = some r := by rw [if_neg (show ¬ (false = true) by decide)] at H; exact H
              clear H
              have H := H1
              clear H1
              have H' := Aside0.mk H
              clear H
              obtain ⟨Ao80, co80, eo80⟩ := Kd.R_slice HO841.out
              subst eo80
              obtain ⟨Ao81, co81, eo81⟩ := Kd.R_slice HO_5.out
              subst eo81
              go_wp2_with (first | (go_at_call 17; (with_reducible refine (laws_eqInt64S.calls kj39 _ _ t839 _ _ t801 false _ ?side1 ?side2 ?side3 ?side4 A76.out).mono ?_); (case side1 => repeat (first | exact (Kd.R_reads' HO841.out).2.2 | (with_reducible refine Kd.C_alloc ?_ _) | (with_reducible refine Kd.C_drewN ?_ _) | (with_reducible refine Kd.C_drew ?_))); (case side2 => first | exact trivial | (exact (Kd.R_reads' HO841.out).2.1)); (case side3 => repeat (first | exact (Kd.R_reads' HO_5.out).2.2 | (with_reducible refine Kd.C_alloc ?_ _) | (with_reducible refine Kd.C_drewN ?_ _) | (with_reducible refine Kd.C_drew ?_))); (case side4 => first | exact trivial | (exact (Kd.R_reads' HO_5.out).2.1)); rintro e w' ⟨rfl, ⟨nd, rfl⟩⟩))
              go_meet
              case rel => exact ⟨_, (true), (by first | rfl | (simp; done) | (simp [*]; done)), H', ⟨by have := HJ10.out; have := HJ39.out; first | omega | exact Nat.le_refl _⟩, ⟨by (try simp only [hl812000_39]); (try simp only [hl812001_39]); (with_reducible repeat (first | apply Kd.R_alloc | apply Kd.R_drewN | apply Kd.R_drew)); exact Kd.R_mono HO_9.out (fun _ hk => hk.1.1.2)⟩, ⟨by (try simp only [hl812000_39]); (try simp only [hl812001_39]); (with_reducible repeat (first | apply Kd.R_alloc | apply Kd.R_drewN | apply Kd.R_drew)); exact Kd.R_mono HO_812000.out (fun _ hk => hk.1.1.2)⟩, ⟨by (try simp only [hl812000_39]); (try simp only [hl812001_39]); (with_reducible repeat (first | apply Kd.R_alloc | apply Kd.R_drewN | apply Kd.R_drew)); exact Kd.R_mono HO_812001.out (fun _ hk => trivial)⟩, ⟨by (try simp only [hl812000_39]); (try simp only [hl812001_39]); (with_reducible repeat (first | refine blk_drewN ?_ _ | refine blk_drew ?_ | refine blk_alloc ?_ _)); exact BK792.out⟩, ⟨by (try simp only [hl812000_39]); (try simp only [hl812001_39]); (with_reducible repeat (first | refine blk_drewN ?_ _ | refine blk_drew ?_ | refine blk_alloc ?_ _)); exact BK811.out⟩, ⟨by repeat (first | (with_reducible first | exact HB.out | apply below_alloc | apply pw_below_drewN | apply below_drew1 | refine below_set ?_ GE792.out | refine below_set ?_ GE811.out) | exact HB.out)⟩⟩
            ·rw [if_neg c75] at H
             have c75b0 : (t838 == t800) = false := beq_eq_false_iff_ne.mpr c75
             have c75b1 : (t838 != t800) = true := bne_iff_ne.mpr c75
             (first | rw [c75b0] | (simp only [i64_w, i32_w]; rw [c75b0]) | skip)
             have H' := Aside0.mk H
             clear H
             go_wp2
             go_meet
             case rel => exact ⟨_, (true), (by first | rfl | (simp; done) | (simp [*]; done)), H', ⟨by have := HJ10.out; have := HJ39.out; first | omega | exact Nat.le_refl _⟩, ⟨by (try simp only [hl812000_39]); (try simp only [hl812001_39]); (with_reducible repeat (first | apply Kd.R_alloc | apply Kd.R_drewN | apply Kd.R_drew)); exact Kd.R_mono HO_9.out (fun _ hk => hk.1.1.2)⟩, ⟨by (try simp only [hl812000_39]); (try simp only [hl812001_39]); (with_reducible repeat (first | apply Kd.R_alloc | apply Kd.R_drewN | apply Kd.R_drew)); exact Kd.R_mono HO_812000.out (fun _ hk => hk.1.1.2)⟩, ⟨by (try simp only [hl812000_39]); (try simp only [hl812001_39]); (with_reducible repeat (first | apply Kd.R_alloc | apply Kd.R_drewN | apply Kd.R_drew)); exact Kd.R_mono HO_812001.out (fun _ hk => trivial)⟩, ⟨by (try simp only [hl812000_39]); (try simp only [hl812001_39]); (with_reducible repeat (first | refine blk_drewN ?_ _ | refine blk_drew ?_ | refine blk_alloc ?_ _)); exact BK792.out⟩, ⟨by (try simp only [hl812000_39]); (try simp only [hl812001_39]); (with_reducible repeat (first | refine blk_drewN ?_ _ | refine blk_drew ?_ | refine blk_alloc ?_ _)); exact BK811.out⟩, ⟨by repeat (first | (with_reducible first | exact HB.out | apply below_alloc | apply pw_below_drewN | apply below_drew1 | refine below_set ?_ GE792.out | refine below_set ?_ GE811.out) | exact HB.out)⟩⟩
           case rest =>
            clear HC66
            try clear c1
            try clear c2
            try clear p2
            try clear c3
            try clear c3b0
            try clear c4
            try clear c5
            try clear c6
            try clear c7
            try clear c13
            try clear c18
            try clear c19
            try clear c20
            try clear c22
            try clear c24
            try clear c28
            try clear c28b0
            try clear c28b1
            try clear c30
            try clear c35
            try clear c38
            try clear c43
            try clear c44
            try clear c46
            try clear c49
            try clear c49b0
            try clear c50
            try clear c50b0
            try clear c50b1
            try clear c52
            try clear c57
            try clear c60
            try clear c60b0
            try clear c63
            try clear c63b0
            try clear c63b1
            try clear c69
            try clear c75
            try clear c75b0
            try clear c75b1
            try clear c77
            try clear hcz13_0
            try clear hcz13_1
            try clear hcz15_0
            try clear hcz15_1
            try clear hcz20_0
            try clear hcz20_1
            try clear hcz25_0
            try clear hcz25_1
            try clear hcz47_0
            try clear hcz47_1
            try clear hcz5_0
            try clear hcz5_1
            try clear hcz70_0
            try clear hcz70_1
            try clear hfz13_0
            try clear hfz13_1
            try clear hfz15_0
            try clear hfz15_1
            try clear hfz20_0
            try clear hfz20_1
            try clear hfz25_0
            try clear hfz25_1
            try clear hfz47_0
            try clear hfz47_1
            try clear hfz5_0
            try clear hfz5_1
            try clear hfz70_0
            try clear hfz70_1
            try clear p2
            obtain ⟨kq, x108_65, rfl, HA, HJ65, HO_9, HO_812000, HO_812001, BK792, BK811, HB⟩ := hcut
            have hl9_65 := (Kd.R_reads' HO_9.out).1
            rw [hl9_65] at HO_9
            (try simp only [hl9_65])
            (try simp only [hl9_65] at BK792)
            (try simp only [hl9_65] at BK811)
            (try simp only [hl9_65] at HO_812000)
            (try simp only [hl9_65] at HO_812001)
            cases kq with
            | zero => exact absurd HA.out (by simp [laws_FnExactLeastMovedPeriod.j2])
            | succ kj65 =>
             have H := HA.out
             clear HA
             simp only [laws_FnExactLeastMovedPeriod.j2] at H
             by_cases c82 : x108_65 = true
             ·subst c82
              have H1 : (some false) = some r := by rw [if_pos rfl] at H; exact H
              clear H
              have H := H1
              clear H1
              exact absurd (Option.some.inj (H.trans (congrArg some HRT.out))) (by decide)
             ·replace c82 := Bool.eq_false_iff.mpr c82
              subst c82
              have H1 : ((laws_heldInt64S.f kj65 t830 1).bind fun t844 => (if t844 < 0 then (some false) else (if t844 = t829 then (some true) else (some false)))) = some r := by rw [if_neg (show ¬ (false = true) by decide)] at H; exact H
              clear H
              have H := H1
              clear H1
              replace H := Option.bind_eq_some_iff.mp H
              obtain ⟨t844, A830, H⟩ := H
              replace H : (if t844 < 0 then (some false) else (if t844 = t829 then (some true) else (some false))) = some r := H
              have A83 := Aside0.mk A830
              clear A830
              by_cases c84 : t844 < 0
              ·rw [if_pos c84] at H
               have c84b0 : decide (t844 < 0) = true := decide_eq_true c84
               clear c84
               exact absurd (Option.some.inj (H.trans (congrArg some HRT.out))) (by decide)
              ·rw [if_neg c84] at H
               have c84b0 : decide (t844 < 0) = false := decide_eq_false c84
               clear c84
               by_cases c85 : t844 = t829
               ·rw [if_pos c85] at H
                have c85b0 : (t844 == t829) = true := beq_iff_eq.mpr c85
                have c85b1 : (t844 != t829) = false := bne_eq_false_iff_eq.mpr c85
                clear c85
                obtain rfl := Option.some.inj H
                go_wp2_with (first | ((with_reducible refine gate_callee (f := 19) rfl ?_); refine goesL_ (some 111) rfl rfl Try.func19 (by kernel_rfl) rfl #[.slice Ao67 t830.length co67, .int .i64 1] rfl (by (try simp only [List.map_toArray, List.map_cons, List.map_nil]); first | done | rfl | (simp only [List.length_drop, List.length_take]; rfl)) ?_; (with_reducible refine (laws_heldInt64S.calls kj65 _ _ t830 1 t844 _ ?side1 ?side2 A83.out).mono ?_); (case side1 => repeat (first | exact (Kd.R_reads' HO_9.out).2.2 | (with_reducible refine Kd.C_alloc ?_ _) | (with_reducible refine Kd.C_drewN ?_ _) | (with_reducible refine Kd.C_drew ?_))); (case side2 => first | exact trivial | (exact (Kd.R_reads' HO_9.out).2.1)); rintro e w' ⟨rfl, ⟨nd, rfl⟩⟩; refine ⟨_, rfl, ?_⟩))
                go_ret
                exact ⟨by first | rfl | (simp [errW_none, errW_some] <;> rfl) | (simp [*, errW_none, errW_some] <;> rfl), by repeat (first | (with_reducible first | exact HB.out | apply below_alloc | apply pw_below_drewN | apply below_drew1 | refine below_set ?_ GE792.out | refine below_set ?_ GE811.out) | exact HB.out)⟩
               ·rw [if_neg c85] at H
                have c85b0 : (t844 == t829) = false := beq_eq_false_iff_ne.mpr c85
                have c85b1 : (t844 != t829) = true := bne_iff_ne.mpr c85
                exact absurd (Option.some.inj (H.trans (congrArg some HRT.out))) (by decide)
          ·rw [if_neg c63] at H
           have c63b0 : (t831 == t829) = false := beq_eq_false_iff_ne.mpr c63
           have c63b1 : (t831 != t829) = true := bne_iff_ne.mpr c63
           exact absurd (Option.some.inj (H.trans (congrArg some HRT.out))) (by decide)
     ·replace c38 := Bool.eq_false_iff.mpr c38
      subst c38
      have H1 : (some false) = some r := by rw [if_neg (show ¬ (false = true) by decide)] at H; exact H
      clear H
      have H := H1
      clear H1
      exact absurd (Option.some.inj (H.trans (congrArg some HRT.out))) (by decide)
end Go.Proofs.Ytojpibpjieanhaa.X
end
section
namespace Go.Proofs.Ytojpibpjieanhaa.X
open Go.RowKit Go.Proofs.YtojpibpjieanhaaW.PrintWords Go.Proofs.YtojpibpjieanhaaW.PrintLast Go.Proofs.YtojpibpjieanhaaW.PrintMore Go.Proofs.Ytojpibpjieanhaa.FlowMath Go.Proofs.Ytojpibpjieanhaa.ConsMath
open Go.Proofs.Ytojpibpjieanhaa.FewMath (Fl T Wi dl)
set_option linter.unusedVariables false
set_option linter.unusedSimpArgs false
theorem t_slow {d : List Int} {ws : List S55} {n : Nat} {D : Nat → Int} (h : Slow d ws n D) {a k v : Nat} {x : Int} (hT : T (Wi ws) (dl d) a k v x) : ∃ r S, x = 1000000 * r - S - dl d v ∧ 0 ≤ r ∧ 0 ≤ S ∧ S ≤ 100 * k ∧ (r = 0 → S + D v ≤ D a) := by
  have one : ∀ u v c, Wi ws u v c → 0 ≤ c ∧ (c = 0 → dl d u + D v ≤ D u) := by
    rintro u v c ⟨w, h1, h2, h3, h4⟩
    have ho := h.wok w h1
    unfold WireOk at ho
    refine ⟨by omega, fun hc => ?_⟩
    exact h.slow.far (u, v) ((eds_edge h.wok _).2 ⟨w, h1, by omega, h2, h3⟩)
  have hd : ∀ v, 0 ≤ dl d v ∧ dl d v ≤ 100 := h.del
  induction hT with
  | @one v c hE =>
    obtain ⟨h1, h2⟩ := one _ _ _ hE
    have := hd a
    exact ⟨c, dl d a, by omega, h1, by omega, by omega, h2⟩
  | @snoc m u v x c _ hE ih =>
    obtain ⟨r, S, g1, g2, g3, g4, g5⟩ := ih
    obtain ⟨h1, h2⟩ := one _ _ _ hE
    have := hd u
    refine ⟨r + c, S + dl d u, by omega, by omega, by omega, by omega, fun hr => ?_⟩
    have a1 := g5 (by omega)
    have a2 := h2 (by omega)
    omega
theorem zero_sol {d : List Int} {ws : List S55} {D : Nat → Int} {M : Nat → Nat → Bt} (h : Slow d ws d.length D) (ht : Tab d ws d.length M) {P : Int} (hP : ∀ v, D v ≤ P) : Sol (Cn P d.length ws M) d.length fun _ => 0 := by
  refine ⟨fun v hv => Int.le_refl _, fun u v x hc => ?_⟩
  rcases cn_cases hc with ⟨w, h1, rfl, rfl, rfl⟩ | ⟨h1, h2, hf, hd, rfl⟩
  · obtain ⟨o1, o2, o3, o4, o5, o6⟩ := h.wok w h1
    show (0 : Int) + - w.f2 ≤ 0
    omega
  · obtain ⟨k, k1, hT⟩ := ht.snd u v hf
    obtain ⟨r, S, g1, g2, g3, g4, g5⟩ := t_slow h hT
    have hb := ht.bd u v hf
    have h8 := h.n8
    have hdv := h.del v
    have hdv' : dl d v = fn d v := rfl
    have hown := h.slow.own v
    have hPu := hP u
    show (0 : Int) + (1 - (M u v).r) ≤ 0
    by_cases e : r = 0
    · have := g5 e; omega
    · omega
theorem mv_nul {d : List Int} {ws : List S55} {n : Nat} (hw : ∀ w, w ∈ ws → WireOk n w) : ws.map (mvW (List.replicate n 0)) = ws := by
  conv => rhs; rw [← List.map_id ws]
  refine List.map_congr_left fun w h => ?_
  obtain ⟨o1, o2, o3, o4, o5, o6⟩ := hw w h
  unfold mvW
  rw [← Int.toNat_of_nonneg o1, ← Int.toNat_of_nonneg o3, rd_rep, rd_rep, w64 (n := w.f2 + 0) (by omega) (by omega), w64 (by omega) (by omega), Int.toNat_of_nonneg o1, Int.toNat_of_nonneg o3]
  simp
theorem can_nul {d : List Int} {ws : List S55} (h : validB d ws = true) : canB d ws (List.replicate d.length 0) = true := by
  have h2 : formB d ws = true := by unfold validB at h; rw [Bool.and_eq_true] at h; exact h.1
  obtain ⟨hn, hl, -, hw⟩ := valid_ok h
  unfold canB
  rw [h, mv_nul (d := d) hw, h2, List.length_replicate, decide_eq_true rfl]
  simp only [Bool.true_and, Bool.and_true, List.all_eq_true]
  intro x hx
  rw [List.eq_of_mem_replicate hx]
  decide
theorem rd_over {d : List Int} {P : Int} (h : ∀ v : Nat, v < d.length → rd d (v : Int) ≤ P) : overN P d d.length = false := by
  cases ho : overN P d d.length with
  | false => rfl
  | true =>
    obtain ⟨v, hv, hlt⟩ := (over_iff P d d.length).1 ho
    have := h v hv
    omega
theorem top_ok {d : List Int} {ws : List S55} {D : Nat → Int} {M : Nat → Nat → Bt} (hv : validB d ws = true) (h : Slow d ws d.length D) (ht : Tab d ws d.length M) {P : Int} (hP : ∀ v, D v ≤ P) (K : Nat) (hK : 4000000 < K) (q : List Int × Bool) (hq : impl_Flow_movesFor.f K d ws P (rowsS d.length M) = some q) : q.2 = true := by
  have h1 := ht.fl.n1
  have h8 := ht.fl.n8
  have h16 := ht.fl.m16
  have hdP : ∀ v : Nat, v < d.length → rd d (v : Int) ≤ P := fun v _ => by
    have a1 := h.slow.own v
    have a2 := hP v
    have : rd d (v : Int) = fn d v := rfl
    omega
  obtain ⟨x, hx, hxo⟩ := max_over d P h1 h8 K (by omega)
  have hno : ¬ x > P := fun hh => by have := hxo.1 hh; rw [rd_over hdP] at this; exact Bool.noConfusion this
  unfold impl_Flow_movesFor.f at hq
  rw [hx, Option.bind_some] at hq
  split at hq
  · first | rw [if_neg hno] at hq | skip
    obtain ⟨R, hR, hR2⟩ := mv_res (d := d) (P := P) (M := M) K h8 h16 ht.fl.wok (fun i j hf => by have := ht.bd i j hf; omega) hK
    rw [hR] at hq
    injection hq with hq
    subst hq
    have hz := zero_sol h ht hP
    rcases hR2 with ⟨_, hno⟩ | ⟨m, hm, rfl⟩
    · exact absurd hz (hno _)
    · have hm0 : m = List.replicate d.length 0 := by
        refine rd_ext (by rw [hm.len, List.length_replicate]) fun v hv => ?_
        have b1 := hm.sol.pos v (by rw [← hm.len]; exact hv)
        have b2 := hm.least _ hz v (by rw [← hm.len]; exact hv)
        have b1 : 0 ≤ rd m (v : Int) := b1
        rw [rd_rep]; omega
      subst hm0
      exact can_nul hv
  · cases hq
theorem low_no {d : List Int} {ws : List S55} (hf : Fl d ws d.length) {P x : Int} (K : Nat) (hK : 1000 < K) (hx : slices_Max_int64_int64.f K d = some x) (hP : P < x) : spec_l08For.f K d ws P = some ([], false) := by
  have h1 := hf.n1
  have h8 := hf.n8
  have h16 := hf.m16
  obtain ⟨y, hy, hyo⟩ := max_over d P h1 h8 K hK
  rw [hx] at hy
  injection hy with hy
  subst hy
  have hc1 : 1 ≤ d.length ∧ d.length ≤ 1000000 ∧ ws.length ≤ 1000000 ∧ ∀ w, w ∈ ws → WireIn d.length w := ⟨by omega, by omega, by omega, fun w hw => by
    have := hf.wok w hw
    unfold WireOk at this
    unfold WireIn
    omega⟩
  unfold spec_l08For.f
  rw [if_pos hc1, if_pos (hyo.1 hP)]
theorem least_go {d : List Int} {ws : List S55} {D : Nat → Int} {M : Nat → Nat → Bt} (hv : validB d ws = true) (h : Slow d ws d.length D) (ht : Tab d ws d.length M) (T' : Nat) (hT : T' ≤ 1000) (hD : ∀ v, D v ≤ T') (hper : ∀ k, 2000 < k → impl_Flow_period.f k d ws = some (T' : Int)) :
    ∀ (e p K k f : Nat), p + e = T' → 4000000 < k → k + e ≤ K → e < f → ∃ r : Int × List Int, leastF K d ws f p = some r ∧ impl_LeastMovedPeriod.l0 (k + e + 1) (rowsS d.length M) (p : Int) d ws = some (r.1, r.2, true) ∧ r.2.length ≤ 8 := by
  intro e
  induction e with
  | zero =>
    intro p K k f hp hk hK hf
    obtain ⟨f, rfl⟩ : ∃ g, f = g + 1 := ⟨f - 1, by omega⟩
    obtain ⟨s, q, e1, e2, e3, e4⟩ := for_same ht (p : Int) k hk
    have hpT : p = T' := by omega
    have hq := top_ok hv h ht (P := (p : Int)) (fun v => by rw [hpT]; exact hD v) k hk q e2
    have hsq : s = q := by rcases e3 with e3 | e3
                           · rw [e3.2] at hq; exact Bool.noConfusion hq
                           · exact e3
    have e1 := at_rounds (g := fun k => spec_l08For.f k d ws (p : Int)) (fun k => spec_l08For.mono d ws (p : Int) k) (show k ≤ K by omega) e1
    have e1 : spec_l08For.f K d ws (p : Int) = some s := e1
    subst hsq
    refine ⟨((p : Int), s.1), ?_, ?_, e4 hq⟩
    · rw [leastF, if_pos (by omega), e1, Option.bind_some, if_pos hq]
    · rw [impl_LeastMovedPeriod.l0, hper _ (by omega), Option.bind_some, if_pos (by omega), e2, Option.bind_some, if_pos hq]
  | succ e ih =>
    intro p K k f hp hk hK hf
    obtain ⟨f, rfl⟩ : ∃ g, f = g + 1 := ⟨f - 1, by omega⟩
    obtain ⟨s, q, e1, e2, e3, e4⟩ := for_same ht (p : Int) (k + (e + 1)) (by omega)
    have e1 := at_rounds (g := fun k => spec_l08For.f k d ws (p : Int)) (fun k => spec_l08For.mono d ws (p : Int) k) (show k + (e + 1) ≤ K by omega) e1
    have e1 : spec_l08For.f K d ws (p : Int) = some s := e1
    rw [impl_LeastMovedPeriod.l0, hper _ (by omega), Option.bind_some, if_pos (by omega), e2, Option.bind_some, leastF, if_pos (by omega), e1, Option.bind_some]
    cases hq : q.2 with
    | true =>
      have hsq : s = q := by rcases e3 with e3 | e3
                             · rw [e3.2] at hq; exact Bool.noConfusion hq
                             · exact e3
      subst hsq
      rw [hq]
      exact ⟨((p : Int), s.1), rfl, rfl, e4 hq⟩
    | false =>
      have hs : s.2 = false := by rcases e3 with e3 | e3
                                  · exact e3.1
                                  · rw [e3]; exact hq
      rw [hs, if_neg (by decide), if_neg (by decide), w64 (by omega) (by omega)]
      have := ih (p + 1) K k f (by omega) hk (by omega) (by omega)
      rw [Int.natCast_add, Int.natCast_one] at this
      exact this
theorem least_low {d : List Int} {ws : List S55} (hf : Fl d ws d.length) (x K : Nat) (hK : 1000 < K) (hx : slices_Max_int64_int64.f K d = some (x : Int)) (hx2 : x ≤ 1000) : ∀ (e p f : Nat), p + e = x → leastF K d ws (f + e) p = leastF K d ws f x
  | 0, p, f, hp => by rw [show p = x by omega]; rfl
  | e + 1, p, f, hp => by
    rw [← Nat.add_assoc, leastF, if_pos (by omega), low_no hf K hK hx (by omega), Option.bind_some, if_neg (by decide)]
    exact least_low hf x K hK hx hx2 e (p + 1) f (by omega)
theorem least_same (K : Nat) (d : List Int) (ws : List S55) (h0 : d.length ≤ 2000000) (h1 : ws.length ≤ 2000000) (hK : 9000000 < K) : ∃ r : Int × List Int × Bool, r.2.1.length ≤ 16 ∧ spec_LeastMovedPeriod.f K d ws = some r ∧ impl_LeastMovedPeriod.f K d ws = some r := by
  unfold spec_LeastMovedPeriod.f impl_LeastMovedPeriod.f
  rw [spec_is K d ws (by omega) (by omega) (by omega), impl_valid K d ws (by omega), Option.bind_some, Option.bind_some]
  cases hv : validB d ws with
  | false => exact ⟨_, by simp, rfl, rfl⟩
  | true =>
    rw [if_pos rfl, if_pos rfl]
    obtain ⟨M, g1, ht⟩ := tab_all K d ws hv (by omega)
    obtain ⟨D, hD⟩ := slow_of d ws hv
    have n1 := ht.fl.n1
    have n8 := ht.fl.n8
    have hmx := imax_eq d (by omega) n1 K (by omega)
    obtain ⟨z, z1, z2, z3, z4⟩ := period_both hD K (by omega)
    -- the flow's own period
    have hT0 : 0 ≤ mxl 0 z := by
      rcases Int.lt_or_le (-1) (mxl 0 z) with hq | hq
      · omega
      · have := (mxl_over (-1) z 0).2 (.inl (by omega)); omega
    have hT1 : mxl 0 z ≤ 800 := by
      rcases Int.lt_or_le 800 (mxl 0 z) with hq | hq
      · rcases (mxl_over 800 z 0).1 hq with h3 | ⟨y, h3, h4⟩
        · omega
        · obtain ⟨i, hi, rfl⟩ := List.getElem_of_mem h3
          have a1 := hD.top i
          rw [← z2] at a1
          unfold fn at a1
          rw [List.getD_eq_getElem?_getD, List.getElem?_eq_getElem hi] at a1
          have a1 : z[i] ≤ 800 := a1
          omega
      · exact hq
    have hDT : ∀ v, v < d.length → D v ≤ mxl 0 z := fun v hv => by
      rcases Int.lt_or_le (mxl 0 z) (D v) with hq | hq
      · have : mxl 0 z < mxl 0 z := (mxl_over (mxl 0 z) z 0).2 (.inr ⟨z[v]'(by omega), List.getElem_mem _, by
          have e : fn z v = z[v]'(by omega) := by unfold fn; rw [List.getD_eq_getElem?_getD, List.getElem?_eq_getElem]; rfl
          rw [← e, z2]; exact hq⟩)
        omega
      · exact hq
    have hDT' : ∀ v, D v ≤ mxl 0 z := fun v => by
      rcases Nat.lt_or_ge v d.length with hv | hv
      · exact hDT v hv
      · have e : fn z v = 0 := by unfold fn; rw [List.getD_eq_getElem?_getD, List.getElem?_eq_none (by omega)]; rfl
        rw [← z2, e]; exact hT0
    obtain ⟨T', hT'⟩ : ∃ T' : Nat, mxl 0 z = (T' : Int) := Int.eq_ofNat_of_zero_le hT0
    rw [hT'] at hT1 hDT'
    have hper : ∀ k, 2000 < k → impl_Flow_period.f k d ws = some (T' : Int) := fun k hk => by
      obtain ⟨y, y1, y2, y3, y4⟩ := period_both hD k hk
      have : y = z := fn_ext (by omega) fun v => by rw [y2, z2]
      rw [y4, this, hT']
    -- the greatest delay
    obtain ⟨x', hx'⟩ : ∃ x', x' = mxl d[0] (d.drop 1) := ⟨_, rfl⟩
    rw [← hx'] at hmx
    obtain ⟨y, hy, hyo⟩ := max_over d T' n1 n8 K (by omega)
    rw [hmx] at hy
    injection hy with hy
    subst hy
    have hle : x' ≤ T' := by
      rcases Int.lt_or_le (T' : Int) x' with hq | hq
      · have := hyo.1 hq
        rw [rd_over fun v _ => by
          have a1 := hD.slow.own v
          have a2 := hDT' v
          have : rd d (v : Int) = fn d v := rfl
          omega] at this
        exact Bool.noConfusion this
      · exact hq
    have hge : 0 ≤ x' := by
      obtain ⟨y, hy, hyo⟩ := max_over d (-1) n1 n8 K (by omega)
      rw [hmx] at hy
      injection hy with hy
      subst hy
      have := hyo.2 ((over_iff (-1) d d.length).2 ⟨0, by omega, by have := (hD.del 0).1; have e : rd d ((0 : Nat) : Int) = fn d 0 := rfl; omega⟩)
      omega
    obtain ⟨x, rfl⟩ := Int.eq_ofNat_of_zero_le hge
    obtain ⟨k, hk⟩ : ∃ k, K = k + (T' - x) + 1 := ⟨K - (T' - x) - 1, by omega⟩
    obtain ⟨r, r1, r2, r3⟩ := least_go hv hD ht T' (by omega) hDT' hper (T' - x) x K k (K - x) (by omega) (by omega) (by omega) (by omega)
    have hlow := least_low ht.fl x K (by omega) hmx (by omega) x 0 (K - x) (by omega)
    rw [show K - x + x = K by omega, r1] at hlow
    rw [← hk] at r2
    rw [hlow, g1, Option.bind_some, Option.bind_some, hmx, Option.bind_some, r2]
    exact ⟨(r.1, r.2, true), by show r.2.length ≤ 16; omega, rfl, rfl⟩
theorem FnExactLeastMovedPeriod_pure (l0 : List Int) (l1 : List S96) (h0 : l0.length ≤ 9223372036854775807) (w0 : ∀ n ∈ l0, (Lit.int .i64 n).wf = true) (h1 : l1.length ≤ 9223372036854775807) : ∃ k, laws_FnExactLeastMovedPeriod.f k l0 l1 = some true := by
  obtain ⟨k, hk⟩ : ∃ k : Nat, 20000000 < k := ⟨20000001, by omega⟩
  refine ⟨k + 3, ?_⟩
  unfold laws_FnExactLeastMovedPeriod.f
  obtain ⟨t, ht, hts⟩ := sz_eq l0 l1 h0 h1
  rw [ht, Option.bind_some]
  by_cases ht0 : t < 0
  · rw [if_pos ht0]
  obtain ⟨z0, z1⟩ := hts ht0
  have hlw : (l1.map toW).length ≤ 1048576 := by simp; omega
  obtain ⟨ws, hws⟩ : ∃ ws, ws = l1.map toW := ⟨_, rfl⟩
  have F : ∀ q, 20000000 < q → laws_toFlow.f q l0 l1 = some (l0, ws) := fun q hq => by rw [hws]; exact toFlow_eq q l0 l1 (by omega) (by omega) (by omega)
  rw [← hws] at hlw
  obtain ⟨c, hc1, hc2⟩ : ∃ c : Nat, 10000000 < c ∧ c < 20000000 := ⟨10000001, by omega, by omega⟩
  obtain ⟨R, r0, s0, i0⟩ := least_same c l0 ws (by omega) (by omega) (by omega)
  have S : ∀ q, 20000000 < q → spec_LeastMovedPeriod.f q l0 ws = some R := fun q hq => at_rounds (g := fun k => spec_LeastMovedPeriod.f k l0 ws) (fun k => spec_LeastMovedPeriod.mono l0 ws k) (show c ≤ q by omega) s0
  have I : ∀ q, 20000000 < q → impl_LeastMovedPeriod.f q l0 ws = some R := fun q hq => at_rounds (g := fun k => impl_LeastMovedPeriod.f k l0 ws) (fun k => impl_LeastMovedPeriod.mono l0 ws k) (show c ≤ q by omega) i0
  have E : ∀ q, 20000000 < q → laws_eqInt64S.f q R.2.1 R.2.1 = some true := fun q hq => eqInt64S_refl q _ (by omega) (by omega)
  have E0 : ∀ q, 20000000 < q → laws_eqFlow.f q l0 ws l0 ws = some true := fun q hq => eqFlow_refl q _ _ (by omega) (by omega) (by omega)
  have M0 := markFlow_eq (k + 2) l0 ws (by omega) (by omega) (by omega)
  have M1 := markInt64S_eq (k + 1) R.2.1 1 (by omega) (by omega) (by omega) (by omega)
  have H1 := heldInt64S_eq (k + 1) 1 R.2.1.length (by omega) (by omega) (by omega) (by omega)
  have H2 := heldInt64S_eq k 1 R.2.1.length (by omega) (by omega) (by omega) (by omega)
  rw [if_neg ht0, F _ (by omega)]
  simp only [Option.bind_some]
  rw [S _ (by omega)]
  simp only [Option.bind_some]
  rw [I _ (by omega)]
  simp only [Option.bind_some, if_true]
  rw [E _ (by omega)]
  simp only [Option.bind_some, if_true]
  rw [bne_same, laws_FnExactLeastMovedPeriod.j0, if_neg (by decide), F _ (by omega)]
  simp only [Option.bind_some]
  rw [E0 _ (by omega)]
  simp only [Option.bind_some, if_true]
  rw [M0]
  simp only [Option.bind_some]
  rw [if_neg (by omega), E _ (by omega)]
  simp only [Option.bind_some, if_true]
  rw [bne_same, laws_FnExactLeastMovedPeriod.j1, if_neg (by decide), M1]
  simp only [Option.bind_some]
  rw [H1]
  simp only [Option.bind_some, if_true]
  rw [if_neg (by omega), F _ (by omega)]
  simp only [Option.bind_some]
  rw [I _ (by omega)]
  simp only [Option.bind_some, if_true]
  rw [E _ (by omega)]
  simp only [Option.bind_some, if_true]
  rw [bne_same, laws_FnExactLeastMovedPeriod.j2, if_neg (by decide), H2]
  simp only [Option.bind_some, if_true]
  rw [if_neg (by omega)]
end Go.Proofs.Ytojpibpjieanhaa.X
end
