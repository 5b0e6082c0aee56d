/- My own texts of this seat and its words, merged: Xp11. Conditions: as each lemma says. -/
import Derived.Test.YtojpibpjieanhaaO21
import Derived.Test.YtojpibpjieanhaaO26
import Derived.Test.YtojpibpjieanhaaO25
import Derived.Test.YtojpibpjieanhaaO23
section
-- Written by a program of this session out of the kit's print of the loaded functions: a plain function of a Go function, and its contract.
namespace Go.Proofs.Ytojpibpjieanhaa.X
open Go.RowKit Go.Proofs.YtojpibpjieanhaaW.PrintWords Go.Proofs.YtojpibpjieanhaaW.PrintLast Go.Proofs.YtojpibpjieanhaaW.PrintMore
attribute [local go_sem] max2_int min2_int max_two min_two max_three min_three max_four min_four   -- for this text's walks alone
set_option linter.unusedVariables false
set_option linter.unusedSimpArgs false
mutual
def laws_FnSlowest.j0 : Nat → Int → List Int → Int → Bool → List Int → List (S55) → Option (Bool)
 | 0, _, _, _, _, _, _ => none
 | k + 1, x6, x8, x10, x53, x759000, x759001 => if x53 = true then (some false) else (laws_FnSlowest.l0 k x6 x8 x10 0 0 x759000 x759001)
def laws_FnSlowest.l0 : Nat → Int → List Int → Int → Int → Int → List Int → List (S55) → Option (Bool)
 | 0, _, _, _, _, _, _, _ => none
 | k + 1, x6, x8, x10, x12, x13, x759000, x759001 => if x13 < (x8.length : Int) then (if 0 ≤ x13 then (if (rd x8 x13) < 0 then (laws_FnSlowest.j2 k x6 x8 x10 x12 x13 true x759000 x759001) else (laws_FnSlowest.j2 k x6 x8 x10 x12 x13 (decide ((rd x8 x13) ≥ (x759000.length : Int))) x759000 x759001)) else (none)) else (laws_FnSlowest.l2 k x6 x10 x12 0 0 x759000 x759001)
def laws_FnSlowest.j2 : Nat → Int → List Int → Int → Int → Int → Bool → List Int → List (S55) → Option (Bool)
 | 0, _, _, _, _, _, _, _, _ => none
 | k + 1, x6, x8, x10, x12, x13, x74, x759000, x759001 => if x74 = true then (some false) else (if 0 ≤ x13 then (if x13 < (x8.length : Int) then (if 0 ≤ (rd x8 x13) then (if (rd x8 x13) < (x759000.length : Int) then (laws_FnSlowest.l1 k x6 x8 x10 (wrap64 (x12 + (rd x759000 (rd x8 x13)))) x13 (x13 == 0) 0 x759000 x759001) else (none)) else (none)) else (none)) else (none))
def laws_FnSlowest.l1 : Nat → Int → List Int → Int → Int → Int → Bool → Int → List Int → List (S55) → Option (Bool)
 | 0, _, _, _, _, _, _, _, _, _ => none
 | k + 1, x6, x8, x10, x12, x13, x14, x15, x759000, x759001 => if x15 < (x759001.length : Int) then (if x14 = true then (laws_FnSlowest.l1 k x6 x8 x10 x12 x13 true (wrap64 (x15 + 1)) x759000 x759001) else (if 0 ≤ x15 then (if ((rd_T55 x759001 x15).f2) = 0 then (if 0 ≤ x13 then (if x13 < (x8.length : Int) then (if ((rd_T55 x759001 x15).f1) = (rd x8 x13) then (if 0 ≤ (wrap64 (x13 - 1)) then (if (wrap64 (x13 - 1)) < (x8.length : Int) then (laws_FnSlowest.l1 k x6 x8 x10 x12 x13 (((rd_T55 x759001 x15).f0) == (rd x8 (wrap64 (x13 - 1)))) (wrap64 (x15 + 1)) x759000 x759001) else (none)) else (none)) else (laws_FnSlowest.l1 k x6 x8 x10 x12 x13 false (wrap64 (x15 + 1)) x759000 x759001)) else (none)) else (none)) else (laws_FnSlowest.l1 k x6 x8 x10 x12 x13 false (wrap64 (x15 + 1)) x759000 x759001)) else (none))) else (if x14 = true then (laws_FnSlowest.l0 k x6 x8 x10 x12 (wrap64 (x13 + 1)) x759000 x759001) else (some false))
def laws_FnSlowest.l2 : Nat → Int → Int → Int → Int → Int → List Int → List (S55) → Option (Bool)
 | 0, _, _, _, _, _, _, _ => none
 | k + 1, x6, x10, x12, x16, x17, x759000, x759001 => if x17 < (x759001.length : Int) then (if 0 ≤ x17 then (if ((rd_T55 x759001 x17).f2) = 0 then (if 0 ≤ ((rd_T55 x759001 x17).f0) then (if ((rd_T55 x759001 x17).f0) < (x759000.length : Int) then (if 0 ≤ ((rd_T55 x759001 x17).f1) then (if ((rd_T55 x759001 x17).f1) < (x759000.length : Int) then (if (wrap64 ((rd x759000 ((rd_T55 x759001 x17).f0)) + (rd x759000 ((rd_T55 x759001 x17).f1)))) > x6 then (some false) else (laws_FnSlowest.l2 k x6 x10 x12 (wrap64 (x16 + ((rd_T55 x759001 x17).f2))) (wrap64 (x17 + 1)) x759000 x759001)) else (none)) else (none)) else (none)) else (none)) else (laws_FnSlowest.l2 k x6 x10 x12 (wrap64 (x16 + ((rd_T55 x759001 x17).f2))) (wrap64 (x17 + 1)) x759000 x759001)) else (none)) else (if x12 = x6 then (some (x16 == x10)) else (some false))
end
def laws_FnSlowest.f (k : Nat) (l0 : List Int) (l1 : List Int) : Option (Bool) := (laws_r8Long.f l0 l1).bind fun t751 => (if t751 = true then (some true) else ((spec_R8Flow.f k l0).bind fun bt752 => ((impl_FlowPeriod.f k bt752.1 bt752.2).bind fun bt759 => ((impl_SlowestPath.f k bt752.1 bt752.2).bind fun bt761 => ((impl_RegistersOf.f k bt752.1 bt752.2).bind fun bt765 => (if bt759.2 = true then (if bt761.2 = true then (if bt765.2 = true then (laws_FnSlowest.j0 k bt759.1 bt761.1 bt765.1 ((bt761.1.length : Int) == 0) bt752.1 bt752.2) else (laws_FnSlowest.j0 k bt759.1 bt761.1 bt765.1 true bt752.1 bt752.2)) else (laws_FnSlowest.j0 k bt759.1 bt761.1 bt765.1 true bt752.1 bt752.2)) else (laws_FnSlowest.j0 k bt759.1 bt761.1 bt765.1 true bt752.1 bt752.2)))))))
set_option maxHeartbeats 8000000 in
set_option maxRecDepth 100000 in
theorem laws_FnSlowest.calls (k : Nat) (A0 : Option Addr) (c0 : Nat) (l0 : List Int) (A1 : Option Addr) (c1 : Nat) (l1 : List Int) (r : Bool) (w : World) (hr0 : Kd.C (Kd.int .u8) w A0 l0.length l0) (hc0 : l0.length ≤ c0) (hr1 : Kd.C (Kd.int .u8) w A1 l1.length l1) (hc1 : l1.length ≤ c1) (h : laws_FnSlowest.f k l0 l1 = some r) :
  Calls Try.prog 11 #[.slice A0 l0.length c0, .slice A1 l1.length c1] w fun e w' => e = .returned (.bool r) ∧ Below w.heap.size w w' := by
 have hu36 := Try.underlying36
 have hu55 := Try.underlying55
 have HR0 := Aside0.mk hr0
 have HC0 := Aside0.mk hc0
 clear hr0 hc0
 have HR1 := Aside0.mk hr1
 have HC1 := Aside0.mk hc1
 clear hr1 hc1
 have HB := Aside0.mk (Below.refl w.heap.size w)
 have H : ((laws_r8Long.f l0 l1).bind fun t751 => (if t751 = true then (some true) else ((spec_R8Flow.f k l0).bind fun bt752 => ((impl_FlowPeriod.f k bt752.1 bt752.2).bind fun bt759 => ((impl_SlowestPath.f k bt752.1 bt752.2).bind fun bt761 => ((impl_RegistersOf.f k bt752.1 bt752.2).bind fun bt765 => (if bt759.2 = true then (if bt761.2 = true then (if bt765.2 = true then (laws_FnSlowest.j0 k bt759.1 bt761.1 bt765.1 ((bt761.1.length : Int) == 0) bt752.1 bt752.2) else (laws_FnSlowest.j0 k bt759.1 bt761.1 bt765.1 true bt752.1 bt752.2)) else (laws_FnSlowest.j0 k bt759.1 bt761.1 bt765.1 true bt752.1 bt752.2)) else (laws_FnSlowest.j0 k bt759.1 bt761.1 bt765.1 true bt752.1 bt752.2)))))))) = some r := h
 clear h
 replace H := Option.bind_eq_some_iff.mp H
 obtain ⟨t751, A30, H⟩ := H
 replace H : (if t751 = true then (some true) else ((spec_R8Flow.f k l0).bind fun bt752 => ((impl_FlowPeriod.f k bt752.1 bt752.2).bind fun bt759 => ((impl_SlowestPath.f k bt752.1 bt752.2).bind fun bt761 => ((impl_RegistersOf.f k bt752.1 bt752.2).bind fun bt765 => (if bt759.2 = true then (if bt761.2 = true then (if bt765.2 = true then (laws_FnSlowest.j0 k bt759.1 bt761.1 bt765.1 ((bt761.1.length : Int) == 0) bt752.1 bt752.2) else (laws_FnSlowest.j0 k bt759.1 bt761.1 bt765.1 true bt752.1 bt752.2)) else (laws_FnSlowest.j0 k bt759.1 bt761.1 bt765.1 true bt752.1 bt752.2)) else (laws_FnSlowest.j0 k bt759.1 bt761.1 bt765.1 true bt752.1 bt752.2))))))) = some r := H
 have A3 := Aside0.mk A30
 clear A30
 by_cases c4 : t751 = true
 ·subst c4
  have H1 : (some true) = some r := by rw [if_pos rfl] at H; exact H
  clear H
  have H := H1
  clear H1
  obtain rfl := Option.some.inj H
  go_enter Try.func11, Try.ntmps11
  go_wp2_with (first | (go_at_call 39; (with_reducible refine (laws_r8Long.calls _ _ l0 _ _ l1 true _ ?side1 ?side2 ?side3 ?side4 A3.out).mono ?_); (case side1 => repeat (first | exact HR0.out | (with_reducible refine Kd.C_alloc ?_ _) | (with_reducible refine Kd.C_drewN ?_ _) | (with_reducible refine Kd.C_drew ?_))); (case side2 => first | exact trivial | (exact HC0.out)); (case side3 => repeat (first | exact HR1.out | (with_reducible refine Kd.C_alloc ?_ _) | (with_reducible refine Kd.C_drewN ?_ _) | (with_reducible refine Kd.C_drew ?_))); (case side4 => first | exact trivial | (exact HC1.out)); rintro e w' ⟨rfl, ⟨nd, rfl⟩⟩; (try first | exact ⟨rfl, _, World.drewN_drewN _ _ _⟩ | exact ⟨rfl, _, Eq.trans (World.drewN_drewN _ _ _) (congrArg (World.drewN _) (Nat.add_assoc _ _ _))⟩)))
  repeat (go_quiet (first | (go_at_call 39; (with_reducible refine (laws_r8Long.calls _ _ l0 _ _ l1 true _ ?side1 ?side2 ?side3 ?side4 A3.out).mono ?_); (case side1 => repeat (first | exact HR0.out | (with_reducible refine Kd.C_alloc ?_ _) | (with_reducible refine Kd.C_drewN ?_ _) | (with_reducible refine Kd.C_drew ?_))); (case side2 => first | exact trivial | (exact HC0.out)); (case side3 => repeat (first | exact HR1.out | (with_reducible refine Kd.C_alloc ?_ _) | (with_reducible refine Kd.C_drewN ?_ _) | (with_reducible refine Kd.C_drew ?_))); (case side4 => first | exact trivial | (exact HC1.out)); rintro e w' ⟨rfl, ⟨nd, rfl⟩⟩; (try first | exact ⟨rfl, _, World.drewN_drewN _ _ _⟩ | exact ⟨rfl, _, Eq.trans (World.drewN_drewN _ _ _) (congrArg (World.drewN _) (Nat.add_assoc _ _ _))⟩))); try go_wp2_with (first | (go_at_call 39; (with_reducible refine (laws_r8Long.calls _ _ l0 _ _ l1 true _ ?side1 ?side2 ?side3 ?side4 A3.out).mono ?_); (case side1 => repeat (first | exact HR0.out | (with_reducible refine Kd.C_alloc ?_ _) | (with_reducible refine Kd.C_drewN ?_ _) | (with_reducible refine Kd.C_drew ?_))); (case side2 => first | exact trivial | (exact HC0.out)); (case side3 => repeat (first | exact HR1.out | (with_reducible refine Kd.C_alloc ?_ _) | (with_reducible refine Kd.C_drewN ?_ _) | (with_reducible refine Kd.C_drew ?_))); (case side4 => first | exact trivial | (exact HC1.out)); rintro e w' ⟨rfl, ⟨nd, rfl⟩⟩; (try first | exact ⟨rfl, _, World.drewN_drewN _ _ _⟩ | exact ⟨rfl, _, Eq.trans (World.drewN_drewN _ _ _) (congrArg (World.drewN _) (Nat.add_assoc _ _ _))⟩))))
  go_ret
  exact ⟨by first | rfl | (simp [errW_none, errW_some] <;> rfl) | (simp [*, errW_none, errW_some] <;> rfl), by repeat (first | (with_reducible first | exact HB.out | apply below_alloc | apply pw_below_drewN | apply below_drew1) | exact HB.out)⟩
 ·replace c4 := Bool.eq_false_iff.mpr c4
  subst c4
  have H1 : ((spec_R8Flow.f k l0).bind fun bt752 => ((impl_FlowPeriod.f k bt752.1 bt752.2).bind fun bt759 => ((impl_SlowestPath.f k bt752.1 bt752.2).bind fun bt761 => ((impl_RegistersOf.f k bt752.1 bt752.2).bind fun bt765 => (if bt759.2 = true then (if bt761.2 = true then (if bt765.2 = true then (laws_FnSlowest.j0 k bt759.1 bt761.1 bt765.1 ((bt761.1.length : Int) == 0) bt752.1 bt752.2) else (laws_FnSlowest.j0 k bt759.1 bt761.1 bt765.1 true bt752.1 bt752.2)) else (laws_FnSlowest.j0 k bt759.1 bt761.1 bt765.1 true bt752.1 bt752.2)) else (laws_FnSlowest.j0 k bt759.1 bt761.1 bt765.1 true bt752.1 bt752.2)))))) = some r := by rw [if_neg (show ¬ (false = true) by decide)] at H; exact H
  clear H
  have H := H1
  clear H1
  replace H := Option.bind_eq_some_iff.mp H
  obtain ⟨⟨t752, t755⟩, A50, H⟩ := H
  replace H : ((impl_FlowPeriod.f k t752 t755).bind fun bt759 => ((impl_SlowestPath.f k t752 t755).bind fun bt761 => ((impl_RegistersOf.f k t752 t755).bind fun bt765 => (if bt759.2 = true then (if bt761.2 = true then (if bt765.2 = true then (laws_FnSlowest.j0 k bt759.1 bt761.1 bt765.1 ((bt761.1.length : Int) == 0) t752 t755) else (laws_FnSlowest.j0 k bt759.1 bt761.1 bt765.1 true t752 t755)) else (laws_FnSlowest.j0 k bt759.1 bt761.1 bt765.1 true t752 t755)) else (laws_FnSlowest.j0 k bt759.1 bt761.1 bt765.1 true t752 t755))))) = some r := H
  have A5 := Aside0.mk A50
  clear A50
  replace H := Option.bind_eq_some_iff.mp H
  obtain ⟨⟨t759, t760⟩, A60, H⟩ := H
  replace H : ((impl_SlowestPath.f k t752 t755).bind fun bt761 => ((impl_RegistersOf.f k t752 t755).bind fun bt765 => (if t760 = true then (if bt761.2 = true then (if bt765.2 = true then (laws_FnSlowest.j0 k t759 bt761.1 bt765.1 ((bt761.1.length : Int) == 0) t752 t755) else (laws_FnSlowest.j0 k t759 bt761.1 bt765.1 true t752 t755)) else (laws_FnSlowest.j0 k t759 bt761.1 bt765.1 true t752 t755)) else (laws_FnSlowest.j0 k t759 bt761.1 bt765.1 true t752 t755)))) = some r := H
  have A6 := Aside0.mk A60
  clear A60
  replace H := Option.bind_eq_some_iff.mp H
  obtain ⟨⟨t761, t764⟩, A70, H⟩ := H
  replace H : ((impl_RegistersOf.f k t752 t755).bind fun bt765 => (if t760 = true then (if t764 = true then (if bt765.2 = true then (laws_FnSlowest.j0 k t759 t761 bt765.1 ((t761.length : Int) == 0) t752 t755) else (laws_FnSlowest.j0 k t759 t761 bt765.1 true t752 t755)) else (laws_FnSlowest.j0 k t759 t761 bt765.1 true t752 t755)) else (laws_FnSlowest.j0 k t759 t761 bt765.1 true t752 t755))) = some r := H
  have A7 := Aside0.mk A70
  clear A70
  replace H := Option.bind_eq_some_iff.mp H
  obtain ⟨⟨t765, t766⟩, A80, H⟩ := H
  replace H : (if t760 = true then (if t764 = true then (if t766 = true then (laws_FnSlowest.j0 k t759 t761 t765 ((t761.length : Int) == 0) t752 t755) else (laws_FnSlowest.j0 k t759 t761 t765 true t752 t755)) else (laws_FnSlowest.j0 k t759 t761 t765 true t752 t755)) else (laws_FnSlowest.j0 k t759 t761 t765 true t752 t755)) = some r := H
  have A8 := Aside0.mk A80
  clear A80
  have HC9 := Aside0.mk H
  clear H
  go_enter Try.func11, Try.ntmps11
  go_upto_region 7 with (first | (go_at_call 39; (with_reducible refine (laws_r8Long.calls _ _ l0 _ _ l1 false _ ?side1 ?side2 ?side3 ?side4 A3.out).mono ?_); (case side1 => repeat (first | exact HR0.out | (with_reducible refine Kd.C_alloc ?_ _) | (with_reducible refine Kd.C_drewN ?_ _) | (with_reducible refine Kd.C_drew ?_))); (case side2 => first | exact trivial | (exact HC0.out)); (case side3 => repeat (first | exact HR1.out | (with_reducible refine Kd.C_alloc ?_ _) | (with_reducible refine Kd.C_drewN ?_ _) | (with_reducible refine Kd.C_drew ?_))); (case side4 => first | exact trivial | (exact HC1.out)); rintro e w' ⟨rfl, ⟨nd, rfl⟩⟩; (try first | exact ⟨rfl, _, World.drewN_drewN _ _ _⟩ | exact ⟨rfl, _, Eq.trans (World.drewN_drewN _ _ _) (congrArg (World.drewN _) (Nat.add_assoc _ _ _))⟩)) | (go_at_call 40; (with_reducible refine (spec_R8Flow.calls k _ _ l0 t752 t755 _ ?side1 ?side2 A5.out).mono ?_); (case side1 => repeat (first | exact HR0.out | (with_reducible refine Kd.C_alloc ?_ _) | (with_reducible refine Kd.C_drewN ?_ _) | (with_reducible refine Kd.C_drew ?_))); (case side2 => first | exact trivial | (exact HC0.out)); rintro e w10 ⟨v753, v756, rfl, ho0, ho1, hb⟩; have n0_ := Aside0.mk (Kd.R_lower ho0 (below_size (by repeat (first | (with_reducible first | exact HB.out | apply below_alloc | apply pw_below_drewN | apply below_drew1) | exact HB.out)))); have n1_ := Aside0.mk (Kd.R_lower ho1 (below_size (by repeat (first | (with_reducible first | exact HB.out | apply below_alloc | apply pw_below_drewN | apply below_drew1) | exact HB.out)))); have n2_ := Aside0.mk (below_step (by repeat (first | (with_reducible first | exact HB.out | apply below_alloc | apply pw_below_drewN | apply below_drew1) | exact HB.out)) hb); clear HB; have HO754 := n0_; have HO757 := n1_; have HB := n2_; clear n0_ n1_ n2_; (try clear hb); (try clear hb2); (try clear hk); (try clear hi); (try clear ho0); (try clear ho1)) | ((with_reducible refine gate_dst (N := 5) rfl ?_); (try (refine gate_guard (by rfl) ?_; dsimp only)); refine box_event ?hg (N := 5) ?hd (cs := #[.slice none 0 0, .slice none 0 0]) (t := 36) ?hr ?_; (case hd => rfl); (case hg => rfl); (case hr => first | (go_simp; done) | (go_simp; rfl)); intro gb758 hg w11 hbox hb; have n0_ := Aside0.mk (Kd.R_below (by (with_reducible repeat (first | apply Kd.R_alloc | apply Kd.R_drewN | apply Kd.R_drew)); exact HO754.out) hb); have n1_ := Aside0.mk (Kd.R_below (by (with_reducible repeat (first | apply Kd.R_alloc | apply Kd.R_drewN | apply Kd.R_drew)); exact HO757.out) hb); have n2_ := Aside0.mk (below_step (by repeat (first | (with_reducible first | exact HB.out | apply below_alloc | apply pw_below_drewN | apply below_drew1) | exact HB.out)) hb); have n3_ := Aside0.mk (hbox); have n4_ := Aside0.mk ((by rw [hg]; exact (below_size (by repeat (first | (with_reducible first | exact HB.out | apply below_alloc | apply pw_below_drewN | apply below_drew1) | exact HB.out))) : w.heap.size ≤ gb758)); have n5_ := Aside0.mk ((by rw [hg]; exact (below_size (by repeat (first | (with_reducible first | exact HB.out | apply below_alloc | apply pw_below_drewN | apply below_drew1) | exact HB.out))) : w.heap.size ≤ gb758)); clear HO754; clear HO757; clear HB; have HO754 := n0_; have HO757 := n1_; have HB := n2_; have BK758 := n3_; have GW758 := n4_; have GE758 := n5_; clear n0_ n1_ n2_ n3_ n4_ n5_; clear hb hbox hg; obtain ⟨Ao12, co12, eo12⟩ := Kd.R_slice HO754.out; subst eo12; have hcz13_0 : w11.cell? ⟨gb758, 0, none⟩ = some (.slice none 0 0) := (blk_cell BK758.out 0).trans rfl; have hcz13_1 : w11.cell? ⟨gb758, 1, none⟩ = some (.slice none 0 0) := (blk_cell BK758.out 1).trans rfl; have hfz13_0 := blk_frozen BK758.out 0; have hfz13_1 := blk_frozen BK758.out 1; obtain ⟨Ao14, co14, eo14⟩ := Kd.R_slice HO757.out; subst eo14) | (go_at_call 30; (with_reducible refine (impl_FlowPeriod.calls k _ _ t752 _ _ t755 t759 t760 _ ?side1 ?side2 ?side3 ?side4 A6.out).mono ?_); (case side1 => refine (Kd.R_reads' (e := 2) (base := w.heap.size) (ok := fun k_ => True) (n := t752.length) (c := co12) ?_).2.2; exact (by (with_reducible repeat (first | apply Kd.R_alloc | apply Kd.R_drewN | apply Kd.R_drew)); exact (Kd.R_mono (Kd.R_far (p := ⟨gb758, 1, none⟩) (Kd.R_far (p := ⟨gb758, 0, none⟩) (Kd.R_types HO754.out BK758.out (by decide)) (fun _ hk => hk.2) (.slice Ao12 t752.length co12)) (fun _ hk => hk.2) (.slice Ao14 t755.length co14)) (fun _ h_ => h_.1)))); (case side2 => first | exact trivial | (exact (Kd.R_reads' HO754.out).2.1)); (case side3 => refine (Kd.R_reads' (e := 55) (base := w.heap.size) (ok := fun k_ => True) (n := t755.length) (c := co14) ?_).2.2; exact (by (with_reducible repeat (first | apply Kd.R_alloc | apply Kd.R_drewN | apply Kd.R_drew)); exact (Kd.R_mono (Kd.R_far (p := ⟨gb758, 1, none⟩) (Kd.R_far (p := ⟨gb758, 0, none⟩) (Kd.R_types HO757.out BK758.out (by decide)) (fun _ hk => hk.2) (.slice Ao12 t752.length co12)) (fun _ hk => hk.2) (.slice Ao14 t755.length co14)) (fun _ h_ => h_.1)))); (case side4 => first | exact trivial | (exact (Kd.R_reads' HO757.out).2.1)); rintro e w15 ⟨rfl, hb⟩; have n0_ := Aside0.mk (Kd.R_below (by (with_reducible repeat (first | apply Kd.R_alloc | apply Kd.R_drewN | apply Kd.R_drew)); exact (Kd.R_mono (Kd.R_far (p := ⟨gb758, 1, none⟩) (Kd.R_far (p := ⟨gb758, 0, none⟩) (Kd.R_types HO754.out BK758.out (by decide)) (fun _ hk => hk.2) (.slice Ao12 t752.length co12)) (fun _ hk => hk.2) (.slice Ao14 t755.length co14)) (fun _ h_ => h_.1))) hb); have n1_ := Aside0.mk (Kd.R_below (by (with_reducible repeat (first | apply Kd.R_alloc | apply Kd.R_drewN | apply Kd.R_drew)); exact (Kd.R_mono (Kd.R_far (p := ⟨gb758, 1, none⟩) (Kd.R_far (p := ⟨gb758, 0, none⟩) (Kd.R_types HO757.out BK758.out (by decide)) (fun _ hk => hk.2) (.slice Ao12 t752.length co12)) (fun _ hk => hk.2) (.slice Ao14 t755.length co14)) (fun _ h_ => h_.1))) hb); have n2_ := Aside0.mk (blk_below (g := gb758) (o := .cells #[.slice Ao12 t752.length co12, .slice Ao14 t755.length co14] 36 (0, 0)) (by (with_reducible repeat (first | refine blk_drewN ?_ _ | refine blk_drew ?_ | refine blk_alloc ?_ _)); refine blk_put (cs := #[.slice Ao12 t752.length co12, .slice none 0 0]) ?_ 1 _ rfl; (with_reducible repeat (first | refine blk_drewN ?_ _ | refine blk_drew ?_ | refine blk_alloc ?_ _)); refine blk_put (cs := #[.slice none 0 0, .slice none 0 0]) ?_ 0 _ rfl; (with_reducible repeat (first | refine blk_drewN ?_ _ | refine blk_drew ?_ | refine blk_alloc ?_ _)); exact BK758.out) hb); have n3_ := Aside0.mk (below_step (by repeat (first | (with_reducible first | exact HB.out | apply below_alloc | apply pw_below_drewN | apply below_drew1 | refine below_set ?_ GE758.out) | exact HB.out)) hb); clear HO754; clear HO757; clear BK758; clear HB; have HO754 := n0_; have HO757 := n1_; have BK758 := n2_; have HB := n3_; clear n0_ n1_ n2_ n3_; (try clear hb); (try clear hb2); (try clear hk); (try clear hi); have hcz16_0 : w15.cell? ⟨gb758, 0, none⟩ = some (.slice Ao12 t752.length co12) := (blk_cell BK758.out 0).trans rfl; have hcz16_1 : w15.cell? ⟨gb758, 1, none⟩ = some (.slice Ao14 t755.length co14) := (blk_cell BK758.out 1).trans rfl; have hfz16_0 := blk_frozen BK758.out 0; have hfz16_1 := blk_frozen BK758.out 1) | (go_at_call 38; (with_reducible refine (impl_SlowestPath.calls k _ _ t752 _ _ t755 t761 t764 _ ?side1 ?side2 ?side3 ?side4 A7.out).mono ?_); (case side1 => repeat (first | exact (Kd.R_reads' HO754.out).2.2 | (with_reducible refine Kd.C_alloc ?_ _) | (with_reducible refine Kd.C_drewN ?_ _) | (with_reducible refine Kd.C_drew ?_))); (case side2 => first | exact trivial | (exact (Kd.R_reads' HO754.out).2.1)); (case side3 => repeat (first | exact (Kd.R_reads' HO757.out).2.2 | (with_reducible refine Kd.C_alloc ?_ _) | (with_reducible refine Kd.C_drewN ?_ _) | (with_reducible refine Kd.C_drew ?_))); (case side4 => first | exact trivial | (exact (Kd.R_reads' HO757.out).2.1)); rintro e w17 ⟨v762, rfl, ho0, hb⟩; have n0_ := Aside0.mk (Kd.R_elder' (by (with_reducible repeat (first | apply Kd.R_alloc | apply Kd.R_drewN | apply Kd.R_drew)); exact HO754.out) (Kd.R_base ho0) hb); have n1_ := Aside0.mk (Kd.R_below (by (with_reducible repeat (first | apply Kd.R_alloc | apply Kd.R_drewN | apply Kd.R_drew)); exact HO757.out) hb); have n2_ := Aside0.mk (Kd.R_lower (Kd.R_new' ho0 (Kd.R_lt (by (with_reducible repeat (first | apply Kd.R_alloc | apply Kd.R_drewN | apply Kd.R_drew)); exact HO754.out))) (below_size (by repeat (first | (with_reducible first | exact HB.out | apply below_alloc | apply pw_below_drewN | apply below_drew1 | refine below_set ?_ GE758.out) | exact HB.out)))); have n3_ := Aside0.mk (blk_below (g := gb758) (o := .cells #[.slice Ao12 t752.length co12, .slice Ao14 t755.length co14] 36 (0, 0)) (by (with_reducible repeat (first | refine blk_drewN ?_ _ | refine blk_drew ?_ | refine blk_alloc ?_ _)); exact BK758.out) hb); have n4_ := Aside0.mk (below_step (by repeat (first | (with_reducible first | exact HB.out | apply below_alloc | apply pw_below_drewN | apply below_drew1 | refine below_set ?_ GE758.out) | exact HB.out)) hb); clear HO754; clear HO757; clear BK758; clear HB; have HO754 := n0_; have HO757 := n1_; have HO763 := n2_; have BK758 := n3_; have HB := n4_; clear n0_ n1_ n2_ n3_ n4_; (try clear hb); (try clear hb2); (try clear hk); (try clear hi); (try clear ho0); have hcz18_0 : w17.cell? ⟨gb758, 0, none⟩ = some (.slice Ao12 t752.length co12) := (blk_cell BK758.out 0).trans rfl; have hcz18_1 : w17.cell? ⟨gb758, 1, none⟩ = some (.slice Ao14 t755.length co14) := (blk_cell BK758.out 1).trans rfl; have hfz18_0 := blk_frozen BK758.out 0; have hfz18_1 := blk_frozen BK758.out 1) | (go_at_call 26; (with_reducible refine (impl_RegistersOf.calls k _ _ t752 _ _ t755 t765 t766 _ ?side1 ?side2 ?side3 ?side4 A8.out).mono ?_); (case side1 => repeat (first | exact (Kd.R_reads' HO754.out).2.2 | (with_reducible refine Kd.C_alloc ?_ _) | (with_reducible refine Kd.C_drewN ?_ _) | (with_reducible refine Kd.C_drew ?_))); (case side2 => first | exact trivial | (exact (Kd.R_reads' HO754.out).2.1)); (case side3 => repeat (first | exact (Kd.R_reads' HO757.out).2.2 | (with_reducible refine Kd.C_alloc ?_ _) | (with_reducible refine Kd.C_drewN ?_ _) | (with_reducible refine Kd.C_drew ?_))); (case side4 => first | exact trivial | (exact (Kd.R_reads' HO757.out).2.1)); rintro e w19 ⟨rfl, hb⟩; have n0_ := Aside0.mk (Kd.R_below (by (with_reducible repeat (first | apply Kd.R_alloc | apply Kd.R_drewN | apply Kd.R_drew)); exact HO754.out) hb); have n1_ := Aside0.mk (Kd.R_below (by (with_reducible repeat (first | apply Kd.R_alloc | apply Kd.R_drewN | apply Kd.R_drew)); exact HO757.out) hb); have n2_ := Aside0.mk (Kd.R_below (by (with_reducible repeat (first | apply Kd.R_alloc | apply Kd.R_drewN | apply Kd.R_drew)); exact HO763.out) hb); have n3_ := Aside0.mk (blk_below (g := gb758) (o := .cells #[.slice Ao12 t752.length co12, .slice Ao14 t755.length co14] 36 (0, 0)) (by (with_reducible repeat (first | refine blk_drewN ?_ _ | refine blk_drew ?_ | refine blk_alloc ?_ _)); exact BK758.out) hb); have n4_ := Aside0.mk (below_step (by repeat (first | (with_reducible first | exact HB.out | apply below_alloc | apply pw_below_drewN | apply below_drew1 | refine below_set ?_ GE758.out) | exact HB.out)) hb); clear HO754; clear HO757; clear HO763; clear BK758; clear HB; have HO754 := n0_; have HO757 := n1_; have HO763 := n2_; have BK758 := n3_; have HB := n4_; clear n0_ n1_ n2_ n3_ n4_; (try clear hb); (try clear hb2); (try clear hk); (try clear hi)))
  repeat (go_quiet (first | (go_at_call 39; (with_reducible refine (laws_r8Long.calls _ _ l0 _ _ l1 false _ ?side1 ?side2 ?side3 ?side4 A3.out).mono ?_); (case side1 => repeat (first | exact HR0.out | (with_reducible refine Kd.C_alloc ?_ _) | (with_reducible refine Kd.C_drewN ?_ _) | (with_reducible refine Kd.C_drew ?_))); (case side2 => first | exact trivial | (exact HC0.out)); (case side3 => repeat (first | exact HR1.out | (with_reducible refine Kd.C_alloc ?_ _) | (with_reducible refine Kd.C_drewN ?_ _) | (with_reducible refine Kd.C_drew ?_))); (case side4 => first | exact trivial | (exact HC1.out)); rintro e w' ⟨rfl, ⟨nd, rfl⟩⟩; (try first | exact ⟨rfl, _, World.drewN_drewN _ _ _⟩ | exact ⟨rfl, _, Eq.trans (World.drewN_drewN _ _ _) (congrArg (World.drewN _) (Nat.add_assoc _ _ _))⟩)) | (go_at_call 40; (with_reducible refine (spec_R8Flow.calls k _ _ l0 t752 t755 _ ?side1 ?side2 A5.out).mono ?_); (case side1 => repeat (first | exact HR0.out | (with_reducible refine Kd.C_alloc ?_ _) | (with_reducible refine Kd.C_drewN ?_ _) | (with_reducible refine Kd.C_drew ?_))); (case side2 => first | exact trivial | (exact HC0.out)); rintro e w10 ⟨v753, v756, rfl, ho0, ho1, hb⟩; have n0_ := Aside0.mk (Kd.R_lower ho0 (below_size (by repeat (first | (with_reducible first | exact HB.out | apply below_alloc | apply pw_below_drewN | apply below_drew1) | exact HB.out)))); have n1_ := Aside0.mk (Kd.R_lower ho1 (below_size (by repeat (first | (with_reducible first | exact HB.out | apply below_alloc | apply pw_below_drewN | apply below_drew1) | exact HB.out)))); have n2_ := Aside0.mk (below_step (by repeat (first | (with_reducible first | exact HB.out | apply below_alloc | apply pw_below_drewN | apply below_drew1) | exact HB.out)) hb); clear HB; have HO754 := n0_; have HO757 := n1_; have HB := n2_; clear n0_ n1_ n2_; (try clear hb); (try clear hb2); (try clear hk); (try clear hi); (try clear ho0); (try clear ho1)) | ((with_reducible refine gate_dst (N := 5) rfl ?_); (try (refine gate_guard (by rfl) ?_; dsimp only)); refine box_event ?hg (N := 5) ?hd (cs := #[.slice none 0 0, .slice none 0 0]) (t := 36) ?hr ?_; (case hd => rfl); (case hg => rfl); (case hr => first | (go_simp; done) | (go_simp; rfl)); intro gb758 hg w11 hbox hb; have n0_ := Aside0.mk (Kd.R_below (by (with_reducible repeat (first | apply Kd.R_alloc | apply Kd.R_drewN | apply Kd.R_drew)); exact HO754.out) hb); have n1_ := Aside0.mk (Kd.R_below (by (with_reducible repeat (first | apply Kd.R_alloc | apply Kd.R_drewN | apply Kd.R_drew)); exact HO757.out) hb); have n2_ := Aside0.mk (below_step (by repeat (first | (with_reducible first | exact HB.out | apply below_alloc | apply pw_below_drewN | apply below_drew1) | exact HB.out)) hb); have n3_ := Aside0.mk (hbox); have n4_ := Aside0.mk ((by rw [hg]; exact (below_size (by repeat (first | (with_reducible first | exact HB.out | apply below_alloc | apply pw_below_drewN | apply below_drew1) | exact HB.out))) : w.heap.size ≤ gb758)); have n5_ := Aside0.mk ((by rw [hg]; exact (below_size (by repeat (first | (with_reducible first | exact HB.out | apply below_alloc | apply pw_below_drewN | apply below_drew1) | exact HB.out))) : w.heap.size ≤ gb758)); clear HO754; clear HO757; clear HB; have HO754 := n0_; have HO757 := n1_; have HB := n2_; have BK758 := n3_; have GW758 := n4_; have GE758 := n5_; clear n0_ n1_ n2_ n3_ n4_ n5_; clear hb hbox hg; obtain ⟨Ao12, co12, eo12⟩ := Kd.R_slice HO754.out; subst eo12; have hcz13_0 : w11.cell? ⟨gb758, 0, none⟩ = some (.slice none 0 0) := (blk_cell BK758.out 0).trans rfl; have hcz13_1 : w11.cell? ⟨gb758, 1, none⟩ = some (.slice none 0 0) := (blk_cell BK758.out 1).trans rfl; have hfz13_0 := blk_frozen BK758.out 0; have hfz13_1 := blk_frozen BK758.out 1; obtain ⟨Ao14, co14, eo14⟩ := Kd.R_slice HO757.out; subst eo14) | (go_at_call 30; (with_reducible refine (impl_FlowPeriod.calls k _ _ t752 _ _ t755 t759 t760 _ ?side1 ?side2 ?side3 ?side4 A6.out).mono ?_); (case side1 => refine (Kd.R_reads' (e := 2) (base := w.heap.size) (ok := fun k_ => True) (n := t752.length) (c := co12) ?_).2.2; exact (by (with_reducible repeat (first | apply Kd.R_alloc | apply Kd.R_drewN | apply Kd.R_drew)); exact (Kd.R_mono (Kd.R_far (p := ⟨gb758, 1, none⟩) (Kd.R_far (p := ⟨gb758, 0, none⟩) (Kd.R_types HO754.out BK758.out (by decide)) (fun _ hk => hk.2) (.slice Ao12 t752.length co12)) (fun _ hk => hk.2) (.slice Ao14 t755.length co14)) (fun _ h_ => h_.1)))); (case side2 => first | exact trivial | (exact (Kd.R_reads' HO754.out).2.1)); (case side3 => refine (Kd.R_reads' (e := 55) (base := w.heap.size) (ok := fun k_ => True) (n := t755.length) (c := co14) ?_).2.2; exact (by (with_reducible repeat (first | apply Kd.R_alloc | apply Kd.R_drewN | apply Kd.R_drew)); exact (Kd.R_mono (Kd.R_far (p := ⟨gb758, 1, none⟩) (Kd.R_far (p := ⟨gb758, 0, none⟩) (Kd.R_types HO757.out BK758.out (by decide)) (fun _ hk => hk.2) (.slice Ao12 t752.length co12)) (fun _ hk => hk.2) (.slice Ao14 t755.length co14)) (fun _ h_ => h_.1)))); (case side4 => first | exact trivial | (exact (Kd.R_reads' HO757.out).2.1)); rintro e w15 ⟨rfl, hb⟩; have n0_ := Aside0.mk (Kd.R_below (by (with_reducible repeat (first | apply Kd.R_alloc | apply Kd.R_drewN | apply Kd.R_drew)); exact (Kd.R_mono (Kd.R_far (p := ⟨gb758, 1, none⟩) (Kd.R_far (p := ⟨gb758, 0, none⟩) (Kd.R_types HO754.out BK758.out (by decide)) (fun _ hk => hk.2) (.slice Ao12 t752.length co12)) (fun _ hk => hk.2) (.slice Ao14 t755.length co14)) (fun _ h_ => h_.1))) hb); have n1_ := Aside0.mk (Kd.R_below (by (with_reducible repeat (first | apply Kd.R_alloc | apply Kd.R_drewN | apply Kd.R_drew)); exact (Kd.R_mono (Kd.R_far (p := ⟨gb758, 1, none⟩) (Kd.R_far (p := ⟨gb758, 0, none⟩) (Kd.R_types HO757.out BK758.out (by decide)) (fun _ hk => hk.2) (.slice Ao12 t752.length co12)) (fun _ hk => hk.2) (.slice Ao14 t755.length co14)) (fun _ h_ => h_.1))) hb); have n2_ := Aside0.mk (blk_below (g := gb758) (o := .cells #[.slice Ao12 t752.length co12, .slice Ao14 t755.length co14] 36 (0, 0)) (by (with_reducible repeat (first | refine blk_drewN ?_ _ | refine blk_drew ?_ | refine blk_alloc ?_ _)); refine blk_put (cs := #[.slice Ao12 t752.length co12, .slice none 0 0]) ?_ 1 _ rfl; (with_reducible repeat (first | refine blk_drewN ?_ _ | refine blk_drew ?_ | refine blk_alloc ?_ _)); refine blk_put (cs := #[.slice none 0 0, .slice none 0 0]) ?_ 0 _ rfl; (with_reducible repeat (first | refine blk_drewN ?_ _ | refine blk_drew ?_ | refine blk_alloc ?_ _)); exact BK758.out) hb); have n3_ := Aside0.mk (below_step (by repeat (first | (with_reducible first | exact HB.out | apply below_alloc | apply pw_below_drewN | apply below_drew1 | refine below_set ?_ GE758.out) | exact HB.out)) hb); clear HO754; clear HO757; clear BK758; clear HB; have HO754 := n0_; have HO757 := n1_; have BK758 := n2_; have HB := n3_; clear n0_ n1_ n2_ n3_; (try clear hb); (try clear hb2); (try clear hk); (try clear hi); have hcz16_0 : w15.cell? ⟨gb758, 0, none⟩ = some (.slice Ao12 t752.length co12) := (blk_cell BK758.out 0).trans rfl; have hcz16_1 : w15.cell? ⟨gb758, 1, none⟩ = some (.slice Ao14 t755.length co14) := (blk_cell BK758.out 1).trans rfl; have hfz16_0 := blk_frozen BK758.out 0; have hfz16_1 := blk_frozen BK758.out 1) | (go_at_call 38; (with_reducible refine (impl_SlowestPath.calls k _ _ t752 _ _ t755 t761 t764 _ ?side1 ?side2 ?side3 ?side4 A7.out).mono ?_); (case side1 => repeat (first | exact (Kd.R_reads' HO754.out).2.2 | (with_reducible refine Kd.C_alloc ?_ _) | (with_reducible refine Kd.C_drewN ?_ _) | (with_reducible refine Kd.C_drew ?_))); (case side2 => first | exact trivial | (exact (Kd.R_reads' HO754.out).2.1)); (case side3 => repeat (first | exact (Kd.R_reads' HO757.out).2.2 | (with_reducible refine Kd.C_alloc ?_ _) | (with_reducible refine Kd.C_drewN ?_ _) | (with_reducible refine Kd.C_drew ?_))); (case side4 => first | exact trivial | (exact (Kd.R_reads' HO757.out).2.1)); rintro e w17 ⟨v762, rfl, ho0, hb⟩; have n0_ := Aside0.mk (Kd.R_elder' (by (with_reducible repeat (first | apply Kd.R_alloc | apply Kd.R_drewN | apply Kd.R_drew)); exact HO754.out) (Kd.R_base ho0) hb); have n1_ := Aside0.mk (Kd.R_below (by (with_reducible repeat (first | apply Kd.R_alloc | apply Kd.R_drewN | apply Kd.R_drew)); exact HO757.out) hb); have n2_ := Aside0.mk (Kd.R_lower (Kd.R_new' ho0 (Kd.R_lt (by (with_reducible repeat (first | apply Kd.R_alloc | apply Kd.R_drewN | apply Kd.R_drew)); exact HO754.out))) (below_size (by repeat (first | (with_reducible first | exact HB.out | apply below_alloc | apply pw_below_drewN | apply below_drew1 | refine below_set ?_ GE758.out) | exact HB.out)))); have n3_ := Aside0.mk (blk_below (g := gb758) (o := .cells #[.slice Ao12 t752.length co12, .slice Ao14 t755.length co14] 36 (0, 0)) (by (with_reducible repeat (first | refine blk_drewN ?_ _ | refine blk_drew ?_ | refine blk_alloc ?_ _)); exact BK758.out) hb); have n4_ := Aside0.mk (below_step (by repeat (first | (with_reducible first | exact HB.out | apply below_alloc | apply pw_below_drewN | apply below_drew1 | refine below_set ?_ GE758.out) | exact HB.out)) hb); clear HO754; clear HO757; clear BK758; clear HB; have HO754 := n0_; have HO757 := n1_; have HO763 := n2_; have BK758 := n3_; have HB := n4_; clear n0_ n1_ n2_ n3_ n4_; (try clear hb); (try clear hb2); (try clear hk); (try clear hi); (try clear ho0); have hcz18_0 : w17.cell? ⟨gb758, 0, none⟩ = some (.slice Ao12 t752.length co12) := (blk_cell BK758.out 0).trans rfl; have hcz18_1 : w17.cell? ⟨gb758, 1, none⟩ = some (.slice Ao14 t755.length co14) := (blk_cell BK758.out 1).trans rfl; have hfz18_0 := blk_frozen BK758.out 0; have hfz18_1 := blk_frozen BK758.out 1) | (go_at_call 26; (with_reducible refine (impl_RegistersOf.calls k _ _ t752 _ _ t755 t765 t766 _ ?side1 ?side2 ?side3 ?side4 A8.out).mono ?_); (case side1 => repeat (first | exact (Kd.R_reads' HO754.out).2.2 | (with_reducible refine Kd.C_alloc ?_ _) | (with_reducible refine Kd.C_drewN ?_ _) | (with_reducible refine Kd.C_drew ?_))); (case side2 => first | exact trivial | (exact (Kd.R_reads' HO754.out).2.1)); (case side3 => repeat (first | exact (Kd.R_reads' HO757.out).2.2 | (with_reducible refine Kd.C_alloc ?_ _) | (with_reducible refine Kd.C_drewN ?_ _) | (with_reducible refine Kd.C_drew ?_))); (case side4 => first | exact trivial | (exact (Kd.R_reads' HO757.out).2.1)); rintro e w19 ⟨rfl, hb⟩; have n0_ := Aside0.mk (Kd.R_below (by (with_reducible repeat (first | apply Kd.R_alloc | apply Kd.R_drewN | apply Kd.R_drew)); exact HO754.out) hb); have n1_ := Aside0.mk (Kd.R_below (by (with_reducible repeat (first | apply Kd.R_alloc | apply Kd.R_drewN | apply Kd.R_drew)); exact HO757.out) hb); have n2_ := Aside0.mk (Kd.R_below (by (with_reducible repeat (first | apply Kd.R_alloc | apply Kd.R_drewN | apply Kd.R_drew)); exact HO763.out) hb); have n3_ := Aside0.mk (blk_below (g := gb758) (o := .cells #[.slice Ao12 t752.length co12, .slice Ao14 t755.length co14] 36 (0, 0)) (by (with_reducible repeat (first | refine blk_drewN ?_ _ | refine blk_drew ?_ | refine blk_alloc ?_ _)); exact BK758.out) hb); have n4_ := Aside0.mk (below_step (by repeat (first | (with_reducible first | exact HB.out | apply below_alloc | apply pw_below_drewN | apply below_drew1 | refine below_set ?_ GE758.out) | exact HB.out)) hb); clear HO754; clear HO757; clear HO763; clear BK758; clear HB; have HO754 := n0_; have HO757 := n1_; have HO763 := n2_; have BK758 := n3_; have HB := n4_; clear n0_ n1_ n2_ n3_ n4_; (try clear hb); (try clear hb2); (try clear hk); (try clear hi))); go_upto_region 7 with (first | (go_at_call 39; (with_reducible refine (laws_r8Long.calls _ _ l0 _ _ l1 false _ ?side1 ?side2 ?side3 ?side4 A3.out).mono ?_); (case side1 => repeat (first | exact HR0.out | (with_reducible refine Kd.C_alloc ?_ _) | (with_reducible refine Kd.C_drewN ?_ _) | (with_reducible refine Kd.C_drew ?_))); (case side2 => first | exact trivial | (exact HC0.out)); (case side3 => repeat (first | exact HR1.out | (with_reducible refine Kd.C_alloc ?_ _) | (with_reducible refine Kd.C_drewN ?_ _) | (with_reducible refine Kd.C_drew ?_))); (case side4 => first | exact trivial | (exact HC1.out)); rintro e w' ⟨rfl, ⟨nd, rfl⟩⟩; (try first | exact ⟨rfl, _, World.drewN_drewN _ _ _⟩ | exact ⟨rfl, _, Eq.trans (World.drewN_drewN _ _ _) (congrArg (World.drewN _) (Nat.add_assoc _ _ _))⟩)) | (go_at_call 40; (with_reducible refine (spec_R8Flow.calls k _ _ l0 t752 t755 _ ?side1 ?side2 A5.out).mono ?_); (case side1 => repeat (first | exact HR0.out | (with_reducible refine Kd.C_alloc ?_ _) | (with_reducible refine Kd.C_drewN ?_ _) | (with_reducible refine Kd.C_drew ?_))); (case side2 => first | exact trivial | (exact HC0.out)); rintro e w10 ⟨v753, v756, rfl, ho0, ho1, hb⟩; have n0_ := Aside0.mk (Kd.R_lower ho0 (below_size (by repeat (first | (with_reducible first | exact HB.out | apply below_alloc | apply pw_below_drewN | apply below_drew1) | exact HB.out)))); have n1_ := Aside0.mk (Kd.R_lower ho1 (below_size (by repeat (first | (with_reducible first | exact HB.out | apply below_alloc | apply pw_below_drewN | apply below_drew1) | exact HB.out)))); have n2_ := Aside0.mk (below_step (by repeat (first | (with_reducible first | exact HB.out | apply below_alloc | apply pw_below_drewN | apply below_drew1) | exact HB.out)) hb); clear HB; have HO754 := n0_; have HO757 := n1_; have HB := n2_; clear n0_ n1_ n2_; (try clear hb); (try clear hb2); (try clear hk); (try clear hi); (try clear ho0); (try clear ho1)) | ((with_reducible refine gate_dst (N := 5) rfl ?_); (try (refine gate_guard (by rfl) ?_; dsimp only)); refine box_event ?hg (N := 5) ?hd (cs := #[.slice none 0 0, .slice none 0 0]) (t := 36) ?hr ?_; (case hd => rfl); (case hg => rfl); (case hr => first | (go_simp; done) | (go_simp; rfl)); intro gb758 hg w11 hbox hb; have n0_ := Aside0.mk (Kd.R_below (by (with_reducible repeat (first | apply Kd.R_alloc | apply Kd.R_drewN | apply Kd.R_drew)); exact HO754.out) hb); have n1_ := Aside0.mk (Kd.R_below (by (with_reducible repeat (first | apply Kd.R_alloc | apply Kd.R_drewN | apply Kd.R_drew)); exact HO757.out) hb); have n2_ := Aside0.mk (below_step (by repeat (first | (with_reducible first | exact HB.out | apply below_alloc | apply pw_below_drewN | apply below_drew1) | exact HB.out)) hb); have n3_ := Aside0.mk (hbox); have n4_ := Aside0.mk ((by rw [hg]; exact (below_size (by repeat (first | (with_reducible first | exact HB.out | apply below_alloc | apply pw_below_drewN | apply below_drew1) | exact HB.out))) : w.heap.size ≤ gb758)); have n5_ := Aside0.mk ((by rw [hg]; exact (below_size (by repeat (first | (with_reducible first | exact HB.out | apply below_alloc | apply pw_below_drewN | apply below_drew1) | exact HB.out))) : w.heap.size ≤ gb758)); clear HO754; clear HO757; clear HB; have HO754 := n0_; have HO757 := n1_; have HB := n2_; have BK758 := n3_; have GW758 := n4_; have GE758 := n5_; clear n0_ n1_ n2_ n3_ n4_ n5_; clear hb hbox hg; obtain ⟨Ao12, co12, eo12⟩ := Kd.R_slice HO754.out; subst eo12; have hcz13_0 : w11.cell? ⟨gb758, 0, none⟩ = some (.slice none 0 0) := (blk_cell BK758.out 0).trans rfl; have hcz13_1 : w11.cell? ⟨gb758, 1, none⟩ = some (.slice none 0 0) := (blk_cell BK758.out 1).trans rfl; have hfz13_0 := blk_frozen BK758.out 0; have hfz13_1 := blk_frozen BK758.out 1; obtain ⟨Ao14, co14, eo14⟩ := Kd.R_slice HO757.out; subst eo14) | (go_at_call 30; (with_reducible refine (impl_FlowPeriod.calls k _ _ t752 _ _ t755 t759 t760 _ ?side1 ?side2 ?side3 ?side4 A6.out).mono ?_); (case side1 => refine (Kd.R_reads' (e := 2) (base := w.heap.size) (ok := fun k_ => True) (n := t752.length) (c := co12) ?_).2.2; exact (by (with_reducible repeat (first | apply Kd.R_alloc | apply Kd.R_drewN | apply Kd.R_drew)); exact (Kd.R_mono (Kd.R_far (p := ⟨gb758, 1, none⟩) (Kd.R_far (p := ⟨gb758, 0, none⟩) (Kd.R_types HO754.out BK758.out (by decide)) (fun _ hk => hk.2) (.slice Ao12 t752.length co12)) (fun _ hk => hk.2) (.slice Ao14 t755.length co14)) (fun _ h_ => h_.1)))); (case side2 => first | exact trivial | (exact (Kd.R_reads' HO754.out).2.1)); (case side3 => refine (Kd.R_reads' (e := 55) (base := w.heap.size) (ok := fun k_ => True) (n := t755.length) (c := co14) ?_).2.2; exact (by (with_reducible repeat (first | apply Kd.R_alloc | apply Kd.R_drewN | apply Kd.R_drew)); exact (Kd.R_mono (Kd.R_far (p := ⟨gb758, 1, none⟩) (Kd.R_far (p := ⟨gb758, 0, none⟩) (Kd.R_types HO757.out BK758.out (by decide)) (fun _ hk => hk.2) (.slice Ao12 t752.length co12)) (fun _ hk => hk.2) (.slice Ao14 t755.length co14)) (fun _ h_ => h_.1)))); (case side4 => first | exact trivial | (exact (Kd.R_reads' HO757.out).2.1)); rintro e w15 ⟨rfl, hb⟩; have n0_ := Aside0.mk (Kd.R_below (by (with_reducible repeat (first | apply Kd.R_alloc | apply Kd.R_drewN | apply Kd.R_drew)); exact (Kd.R_mono (Kd.R_far (p := ⟨gb758, 1, none⟩) (Kd.R_far (p := ⟨gb758, 0, none⟩) (Kd.R_types HO754.out BK758.out (by decide)) (fun _ hk => hk.2) (.slice Ao12 t752.length co12)) (fun _ hk => hk.2) (.slice Ao14 t755.length co14)) (fun _ h_ => h_.1))) hb); have n1_ := Aside0.mk (Kd.R_below (by (with_reducible repeat (first | apply Kd.R_alloc | apply Kd.R_drewN | apply Kd.R_drew)); exact (Kd.R_mono (Kd.R_far (p := ⟨gb758, 1, none⟩) (Kd.R_far (p := ⟨gb758, 0, none⟩) (Kd.R_types HO757.out BK758.out (by decide)) (fun _ hk => hk.2) (.slice Ao12 t752.length co12)) (fun _ hk => hk.2) (.slice Ao14 t755.length co14)) (fun _ h_ => h_.1))) hb); have n2_ := Aside0.mk (blk_below (g := gb758) (o := .cells #[.slice Ao12 t752.length co12, .slice Ao14 t755.length co14] 36 (0, 0)) (by (with_reducible repeat (first | refine blk_drewN ?_ _ | refine blk_drew ?_ | refine blk_alloc ?_ _)); refine blk_put (cs := #[.slice Ao12 t752.length co12, .slice none 0 0]) ?_ 1 _ rfl; (with_reducible repeat (first | refine blk_drewN ?_ _ | refine blk_drew ?_ | refine blk_alloc ?_ _)); refine blk_put (cs := #[.slice none 0 0, .slice none 0 0]) ?_ 0 _ rfl; (with_reducible repeat (first | refine blk_drewN ?_ _ | refine blk_drew ?_ | refine blk_alloc ?_ _)); exact BK758.out) hb); have n3_ := Aside0.mk (below_step (by repeat (first | (with_reducible first | exact HB.out | apply below_alloc | apply pw_below_drewN | apply below_drew1 | refine below_set ?_ GE758.out) | exact HB.out)) hb); clear HO754; clear HO757; clear BK758; clear HB; have HO754 := n0_; have HO757 := n1_; have BK758 := n2_; have HB := n3_; clear n0_ n1_ n2_ n3_; (try clear hb); (try clear hb2); (try clear hk); (try clear hi); have hcz16_0 : w15.cell? ⟨gb758, 0, none⟩ = some (.slice Ao12 t752.length co12) := (blk_cell BK758.out 0).trans rfl; have hcz16_1 : w15.cell? ⟨gb758, 1, none⟩ = some (.slice Ao14 t755.length co14) := (blk_cell BK758.out 1).trans rfl; have hfz16_0 := blk_frozen BK758.out 0; have hfz16_1 := blk_frozen BK758.out 1) | (go_at_call 38; (with_reducible refine (impl_SlowestPath.calls k _ _ t752 _ _ t755 t761 t764 _ ?side1 ?side2 ?side3 ?side4 A7.out).mono ?_); (case side1 => repeat (first | exact (Kd.R_reads' HO754.out).2.2 | (with_reducible refine Kd.C_alloc ?_ _) | (with_reducible refine Kd.C_drewN ?_ _) | (with_reducible refine Kd.C_drew ?_))); (case side2 => first | exact trivial | (exact (Kd.R_reads' HO754.out).2.1)); (case side3 => repeat (first | exact (Kd.R_reads' HO757.out).2.2 | (with_reducible refine Kd.C_alloc ?_ _) | (with_reducible refine Kd.C_drewN ?_ _) | (with_reducible refine Kd.C_drew ?_))); (case side4 => first | exact trivial | (exact (Kd.R_reads' HO757.out).2.1)); rintro e w17 ⟨v762, rfl, ho0, hb⟩; have n0_ := Aside0.mk (Kd.R_elder' (by (with_reducible repeat (first | apply Kd.R_alloc | apply Kd.R_drewN | apply Kd.R_drew)); exact HO754.out) (Kd.R_base ho0) hb); have n1_ := Aside0.mk (Kd.R_below (by (with_reducible repeat (first | apply Kd.R_alloc | apply Kd.R_drewN | apply Kd.R_drew)); exact HO757.out) hb); have n2_ := Aside0.mk (Kd.R_lower (Kd.R_new' ho0 (Kd.R_lt (by (with_reducible repeat (first | apply Kd.R_alloc | apply Kd.R_drewN | apply Kd.R_drew)); exact HO754.out))) (below_size (by repeat (first | (with_reducible first | exact HB.out | apply below_alloc | apply pw_below_drewN | apply below_drew1 | refine below_set ?_ GE758.out) | exact HB.out)))); have n3_ := Aside0.mk (blk_below (g := gb758) (o := .cells #[.slice Ao12 t752.length co12, .slice Ao14 t755.length co14] 36 (0, 0)) (by (with_reducible repeat (first | refine blk_drewN ?_ _ | refine blk_drew ?_ | refine blk_alloc ?_ _)); exact BK758.out) hb); have n4_ := Aside0.mk (below_step (by repeat (first | (with_reducible first | exact HB.out | apply below_alloc | apply pw_below_drewN | apply below_drew1 | refine below_set ?_ GE758.out) | exact HB.out)) hb); clear HO754; clear HO757; clear BK758; clear HB; have HO754 := n0_; have HO757 := n1_; have HO763 := n2_; have BK758 := n3_; have HB := n4_; clear n0_ n1_ n2_ n3_ n4_; (try clear hb); (try clear hb2); (try clear hk); (try clear hi); (try clear ho0); have hcz18_0 : w17.cell? ⟨gb758, 0, none⟩ = some (.slice Ao12 t752.length co12) := (blk_cell BK758.out 0).trans rfl; have hcz18_1 : w17.cell? ⟨gb758, 1, none⟩ = some (.slice Ao14 t755.length co14) := (blk_cell BK758.out 1).trans rfl; have hfz18_0 := blk_frozen BK758.out 0; have hfz18_1 := blk_frozen BK758.out 1) | (go_at_call 26; (with_reducible refine (impl_RegistersOf.calls k _ _ t752 _ _ t755 t765 t766 _ ?side1 ?side2 ?side3 ?side4 A8.out).mono ?_); (case side1 => repeat (first | exact (Kd.R_reads' HO754.out).2.2 | (with_reducible refine Kd.C_alloc ?_ _) | (with_reducible refine Kd.C_drewN ?_ _) | (with_reducible refine Kd.C_drew ?_))); (case side2 => first | exact trivial | (exact (Kd.R_reads' HO754.out).2.1)); (case side3 => repeat (first | exact (Kd.R_reads' HO757.out).2.2 | (with_reducible refine Kd.C_alloc ?_ _) | (with_reducible refine Kd.C_drewN ?_ _) | (with_reducible refine Kd.C_drew ?_))); (case side4 => first | exact trivial | (exact (Kd.R_reads' HO757.out).2.1)); rintro e w19 ⟨rfl, hb⟩; have n0_ := Aside0.mk (Kd.R_below (by (with_reducible repeat (first | apply Kd.R_alloc | apply Kd.R_drewN | apply Kd.R_drew)); exact HO754.out) hb); have n1_ := Aside0.mk (Kd.R_below (by (with_reducible repeat (first | apply Kd.R_alloc | apply Kd.R_drewN | apply Kd.R_drew)); exact HO757.out) hb); have n2_ := Aside0.mk (Kd.R_below (by (with_reducible repeat (first | apply Kd.R_alloc | apply Kd.R_drewN | apply Kd.R_drew)); exact HO763.out) hb); have n3_ := Aside0.mk (blk_below (g := gb758) (o := .cells #[.slice Ao12 t752.length co12, .slice Ao14 t755.length co14] 36 (0, 0)) (by (with_reducible repeat (first | refine blk_drewN ?_ _ | refine blk_drew ?_ | refine blk_alloc ?_ _)); exact BK758.out) hb); have n4_ := Aside0.mk (below_step (by repeat (first | (with_reducible first | exact HB.out | apply below_alloc | apply pw_below_drewN | apply below_drew1 | refine below_set ?_ GE758.out) | exact HB.out)) hb); clear HO754; clear HO757; clear HO763; clear BK758; clear HB; have HO754 := n0_; have HO757 := n1_; have HO763 := n2_; have BK758 := n3_; have HB := n4_; clear n0_ n1_ n2_ n3_ n4_; (try clear hb); (try clear hb2); (try clear hk); (try clear hi))))
  (try simp only [Act.put, List.setIfInBounds_toArray, List.set_cons_zero, List.set_cons_succ])
  go_cut [53] (fun v53 wc => ∃ (kq : Nat) (x53_8 : Bool), v53 = .bool x53_8 ∧ Aside0 (laws_FnSlowest.j0 kq t759 t761 t765 x53_8 t752 t755 = some r) ∧ Aside0 (kq ≤ k) ∧ Aside0 (Kd.R (Kd.int .i64) 2 wc w.heap.size (fun k_ => some k_ ≠ ((.slice Ao12 t752.length co12) : Value).ownBlock) v762 t761) ∧ Aside0 (Kd.R (Kd.int .i64) 2 wc w.heap.size (fun k_ => some k_ ≠ (v762 : Value).ownBlock) (.slice Ao12 t752.length co12) t752) ∧ Aside0 (Kd.R k55 55 wc w.heap.size (fun _ => True) (.slice Ao14 t755.length co14) t755) ∧ Aside0 (wc.heap[gb758]? = some (.cells #[(.slice Ao12 t752.length co12), (.slice Ao14 t755.length co14)] 36 (0, 0))) ∧ Aside0 (Below w.heap.size w wc))
  case first =>
   have H := HC9.out
   clear HC9
   by_cases c20 : t760 = true
   ·subst c20
    have H1 : (if t764 = true then (if t766 = true then (laws_FnSlowest.j0 k t759 t761 t765 ((t761.length : Int) == 0) t752 t755) else (laws_FnSlowest.j0 k t759 t761 t765 true t752 t755)) else (laws_FnSlowest.j0 k t759 t761 t765 true t752 t755)) = some r := by rw [if_pos rfl] at H; exact H
    clear H
    have H := H1
    clear H1
    by_cases c21 : t764 = true
    ·subst c21
     have H1 : (if t766 = true then (laws_FnSlowest.j0 k t759 t761 t765 ((t761.length : Int) == 0) t752 t755) else (laws_FnSlowest.j0 k t759 t761 t765 true t752 t755)) = some r := by rw [if_pos rfl] at H; exact H
     clear H
     have H := H1
     clear H1
     by_cases c22 : t766 = true
     ·subst c22
      have H1 : (laws_FnSlowest.j0 k t759 t761 t765 ((t761.length : Int) == 0) t752 t755) = some r := by rw [if_pos rfl] at H; exact H
      clear H
      have H := H1
      clear H1
      have H' := Aside0.mk H
      clear H
      obtain ⟨Ao23, co23, eo23⟩ := Kd.R_slice HO763.out
      subst eo23
      go_wp2
      repeat (go_quiet (fail); try go_wp2)
      go_meet
      case rel => exact ⟨_, (((t761.length : Int) == 0)), (by first | rfl | (simp; done) | (simp [*]; done)), H', ⟨by first | omega | exact Nat.le_refl _⟩, ⟨by (with_reducible repeat (first | apply Kd.R_alloc | apply Kd.R_drewN | apply Kd.R_drew)); exact Kd.R_mono HO763.out (fun _ hk => hk.2)⟩, ⟨by (with_reducible repeat (first | apply Kd.R_alloc | apply Kd.R_drewN | apply Kd.R_drew)); exact Kd.R_mono HO754.out (fun _ hk => hk.2)⟩, ⟨by (with_reducible repeat (first | apply Kd.R_alloc | apply Kd.R_drewN | apply Kd.R_drew)); exact HO757.out⟩, ⟨by (with_reducible repeat (first | refine blk_drewN ?_ _ | refine blk_drew ?_ | refine blk_alloc ?_ _)); exact BK758.out⟩, ⟨by repeat (first | (with_reducible first | exact HB.out | apply below_alloc | apply pw_below_drewN | apply below_drew1 | refine below_set ?_ GE758.out) | exact HB.out)⟩⟩
     ·replace c22 := Bool.eq_false_iff.mpr c22
      subst c22
      have H1 : (laws_FnSlowest.j0 k t759 t761 t765 true t752 t755) = some r := by rw [if_neg (show ¬ (false = true) by decide)] at H; exact H
      clear H
      have H := H1
      clear H1
      have H' := Aside0.mk H
      clear H
      go_wp2
      repeat (go_quiet (fail); try go_wp2)
      go_meet
      case rel => exact ⟨_, (true), (by first | rfl | (simp; done) | (simp [*]; done)), H', ⟨by first | omega | exact Nat.le_refl _⟩, ⟨by (with_reducible repeat (first | apply Kd.R_alloc | apply Kd.R_drewN | apply Kd.R_drew)); exact Kd.R_mono HO763.out (fun _ hk => hk.2)⟩, ⟨by (with_reducible repeat (first | apply Kd.R_alloc | apply Kd.R_drewN | apply Kd.R_drew)); exact Kd.R_mono HO754.out (fun _ hk => hk.2)⟩, ⟨by (with_reducible repeat (first | apply Kd.R_alloc | apply Kd.R_drewN | apply Kd.R_drew)); exact HO757.out⟩, ⟨by (with_reducible repeat (first | refine blk_drewN ?_ _ | refine blk_drew ?_ | refine blk_alloc ?_ _)); exact BK758.out⟩, ⟨by repeat (first | (with_reducible first | exact HB.out | apply below_alloc | apply pw_below_drewN | apply below_drew1 | refine below_set ?_ GE758.out) | exact HB.out)⟩⟩
    ·replace c21 := Bool.eq_false_iff.mpr c21
     subst c21
     have H1 : (laws_FnSlowest.j0 k t759 t761 t765 true t752 t755) = some r := by rw [if_neg (show ¬ (false = true) by decide)] at H; exact H
     clear H
     have H := H1
     clear H1
     have H' := Aside0.mk H
     clear H
     go_wp2
     repeat (go_quiet (fail); try go_wp2)
     go_meet
     case rel => exact ⟨_, (true), (by first | rfl | (simp; done) | (simp [*]; done)), H', ⟨by first | omega | exact Nat.le_refl _⟩, ⟨by (with_reducible repeat (first | apply Kd.R_alloc | apply Kd.R_drewN | apply Kd.R_drew)); exact Kd.R_mono HO763.out (fun _ hk => hk.2)⟩, ⟨by (with_reducible repeat (first | apply Kd.R_alloc | apply Kd.R_drewN | apply Kd.R_drew)); exact Kd.R_mono HO754.out (fun _ hk => hk.2)⟩, ⟨by (with_reducible repeat (first | apply Kd.R_alloc | apply Kd.R_drewN | apply Kd.R_drew)); exact HO757.out⟩, ⟨by (with_reducible repeat (first | refine blk_drewN ?_ _ | refine blk_drew ?_ | refine blk_alloc ?_ _)); exact BK758.out⟩, ⟨by repeat (first | (with_reducible first | exact HB.out | apply below_alloc | apply pw_below_drewN | apply below_drew1 | refine below_set ?_ GE758.out) | exact HB.out)⟩⟩
   ·replace c20 := Bool.eq_false_iff.mpr c20
    subst c20
    have H1 : (laws_FnSlowest.j0 k t759 t761 t765 true t752 t755) = some r := by rw [if_neg (show ¬ (false = true) by decide)] at H; exact H
    clear H
    have H := H1
    clear H1
    have H' := Aside0.mk H
    clear H
    go_wp2
    repeat (go_quiet (fail); try go_wp2)
    go_meet
    case rel => exact ⟨_, (true), (by first | rfl | (simp; done) | (simp [*]; done)), H', ⟨by first | omega | exact Nat.le_refl _⟩, ⟨by (with_reducible repeat (first | apply Kd.R_alloc | apply Kd.R_drewN | apply Kd.R_drew)); exact Kd.R_mono HO763.out (fun _ hk => hk.2)⟩, ⟨by (with_reducible repeat (first | apply Kd.R_alloc | apply Kd.R_drewN | apply Kd.R_drew)); exact Kd.R_mono HO754.out (fun _ hk => hk.2)⟩, ⟨by (with_reducible repeat (first | apply Kd.R_alloc | apply Kd.R_drewN | apply Kd.R_drew)); exact HO757.out⟩, ⟨by (with_reducible repeat (first | refine blk_drewN ?_ _ | refine blk_drew ?_ | refine blk_alloc ?_ _)); exact BK758.out⟩, ⟨by repeat (first | (with_reducible first | exact HB.out | apply below_alloc | apply pw_below_drewN | apply below_drew1 | refine below_set ?_ GE758.out) | exact HB.out)⟩⟩
  case rest =>
   clear HC9
   try clear c1
   try clear c2
   try clear p2
   try clear c4
   try clear c11
   try clear c20
   try clear c21
   try clear c22
   try clear hcz13_0
   try clear hcz13_1
   try clear hcz16_0
   try clear hcz16_1
   try clear hcz18_0
   try clear hcz18_1
   try clear hfz13_0
   try clear hfz13_1
   try clear hfz16_0
   try clear hfz16_1
   try clear hfz18_0
   try clear hfz18_1
   obtain ⟨kq, x53_8, rfl, HA, HJ8, HO_8, HO_759000, HO_759001, BK758, HB⟩ := hcut
   cases kq with
   | zero => exact absurd HA.out (by simp [laws_FnSlowest.j0])
   | succ kj8 =>
    have H := HA.out
    clear HA
    simp only [laws_FnSlowest.j0] at H
    by_cases c24 : x53_8 = true
    ·subst c24
     have H1 : (some false) = some r := by rw [if_pos rfl] at H; exact H
     clear H
     have H := H1
     clear H1
     obtain rfl := Option.some.inj H
     go_wp2
     repeat (go_quiet (fail); try go_wp2)
     go_ret
     exact ⟨by first | rfl | (simp [errW_none, errW_some] <;> rfl) | (simp [*, errW_none, errW_some] <;> rfl), by repeat (first | (with_reducible first | exact HB.out | apply below_alloc | apply pw_below_drewN | apply below_drew1 | refine below_set ?_ GE758.out) | exact HB.out)⟩
    ·replace c24 := Bool.eq_false_iff.mpr c24
     subst c24
     have H1 : (laws_FnSlowest.l0 kj8 t759 t761 t765 0 0 t752 t755) = some r := by rw [if_neg (show ¬ (false = true) by decide)] at H; exact H
     clear H
     have H := H1
     clear H1
     have H' := Aside0.mk H
     clear H
     go_wp2
     repeat (go_quiet (fail); try go_wp2)
     go_loopg [12, 13] kj8 (fun kq v12 v13 w' => ∃ (x12_2 : Int) (x13_2 : Int), v12 = .int .i64 x12_2 ∧ v13 = .int .i64 x13_2 ∧ Aside0 (laws_FnSlowest.l0 kq t759 t761 t765 x12_2 x13_2 t752 t755 = some r) ∧ Aside0 (kq ≤ kj8) ∧ Aside0 (Kd.R (Kd.int .i64) 2 w' w.heap.size (fun k_ => some k_ ≠ ((.slice Ao12 t752.length co12) : Value).ownBlock) v762 t761) ∧ Aside0 (Kd.R (Kd.int .i64) 2 w' w.heap.size (fun k_ => some k_ ≠ (v762 : Value).ownBlock) (.slice Ao12 t752.length co12) t752) ∧ Aside0 (Kd.R k55 55 w' w.heap.size (fun _ => True) (.slice Ao14 t755.length co14) t755) ∧ Aside0 (w'.heap[gb758]? = some (.cells #[(.slice Ao12 t752.length co12), (.slice Ao14 t755.length co14)] 36 (0, 0))) ∧ Aside0 (Below w.heap.size w w'))
     case atStart => exact ⟨(0), (0), (by first | rfl | (simp; done) | (simp [*]; done)), (by first | rfl | (simp; done) | (simp [*]; done)), H', ⟨Nat.le_refl _⟩, ⟨by (with_reducible repeat (first | apply Kd.R_alloc | apply Kd.R_drewN | apply Kd.R_drew)); exact HO_8.out⟩, ⟨by (with_reducible repeat (first | apply Kd.R_alloc | apply Kd.R_drewN | apply Kd.R_drew)); exact HO_759000.out⟩, ⟨by (with_reducible repeat (first | apply Kd.R_alloc | apply Kd.R_drewN | apply Kd.R_drew)); exact HO_759001.out⟩, ⟨by (with_reducible repeat (first | refine blk_drewN ?_ _ | refine blk_drew ?_ | refine blk_alloc ?_ _)); exact BK758.out⟩, ⟨by repeat (first | (with_reducible first | exact HB.out | apply below_alloc | apply pw_below_drewN | apply below_drew1 | refine below_set ?_ GE758.out) | exact HB.out)⟩⟩
     case round =>
      clear H'
      try clear c1
      try clear c2
      try clear p2
      try clear c4
      try clear c11
      try clear c20
      try clear c21
      try clear c22
      try clear c24
      try clear hcz13_0
      try clear hcz13_1
      try clear hcz16_0
      try clear hcz16_1
      try clear hcz18_0
      try clear hcz18_1
      try clear hfz13_0
      try clear hfz13_1
      try clear hfz16_0
      try clear hfz16_1
      try clear hfz18_0
      try clear hfz18_1
      try clear p2
      obtain ⟨x12_2, x13_2, rfl, rfl, HA, HK2, HO_8, HO_759000, HO_759001, BK758, HB⟩ := hrel
      cases gk with
      | zero => exact absurd HA.out (by simp [laws_FnSlowest.l0])
      | succ k2 =>
       have H := HA.out
       clear HA
       simp only [laws_FnSlowest.l0] at H
       by_cases c25 : x13_2 < (t761.length : Int)
       ·rw [if_pos c25] at H
        have c25b0 : decide (x13_2 < (t761.length : Int)) = true := decide_eq_true c25
        clear c25
        have HC26 := Aside0.mk H
        clear H
        obtain ⟨Ao27, co27, eo27⟩ := Kd.R_slice HO_8.out
        subst eo27
        go_upto_region 13 with (fail)
        repeat (go_quiet (fail); go_upto_region 13 with (fail))
        go_cut [74] (fun v74 wc => ∃ (kq : Nat) (x74_25 : Bool), v74 = .bool x74_25 ∧ Aside0 (laws_FnSlowest.j2 kq t759 t761 t765 x12_2 x13_2 x74_25 t752 t755 = some r) ∧ Aside0 (kq ≤ k2) ∧ Aside0 (Kd.R (Kd.int .i64) 2 wc w.heap.size (fun k_ => some k_ ≠ ((.slice Ao12 t752.length co12) : Value).ownBlock) (.slice Ao27 t761.length co27) t761) ∧ Aside0 (Kd.R (Kd.int .i64) 2 wc w.heap.size (fun k_ => some k_ ≠ ((.slice Ao27 t761.length co27) : Value).ownBlock) (.slice Ao12 t752.length co12) t752) ∧ Aside0 (Kd.R k55 55 wc w.heap.size (fun _ => True) (.slice Ao14 t755.length co14) t755) ∧ Aside0 (wc.heap[gb758]? = some (.cells #[(.slice Ao12 t752.length co12), (.slice Ao14 t755.length co14)] 36 (0, 0))) ∧ Aside0 (Below w.heap.size w wc))
        case first =>
         have H := HC26.out
         clear HC26
         by_cases c28 : 0 ≤ x13_2
         ·rw [if_pos c28] at H
          have c28b0 : decide (0 ≤ x13_2) = true := decide_eq_true c28
          clear c28
          (first | rw [c28b0] | (simp only [i64_w, i32_w]; rw [c28b0]) | skip)
          by_cases c29 : (rd t761 x13_2) < 0
          ·rw [if_pos c29] at H
           have c29b0 : decide ((rd t761 x13_2) < 0) = true := decide_eq_true c29
           clear c29
           have H' := Aside0.mk H
           clear H
           have p767 : 0 ≤ (x13_2 : Int) := of_decide_eq_true (by first | (with_reducible assumption) | assumption)
           have q767 : x13_2 < (t761.length : Int) := of_decide_eq_true (by first | (with_reducible assumption) | assumption)
           obtain ⟨ad767, e767, hx767_0⟩ := Kd.at_int (Kd.R_reads' HO_8.out).2.2 x13_2 p767 q767
           cases e767
           replace p767 := eq_true p767
           replace q767 := eq_true q767
           go_wp2
           repeat (go_quiet (fail); try go_wp2)
           go_meet
           case rel => exact ⟨_, (true), (by first | rfl | (simp; done) | (simp [*]; done)), H', ⟨by have := HJ8.out; have := HK2.out; first | omega | exact Nat.le_refl _⟩, ⟨by (with_reducible repeat (first | apply Kd.R_alloc | apply Kd.R_drewN | apply Kd.R_drew)); exact HO_8.out⟩, ⟨by (with_reducible repeat (first | apply Kd.R_alloc | apply Kd.R_drewN | apply Kd.R_drew)); exact HO_759000.out⟩, ⟨by (with_reducible repeat (first | apply Kd.R_alloc | apply Kd.R_drewN | apply Kd.R_drew)); exact HO_759001.out⟩, ⟨by (with_reducible repeat (first | refine blk_drewN ?_ _ | refine blk_drew ?_ | refine blk_alloc ?_ _)); exact BK758.out⟩, ⟨by repeat (first | (with_reducible first | exact HB.out | apply below_alloc | apply pw_below_drewN | apply below_drew1 | refine below_set ?_ GE758.out) | exact HB.out)⟩⟩
          ·rw [if_neg c29] at H
           have c29b0 : decide ((rd t761 x13_2) < 0) = false := decide_eq_false c29
           clear c29
           have H' := Aside0.mk H
           clear H
           have p767 : 0 ≤ (x13_2 : Int) := of_decide_eq_true (by first | (with_reducible assumption) | assumption)
           have q767 : x13_2 < (t761.length : Int) := of_decide_eq_true (by first | (with_reducible assumption) | assumption)
           obtain ⟨ad767, e767, hx767_0⟩ := Kd.at_int (Kd.R_reads' HO_8.out).2.2 x13_2 p767 q767
           cases e767
           replace p767 := eq_true p767
           replace q767 := eq_true q767
           have p768 : 0 ≤ (x13_2 : Int) := of_decide_eq_true (by first | (with_reducible assumption) | assumption)
           have q768 : x13_2 < (t761.length : Int) := of_decide_eq_true (by first | (with_reducible assumption) | assumption)
           obtain ⟨ad768, e768, hx768_0⟩ := Kd.at_int (Kd.R_reads' HO_8.out).2.2 x13_2 p768 q768
           obtain rfl : ad767 = ad768 := (by injection e768)
           replace p768 := eq_true p768
           replace q768 := eq_true q768
           have hcz30_0 : wr.cell? ⟨gb758, 0, none⟩ = some (.slice Ao12 t752.length co12) := (blk_cell BK758.out 0).trans rfl
           have hcz30_1 : wr.cell? ⟨gb758, 1, none⟩ = some (.slice Ao14 t755.length co14) := (blk_cell BK758.out 1).trans rfl
           have hfz30_0 := blk_frozen BK758.out 0
           have hfz30_1 := blk_frozen BK758.out 1
           go_wp2
           repeat (go_quiet (fail); try go_wp2)
           go_meet
           case rel => exact ⟨_, (decide ((rd t761 x13_2) ≥ (t752.length : Int))), (by first | rfl | (simp; done) | (simp [*]; done)), H', ⟨by have := HJ8.out; have := HK2.out; first | omega | exact Nat.le_refl _⟩, ⟨by (with_reducible repeat (first | apply Kd.R_alloc | apply Kd.R_drewN | apply Kd.R_drew)); exact HO_8.out⟩, ⟨by (with_reducible repeat (first | apply Kd.R_alloc | apply Kd.R_drewN | apply Kd.R_drew)); exact HO_759000.out⟩, ⟨by (with_reducible repeat (first | apply Kd.R_alloc | apply Kd.R_drewN | apply Kd.R_drew)); exact HO_759001.out⟩, ⟨by (with_reducible repeat (first | refine blk_drewN ?_ _ | refine blk_drew ?_ | refine blk_alloc ?_ _)); exact BK758.out⟩, ⟨by repeat (first | (with_reducible first | exact HB.out | apply below_alloc | apply pw_below_drewN | apply below_drew1 | refine below_set ?_ GE758.out) | exact HB.out)⟩⟩
         ·rw [if_neg c28] at H
          exact absurd H (by simp)
        case rest =>
         clear HC26
         try clear c1
         try clear c2
         try clear p2
         try clear c4
         try clear p7
         try clear q7
         try clear hx7
         try clear c11
         try clear c20
         try clear c21
         try clear c22
         try clear c24
         try clear c25
         try clear c25b0
         try clear c28
         try clear c28b0
         try clear c29
         try clear c29b0
         try clear hcz13_0
         try clear hcz13_1
         try clear hcz16_0
         try clear hcz16_1
         try clear hcz18_0
         try clear hcz18_1
         try clear hcz30_0
         try clear hcz30_1
         try clear hfz13_0
         try clear hfz13_1
         try clear hfz16_0
         try clear hfz16_1
         try clear hfz18_0
         try clear hfz18_1
         try clear hfz30_0
         try clear hfz30_1
         try clear hx767_0
         try clear hx768_0
         try clear p2
         try clear p767
         try clear p768
         try clear q767
         try clear q768
         obtain ⟨kq, x74_25, rfl, HA, HJ25, HO_8, HO_759000, HO_759001, BK758, HB⟩ := hcut
         cases kq with
         | zero => exact absurd HA.out (by simp [laws_FnSlowest.j2])
         | succ kj25 =>
          have H := HA.out
          clear HA
          simp only [laws_FnSlowest.j2] at H
          by_cases c31 : x74_25 = true
          ·subst c31
           have H1 : (some false) = some r := by rw [if_pos rfl] at H; exact H
           clear H
           have H := H1
           clear H1
           obtain rfl := Option.some.inj H
           go_wp2
           repeat (go_quiet (fail); try go_wp2)
           go_ret
           exact ⟨by first | rfl | (simp [errW_none, errW_some] <;> rfl) | (simp [*, errW_none, errW_some] <;> rfl), by repeat (first | (with_reducible first | exact HB.out | apply below_alloc | apply pw_below_drewN | apply below_drew1 | refine below_set ?_ GE758.out) | exact HB.out)⟩
          ·replace c31 := Bool.eq_false_iff.mpr c31
           subst c31
           have H1 : (if 0 ≤ x13_2 then (if x13_2 < (t761.length : Int) then (if 0 ≤ (rd t761 x13_2) then (if (rd t761 x13_2) < (t752.length : Int) then (laws_FnSlowest.l1 kj25 t759 t761 t765 (wrap64 (x12_2 + (rd t752 (rd t761 x13_2)))) x13_2 (x13_2 == 0) 0 t752 t755) else (none)) else (none)) else (none)) else (none)) = some r := by rw [if_neg (show ¬ (false = true) by decide)] at H; exact H
           clear H
           have H := H1
           clear H1
           by_cases c32 : 0 ≤ x13_2
           ·rw [if_pos c32] at H
            have c32b0 : decide (0 ≤ x13_2) = true := decide_eq_true c32
            clear c32
            by_cases c33 : x13_2 < (t761.length : Int)
            ·rw [if_pos c33] at H
             have c33b0 : decide (x13_2 < (t761.length : Int)) = true := decide_eq_true c33
             clear c33
             by_cases c34 : 0 ≤ (rd t761 x13_2)
             ·rw [if_pos c34] at H
              have c34b0 : decide (0 ≤ (rd t761 x13_2)) = true := decide_eq_true c34
              clear c34
              by_cases c35 : (rd t761 x13_2) < (t752.length : Int)
              ·rw [if_pos c35] at H
               have c35b0 : decide ((rd t761 x13_2) < (t752.length : Int)) = true := decide_eq_true c35
               clear c35
               have H' := Aside0.mk H
               clear H
               have hcz36_0 : wc.cell? ⟨gb758, 0, none⟩ = some (.slice Ao12 t752.length co12) := (blk_cell BK758.out 0).trans rfl
               have hcz36_1 : wc.cell? ⟨gb758, 1, none⟩ = some (.slice Ao14 t755.length co14) := (blk_cell BK758.out 1).trans rfl
               have hfz36_0 := blk_frozen BK758.out 0
               have hfz36_1 := blk_frozen BK758.out 1
               have p769 : 0 ≤ (x13_2 : Int) := of_decide_eq_true (by first | (with_reducible assumption) | assumption)
               have q769 : x13_2 < (t761.length : Int) := of_decide_eq_true (by first | (with_reducible assumption) | assumption)
               obtain ⟨ad769, e769, hx769_0⟩ := Kd.at_int (Kd.R_reads' HO_8.out).2.2 x13_2 p769 q769
               cases e769
               replace p769 := eq_true p769
               replace q769 := eq_true q769
               have p770 : 0 ≤ ((rd t761 x13_2) : Int) := of_decide_eq_true (by first | (with_reducible assumption) | assumption)
               have q770 : (rd t761 x13_2) < (t752.length : Int) := of_decide_eq_true (by first | (with_reducible assumption) | assumption)
               obtain ⟨ad770, e770, hx770_0⟩ := Kd.at_int (Kd.R_reads' HO_759000.out).2.2 (rd t761 x13_2) p770 q770
               cases e770
               replace p770 := eq_true p770
               replace q770 := eq_true q770
               go_wp2
               repeat (go_quiet (fail); try go_wp2)
               go_loopg [14, 15] kj25 (fun kq v14 v15 w' => ∃ (x14_4 : Bool) (x15_4 : Int), v14 = .bool x14_4 ∧ v15 = .int .i64 x15_4 ∧ Aside0 (laws_FnSlowest.l1 kq t759 t761 t765 (wrap64 (x12_2 + (rd t752 (rd t761 x13_2)))) x13_2 x14_4 x15_4 t752 t755 = some r) ∧ Aside0 (kq ≤ kj25) ∧ Aside0 (Kd.R (Kd.int .i64) 2 w' w.heap.size (fun k_ => some k_ ≠ ((.slice (some ad770) t752.length co12) : Value).ownBlock) (.slice (some ad769) t761.length co27) t761) ∧ Aside0 (Kd.R (Kd.int .i64) 2 w' w.heap.size (fun k_ => some k_ ≠ ((.slice (some ad769) t761.length co27) : Value).ownBlock) (.slice (some ad770) t752.length co12) t752) ∧ Aside0 (Kd.R k55 55 w' w.heap.size (fun _ => True) (.slice Ao14 t755.length co14) t755) ∧ Aside0 (w'.heap[gb758]? = some (.cells #[(.slice (some ad770) t752.length co12), (.slice Ao14 t755.length co14)] 36 (0, 0))) ∧ Aside0 (Below w.heap.size w w'))
               case atStart => exact ⟨((x13_2 == 0)), (0), (by first | rfl | (simp; done) | (simp [*]; done)), (by first | rfl | (simp; done) | (simp [*]; done)), H', ⟨Nat.le_refl _⟩, ⟨by (with_reducible repeat (first | apply Kd.R_alloc | apply Kd.R_drewN | apply Kd.R_drew)); exact HO_8.out⟩, ⟨by (with_reducible repeat (first | apply Kd.R_alloc | apply Kd.R_drewN | apply Kd.R_drew)); exact HO_759000.out⟩, ⟨by (with_reducible repeat (first | apply Kd.R_alloc | apply Kd.R_drewN | apply Kd.R_drew)); exact HO_759001.out⟩, ⟨by (with_reducible repeat (first | refine blk_drewN ?_ _ | refine blk_drew ?_ | refine blk_alloc ?_ _)); exact BK758.out⟩, ⟨by repeat (first | (with_reducible first | exact HB.out | apply below_alloc | apply pw_below_drewN | apply below_drew1 | refine below_set ?_ GE758.out) | exact HB.out)⟩⟩
               case round =>
                clear H'
                try clear c1
                try clear c2
                try clear p2
                try clear c3
                try clear c4
                try clear p6
                try clear p7
                try clear q7
                try clear hx7
                try clear c11
                try clear c20
                try clear c21
                try clear c22
                try clear c24
                try clear c25
                try clear c25b0
                try clear c28
                try clear c28b0
                try clear c29
                try clear c29b0
                try clear c31
                try clear c32
                try clear c32b0
                try clear c33
                try clear c33b0
                try clear c34
                try clear c34b0
                try clear c35
                try clear c35b0
                try clear hcz13_0
                try clear hcz13_1
                try clear hcz16_0
                try clear hcz16_1
                try clear hcz18_0
                try clear hcz18_1
                try clear hcz30_0
                try clear hcz30_1
                try clear hcz36_0
                try clear hcz36_1
                try clear hfz13_0
                try clear hfz13_1
                try clear hfz16_0
                try clear hfz16_1
                try clear hfz18_0
                try clear hfz18_1
                try clear hfz30_0
                try clear hfz30_1
                try clear hfz36_0
                try clear hfz36_1
                try clear hx767_0
                try clear hx768_0
                try clear hx769_0
                try clear hx770_0
                try clear p2
                try clear p7
                try clear p767
                try clear p768
                try clear p769
                try clear p770
                try clear q7
                try clear q767
                try clear q768
                try clear q769
                try clear q770
                obtain ⟨x14_4, x15_4, rfl, rfl, HA, HK4, HO_8, HO_759000, HO_759001, BK758, HB⟩ := hrel
                cases gk with
                | zero => exact absurd HA.out (by simp [laws_FnSlowest.l1])
                | succ k4 =>
                 have H := HA.out
                 clear HA
                 simp only [laws_FnSlowest.l1] at H
                 by_cases c37 : x15_4 < (t755.length : Int)
                 ·rw [if_pos c37] at H
                  have c37b0 : decide (x15_4 < (t755.length : Int)) = true := decide_eq_true c37
                  clear c37
                  by_cases c38 : x14_4 = true
                  ·subst c38
                   have H1 : (laws_FnSlowest.l1 k4 t759 t761 t765 (wrap64 (x12_2 + (rd t752 (rd t761 x13_2)))) x13_2 true (wrap64 (x15_4 + 1)) t752 t755) = some r := by rw [if_pos rfl] at H; exact H
                   clear H
                   have H := H1
                   clear H1
                   have H' := Aside0.mk H
                   clear H
                   have hcz39_0 : wr.cell? ⟨gb758, 0, none⟩ = some (.slice (some ad770) t752.length co12) := (blk_cell BK758.out 0).trans rfl
                   have hcz39_1 : wr.cell? ⟨gb758, 1, none⟩ = some (.slice Ao14 t755.length co14) := (blk_cell BK758.out 1).trans rfl
                   have hfz39_0 := blk_frozen BK758.out 0
                   have hfz39_1 := blk_frozen BK758.out 1
                   go_wp2
                   repeat (go_quiet (fail); try go_wp2)
                   go_roundg k4
                   case measure => have := HJ8.out; have := HK2.out; have := HJ25.out; have := HK4.out; omega
                   case rel => exact ⟨(true), (wrap64 (x15_4 + 1)), (by first | rfl | (simp; done) | (simp [*]; done)), (by first | rfl | (simp; done) | (simp [*]; done)), H', ⟨by have := HJ8.out; have := HK2.out; have := HJ25.out; have := HK4.out; omega⟩, ⟨by (with_reducible repeat (first | apply Kd.R_alloc | apply Kd.R_drewN | apply Kd.R_drew)); exact HO_8.out⟩, ⟨by (with_reducible repeat (first | apply Kd.R_alloc | apply Kd.R_drewN | apply Kd.R_drew)); exact HO_759000.out⟩, ⟨by (with_reducible repeat (first | apply Kd.R_alloc | apply Kd.R_drewN | apply Kd.R_drew)); exact HO_759001.out⟩, ⟨by (with_reducible repeat (first | refine blk_drewN ?_ _ | refine blk_drew ?_ | refine blk_alloc ?_ _)); exact BK758.out⟩, ⟨by repeat (first | (with_reducible first | exact HB.out | apply below_alloc | apply pw_below_drewN | apply below_drew1 | refine below_set ?_ GE758.out) | exact HB.out)⟩⟩
                  ·replace c38 := Bool.eq_false_iff.mpr c38
                   subst c38
                   have H1 : (if 0 ≤ x15_4 then (if ((rd_T55 t755 x15_4).f2) = 0 then (if 0 ≤ x13_2 then (if x13_2 < (t761.length : Int) then (if ((rd_T55 t755 x15_4).f1) = (rd t761 x13_2) then (if 0 ≤ (wrap64 (x13_2 - 1)) then (if (wrap64 (x13_2 - 1)) < (t761.length : Int) then (laws_FnSlowest.l1 k4 t759 t761 t765 (wrap64 (x12_2 + (rd t752 (rd t761 x13_2)))) x13_2 (((rd_T55 t755 x15_4).f0) == (rd t761 (wrap64 (x13_2 - 1)))) (wrap64 (x15_4 + 1)) t752 t755) else (none)) else (none)) else (laws_FnSlowest.l1 k4 t759 t761 t765 (wrap64 (x12_2 + (rd t752 (rd t761 x13_2)))) x13_2 false (wrap64 (x15_4 + 1)) t752 t755)) else (none)) else (none)) else (laws_FnSlowest.l1 k4 t759 t761 t765 (wrap64 (x12_2 + (rd t752 (rd t761 x13_2)))) x13_2 false (wrap64 (x15_4 + 1)) t752 t755)) else (none)) = some r := by rw [if_neg (show ¬ (false = true) by decide)] at H; exact H
                   clear H
                   have H := H1
                   clear H1
                   by_cases c40 : 0 ≤ x15_4
                   ·rw [if_pos c40] at H
                    have c40b0 : decide (0 ≤ x15_4) = true := decide_eq_true c40
                    clear c40
                    by_cases c41 : ((rd_T55 t755 x15_4).f2) = 0
                    ·rw [if_pos c41] at H
                     have c41b0 : (((rd_T55 t755 x15_4).f2) == 0) = true := beq_iff_eq.mpr c41
                     have c41b1 : (((rd_T55 t755 x15_4).f2) != 0) = false := bne_eq_false_iff_eq.mpr c41
                     clear c41
                     by_cases c42 : 0 ≤ x13_2
                     ·rw [if_pos c42] at H
                      have c42b0 : decide (0 ≤ x13_2) = true := decide_eq_true c42
                      clear c42
                      by_cases c43 : x13_2 < (t761.length : Int)
                      ·rw [if_pos c43] at H
                       have c43b0 : decide (x13_2 < (t761.length : Int)) = true := decide_eq_true c43
                       clear c43
                       by_cases c44 : ((rd_T55 t755 x15_4).f1) = (rd t761 x13_2)
                       ·rw [if_pos c44] at H
                        have c44b0 : (((rd_T55 t755 x15_4).f1) == (rd t761 x13_2)) = true := beq_iff_eq.mpr c44
                        have c44b1 : (((rd_T55 t755 x15_4).f1) != (rd t761 x13_2)) = false := bne_eq_false_iff_eq.mpr c44
                        clear c44
                        obtain ⟨ji45, hji45⟩ : ∃ j_ : Int, (wrap64 (x13_2 - 1)) = j_ := ⟨_, rfl⟩
                        replace H : (if 0 ≤ (ji45) then (if (ji45) < (t761.length : Int) then (laws_FnSlowest.l1 k4 t759 t761 t765 (wrap64 (x12_2 + (rd t752 (rd t761 x13_2)))) x13_2 (((rd_T55 t755 x15_4).f0) == (rd t761 (ji45))) (wrap64 (x15_4 + 1)) t752 t755) else (none)) else (none)) = some r := by first | (rw [hji45] at H; exact H) | (simp only [hji45] at H ⊢; exact H)
                        have hji45w : (IntKind.i64.wrap (x13_2 - 1)) = ji45 := (i64_w _).trans hji45
                        by_cases c46 : 0 ≤ (ji45)
                        ·rw [if_pos c46] at H
                         have c46b0 : decide (0 ≤ (ji45)) = true := decide_eq_true c46
                         clear c46
                         by_cases c47 : (ji45) < (t761.length : Int)
                         ·rw [if_pos c47] at H
                          have c47b0 : decide ((ji45) < (t761.length : Int)) = true := decide_eq_true c47
                          clear c47
                          have H' := Aside0.mk H
                          clear H
                          have hcz48_0 : wr.cell? ⟨gb758, 0, none⟩ = some (.slice (some ad770) t752.length co12) := (blk_cell BK758.out 0).trans rfl
                          have hcz48_1 : wr.cell? ⟨gb758, 1, none⟩ = some (.slice Ao14 t755.length co14) := (blk_cell BK758.out 1).trans rfl
                          have hfz48_0 := blk_frozen BK758.out 0
                          have hfz48_1 := blk_frozen BK758.out 1
                          have p771 : 0 ≤ (x15_4 : Int) := of_decide_eq_true (by first | (with_reducible assumption) | assumption)
                          have q771 : x15_4 < (t755.length : Int) := of_decide_eq_true (by first | (with_reducible assumption) | assumption)
                          obtain ⟨ad771, e771, hx771_0, hx771_1, hx771_2⟩ := at_T55 (Kd.R_reads' HO_759001.out).2.2 x15_4 p771 q771
                          cases e771
                          replace p771 := eq_true p771
                          replace q771 := eq_true q771
                          have p772 : 0 ≤ (x15_4 : Int) := of_decide_eq_true (by first | (with_reducible assumption) | assumption)
                          have q772 : x15_4 < (t755.length : Int) := of_decide_eq_true (by first | (with_reducible assumption) | assumption)
                          obtain ⟨ad772, e772, hx772_0, hx772_1, hx772_2⟩ := at_T55 (Kd.R_reads' HO_759001.out).2.2 x15_4 p772 q772
                          obtain rfl : ad771 = ad772 := (by injection e772)
                          replace p772 := eq_true p772
                          replace q772 := eq_true q772
                          have p773 : 0 ≤ (x13_2 : Int) := of_decide_eq_true (by first | (with_reducible assumption) | assumption)
                          have q773 : x13_2 < (t761.length : Int) := of_decide_eq_true (by first | (with_reducible assumption) | assumption)
                          obtain ⟨ad773, e773, hx773_0⟩ := Kd.at_int (Kd.R_reads' HO_8.out).2.2 x13_2 p773 q773
                          obtain rfl : ad769 = ad773 := (by injection e773)
                          replace p773 := eq_true p773
                          replace q773 := eq_true q773
                          have p774 : 0 ≤ (x15_4 : Int) := of_decide_eq_true (by first | (with_reducible assumption) | assumption)
                          have q774 : x15_4 < (t755.length : Int) := of_decide_eq_true (by first | (with_reducible assumption) | assumption)
                          obtain ⟨ad774, e774, hx774_0, hx774_1, hx774_2⟩ := at_T55 (Kd.R_reads' HO_759001.out).2.2 x15_4 p774 q774
                          obtain rfl : ad771 = ad774 := (by injection e774)
                          replace p774 := eq_true p774
                          replace q774 := eq_true q774
                          have p775 : 0 ≤ ((ji45) : Int) := of_decide_eq_true (by first | (with_reducible assumption) | assumption)
                          have q775 : (ji45) < (t761.length : Int) := of_decide_eq_true (by first | (with_reducible assumption) | assumption)
                          obtain ⟨ad775, e775, hx775_0⟩ := Kd.at_int (Kd.R_reads' HO_8.out).2.2 (ji45) p775 q775
                          obtain rfl : ad769 = ad775 := (by injection e775)
                          replace p775 := eq_true p775
                          replace q775 := eq_true q775
                          go_wp2
                          repeat (go_quiet (fail); try go_wp2)
                          go_roundg k4
                          case measure => have := HJ8.out; have := HK2.out; have := HJ25.out; have := HK4.out; omega
                          case rel => exact ⟨((((rd_T55 t755 x15_4).f0) == (rd t761 (ji45)))), (wrap64 (x15_4 + 1)), (by first | rfl | (simp; done) | (simp only [← hji45] <;> (first | rfl | simp)) | (simp [*]; done)), (by first | rfl | (simp; done) | (simp [*]; done)), H', ⟨by have := HJ8.out; have := HK2.out; have := HJ25.out; have := HK4.out; omega⟩, ⟨by (with_reducible repeat (first | apply Kd.R_alloc | apply Kd.R_drewN | apply Kd.R_drew)); exact HO_8.out⟩, ⟨by (with_reducible repeat (first | apply Kd.R_alloc | apply Kd.R_drewN | apply Kd.R_drew)); exact HO_759000.out⟩, ⟨by (with_reducible repeat (first | apply Kd.R_alloc | apply Kd.R_drewN | apply Kd.R_drew)); exact HO_759001.out⟩, ⟨by (with_reducible repeat (first | refine blk_drewN ?_ _ | refine blk_drew ?_ | refine blk_alloc ?_ _)); exact BK758.out⟩, ⟨by repeat (first | (with_reducible first | exact HB.out | apply below_alloc | apply pw_below_drewN | apply below_drew1 | refine below_set ?_ GE758.out) | exact HB.out)⟩⟩
                         ·rw [if_neg c47] at H
                          exact absurd H (by simp)
                        ·rw [if_neg c46] at H
                         exact absurd H (by simp)
                       ·rw [if_neg c44] at H
                        have c44b0 : (((rd_T55 t755 x15_4).f1) == (rd t761 x13_2)) = false := beq_eq_false_iff_ne.mpr c44
                        have c44b1 : (((rd_T55 t755 x15_4).f1) != (rd t761 x13_2)) = true := bne_iff_ne.mpr c44
                        have H' := Aside0.mk H
                        clear H
                        have hcz49_0 : wr.cell? ⟨gb758, 0, none⟩ = some (.slice (some ad770) t752.length co12) := (blk_cell BK758.out 0).trans rfl
                        have hcz49_1 : wr.cell? ⟨gb758, 1, none⟩ = some (.slice Ao14 t755.length co14) := (blk_cell BK758.out 1).trans rfl
                        have hfz49_0 := blk_frozen BK758.out 0
                        have hfz49_1 := blk_frozen BK758.out 1
                        have p771 : 0 ≤ (x15_4 : Int) := of_decide_eq_true (by first | (with_reducible assumption) | assumption)
                        have q771 : x15_4 < (t755.length : Int) := of_decide_eq_true (by first | (with_reducible assumption) | assumption)
                        obtain ⟨ad771, e771, hx771_0, hx771_1, hx771_2⟩ := at_T55 (Kd.R_reads' HO_759001.out).2.2 x15_4 p771 q771
                        cases e771
                        replace p771 := eq_true p771
                        replace q771 := eq_true q771
                        have p772 : 0 ≤ (x15_4 : Int) := of_decide_eq_true (by first | (with_reducible assumption) | assumption)
                        have q772 : x15_4 < (t755.length : Int) := of_decide_eq_true (by first | (with_reducible assumption) | assumption)
                        obtain ⟨ad772, e772, hx772_0, hx772_1, hx772_2⟩ := at_T55 (Kd.R_reads' HO_759001.out).2.2 x15_4 p772 q772
                        obtain rfl : ad771 = ad772 := (by injection e772)
                        replace p772 := eq_true p772
                        replace q772 := eq_true q772
                        have p773 : 0 ≤ (x13_2 : Int) := of_decide_eq_true (by first | (with_reducible assumption) | assumption)
                        have q773 : x13_2 < (t761.length : Int) := of_decide_eq_true (by first | (with_reducible assumption) | assumption)
                        obtain ⟨ad773, e773, hx773_0⟩ := Kd.at_int (Kd.R_reads' HO_8.out).2.2 x13_2 p773 q773
                        obtain rfl : ad769 = ad773 := (by injection e773)
                        replace p773 := eq_true p773
                        replace q773 := eq_true q773
                        go_wp2
                        repeat (go_quiet (fail); try go_wp2)
                        go_roundg k4
                        case measure => have := HJ8.out; have := HK2.out; have := HJ25.out; have := HK4.out; omega
                        case rel => exact ⟨(false), (wrap64 (x15_4 + 1)), (by first | rfl | (simp; done) | (simp [*]; done)), (by first | rfl | (simp; done) | (simp [*]; done)), H', ⟨by have := HJ8.out; have := HK2.out; have := HJ25.out; have := HK4.out; omega⟩, ⟨by (with_reducible repeat (first | apply Kd.R_alloc | apply Kd.R_drewN | apply Kd.R_drew)); exact HO_8.out⟩, ⟨by (with_reducible repeat (first | apply Kd.R_alloc | apply Kd.R_drewN | apply Kd.R_drew)); exact HO_759000.out⟩, ⟨by (with_reducible repeat (first | apply Kd.R_alloc | apply Kd.R_drewN | apply Kd.R_drew)); exact HO_759001.out⟩, ⟨by (with_reducible repeat (first | refine blk_drewN ?_ _ | refine blk_drew ?_ | refine blk_alloc ?_ _)); exact BK758.out⟩, ⟨by repeat (first | (with_reducible first | exact HB.out | apply below_alloc | apply pw_below_drewN | apply below_drew1 | refine below_set ?_ GE758.out) | exact HB.out)⟩⟩
                      ·rw [if_neg c43] at H
                       exact absurd H (by simp)
                     ·rw [if_neg c42] at H
                      exact absurd H (by simp)
                    ·rw [if_neg c41] at H
                     have c41b0 : (((rd_T55 t755 x15_4).f2) == 0) = false := beq_eq_false_iff_ne.mpr c41
                     have c41b1 : (((rd_T55 t755 x15_4).f2) != 0) = true := bne_iff_ne.mpr c41
                     have H' := Aside0.mk H
                     clear H
                     have hcz50_0 : wr.cell? ⟨gb758, 0, none⟩ = some (.slice (some ad770) t752.length co12) := (blk_cell BK758.out 0).trans rfl
                     have hcz50_1 : wr.cell? ⟨gb758, 1, none⟩ = some (.slice Ao14 t755.length co14) := (blk_cell BK758.out 1).trans rfl
                     have hfz50_0 := blk_frozen BK758.out 0
                     have hfz50_1 := blk_frozen BK758.out 1
                     have p771 : 0 ≤ (x15_4 : Int) := of_decide_eq_true (by first | (with_reducible assumption) | assumption)
                     have q771 : x15_4 < (t755.length : Int) := of_decide_eq_true (by first | (with_reducible assumption) | assumption)
                     obtain ⟨ad771, e771, hx771_0, hx771_1, hx771_2⟩ := at_T55 (Kd.R_reads' HO_759001.out).2.2 x15_4 p771 q771
                     cases e771
                     replace p771 := eq_true p771
                     replace q771 := eq_true q771
                     go_wp2
                     repeat (go_quiet (fail); try go_wp2)
                     go_roundg k4
                     case measure => have := HJ8.out; have := HK2.out; have := HJ25.out; have := HK4.out; omega
                     case rel => exact ⟨(false), (wrap64 (x15_4 + 1)), (by first | rfl | (simp; done) | (simp [*]; done)), (by first | rfl | (simp; done) | (simp [*]; done)), H', ⟨by have := HJ8.out; have := HK2.out; have := HJ25.out; have := HK4.out; omega⟩, ⟨by (with_reducible repeat (first | apply Kd.R_alloc | apply Kd.R_drewN | apply Kd.R_drew)); exact HO_8.out⟩, ⟨by (with_reducible repeat (first | apply Kd.R_alloc | apply Kd.R_drewN | apply Kd.R_drew)); exact HO_759000.out⟩, ⟨by (with_reducible repeat (first | apply Kd.R_alloc | apply Kd.R_drewN | apply Kd.R_drew)); exact HO_759001.out⟩, ⟨by (with_reducible repeat (first | refine blk_drewN ?_ _ | refine blk_drew ?_ | refine blk_alloc ?_ _)); exact BK758.out⟩, ⟨by repeat (first | (with_reducible first | exact HB.out | apply below_alloc | apply pw_below_drewN | apply below_drew1 | refine below_set ?_ GE758.out) | exact HB.out)⟩⟩
                   ·rw [if_neg c40] at H
                    exact absurd H (by simp)
                 ·rw [if_neg c37] at H
                  have c37b0 : decide (x15_4 < (t755.length : Int)) = false := decide_eq_false c37
                  clear c37
                  by_cases c51 : x14_4 = true
                  ·subst c51
                   have H1 : (laws_FnSlowest.l0 k4 t759 t761 t765 (wrap64 (x12_2 + (rd t752 (rd t761 x13_2)))) (wrap64 (x13_2 + 1)) t752 t755) = some r := by rw [if_pos rfl] at H; exact H
                   clear H
                   have H := H1
                   clear H1
                   have H' := Aside0.mk H
                   clear H
                   have hcz52_0 : wr.cell? ⟨gb758, 0, none⟩ = some (.slice (some ad770) t752.length co12) := (blk_cell BK758.out 0).trans rfl
                   have hcz52_1 : wr.cell? ⟨gb758, 1, none⟩ = some (.slice Ao14 t755.length co14) := (blk_cell BK758.out 1).trans rfl
                   have hfz52_0 := blk_frozen BK758.out 0
                   have hfz52_1 := blk_frozen BK758.out 1
                   go_wp2
                   repeat (go_quiet (fail); try go_wp2)
                   go_roundg k4
                   case measure => have := HJ8.out; have := HK2.out; have := HJ25.out; have := HK4.out; omega
                   case rel => exact ⟨((wrap64 (x12_2 + (rd t752 (rd t761 x13_2))))), (wrap64 (x13_2 + 1)), (by first | rfl | (simp; done) | (simp [*]; done)), (by first | rfl | (simp; done) | (simp [*]; done)), H', ⟨by have := HJ8.out; have := HK2.out; have := HJ25.out; have := HK4.out; omega⟩, ⟨by (with_reducible repeat (first | apply Kd.R_alloc | apply Kd.R_drewN | apply Kd.R_drew)); exact HO_8.out⟩, ⟨by (with_reducible repeat (first | apply Kd.R_alloc | apply Kd.R_drewN | apply Kd.R_drew)); exact HO_759000.out⟩, ⟨by (with_reducible repeat (first | apply Kd.R_alloc | apply Kd.R_drewN | apply Kd.R_drew)); exact HO_759001.out⟩, ⟨by (with_reducible repeat (first | refine blk_drewN ?_ _ | refine blk_drew ?_ | refine blk_alloc ?_ _)); exact BK758.out⟩, ⟨by repeat (first | (with_reducible first | exact HB.out | apply below_alloc | apply pw_below_drewN | apply below_drew1 | refine below_set ?_ GE758.out) | exact HB.out)⟩⟩
                  ·replace c51 := Bool.eq_false_iff.mpr c51
                   subst c51
                   have H1 : (some false) = some r := by rw [if_neg (show ¬ (false = true) by decide)] at H; exact H
                   clear H
                   have H := H1
                   clear H1
                   obtain rfl := Option.some.inj H
                   have hcz53_0 : wr.cell? ⟨gb758, 0, none⟩ = some (.slice (some ad770) t752.length co12) := (blk_cell BK758.out 0).trans rfl
                   have hcz53_1 : wr.cell? ⟨gb758, 1, none⟩ = some (.slice Ao14 t755.length co14) := (blk_cell BK758.out 1).trans rfl
                   have hfz53_0 := blk_frozen BK758.out 0
                   have hfz53_1 := blk_frozen BK758.out 1
                   go_wp2
                   repeat (go_quiet (fail); try go_wp2)
                   go_ret
                   exact ⟨by first | rfl | (simp [errW_none, errW_some] <;> rfl) | (simp [*, errW_none, errW_some] <;> rfl), by repeat (first | (with_reducible first | exact HB.out | apply below_alloc | apply pw_below_drewN | apply below_drew1 | refine below_set ?_ GE758.out) | exact HB.out)⟩
              ·rw [if_neg c35] at H
               exact absurd H (by simp)
             ·rw [if_neg c34] at H
              exact absurd H (by simp)
            ·rw [if_neg c33] at H
             exact absurd H (by simp)
           ·rw [if_neg c32] at H
            exact absurd H (by simp)
       ·rw [if_neg c25] at H
        have c25b0 : decide (x13_2 < (t761.length : Int)) = false := decide_eq_false c25
        clear c25
        have H' := Aside0.mk H
        clear H
        obtain ⟨Ao54, co54, eo54⟩ := Kd.R_slice HO_8.out
        subst eo54
        go_wp2
        repeat (go_quiet (fail); try go_wp2)
        go_loopg [16, 17] k2 (fun kq v16 v17 w' => ∃ (x16_3 : Int) (x17_3 : Int), v16 = .int .i64 x16_3 ∧ v17 = .int .i64 x17_3 ∧ Aside0 (laws_FnSlowest.l2 kq t759 t765 x12_2 x16_3 x17_3 t752 t755 = some r) ∧ Aside0 (kq ≤ k2) ∧ Aside0 (Kd.R (Kd.int .i64) 2 w' w.heap.size (fun _ => True) (.slice Ao12 t752.length co12) t752) ∧ Aside0 (Kd.R k55 55 w' w.heap.size (fun _ => True) (.slice Ao14 t755.length co14) t755) ∧ Aside0 (w'.heap[gb758]? = some (.cells #[(.slice Ao12 t752.length co12), (.slice Ao14 t755.length co14)] 36 (0, 0))) ∧ Aside0 (Below w.heap.size w w'))
        case atStart => exact ⟨(0), (0), (by first | rfl | (simp; done) | (simp [*]; done)), (by first | rfl | (simp; done) | (simp [*]; done)), H', ⟨Nat.le_refl _⟩, ⟨by (with_reducible repeat (first | apply Kd.R_alloc | apply Kd.R_drewN | apply Kd.R_drew)); exact Kd.R_mono HO_759000.out (fun _ hk => trivial)⟩, ⟨by (with_reducible repeat (first | apply Kd.R_alloc | apply Kd.R_drewN | apply Kd.R_drew)); exact HO_759001.out⟩, ⟨by (with_reducible repeat (first | refine blk_drewN ?_ _ | refine blk_drew ?_ | refine blk_alloc ?_ _)); exact BK758.out⟩, ⟨by repeat (first | (with_reducible first | exact HB.out | apply below_alloc | apply pw_below_drewN | apply below_drew1 | refine below_set ?_ GE758.out) | exact HB.out)⟩⟩
        case round =>
         clear H'
         try clear c1
         try clear c2
         try clear p2
         try clear c3
         try clear c4
         try clear c5
         try clear p6
         try clear p7
         try clear q7
         try clear hx7
         try clear c11
         try clear c20
         try clear c21
         try clear c22
         try clear c24
         try clear c25
         try clear c25b0
         try clear c28
         try clear c28b0
         try clear c29
         try clear c29b0
         try clear c31
         try clear c32
         try clear c32b0
         try clear c33
         try clear c33b0
         try clear c34
         try clear c34b0
         try clear c35
         try clear c35b0
         try clear c37
         try clear c37b0
         try clear c38
         try clear c40
         try clear c40b0
         try clear c41
         try clear c41b0
         try clear c41b1
         try clear c42
         try clear c42b0
         try clear c43
         try clear c43b0
         try clear c44
         try clear c44b0
         try clear c44b1
         try clear c46
         try clear c46b0
         try clear c47
         try clear c47b0
         try clear c51
         try clear hcz13_0
         try clear hcz13_1
         try clear hcz16_0
         try clear hcz16_1
         try clear hcz18_0
         try clear hcz18_1
         try clear hcz30_0
         try clear hcz30_1
         try clear hcz36_0
         try clear hcz36_1
         try clear hcz39_0
         try clear hcz39_1
         try clear hcz48_0
         try clear hcz48_1
         try clear hcz49_0
         try clear hcz49_1
         try clear hcz50_0
         try clear hcz50_1
         try clear hcz52_0
         try clear hcz52_1
         try clear hcz53_0
         try clear hcz53_1
         try clear hfz13_0
         try clear hfz13_1
         try clear hfz16_0
         try clear hfz16_1
         try clear hfz18_0
         try clear hfz18_1
         try clear hfz30_0
         try clear hfz30_1
         try clear hfz36_0
         try clear hfz36_1
         try clear hfz39_0
         try clear hfz39_1
         try clear hfz48_0
         try clear hfz48_1
         try clear hfz49_0
         try clear hfz49_1
         try clear hfz50_0
         try clear hfz50_1
         try clear hfz52_0
         try clear hfz52_1
         try clear hfz53_0
         try clear hfz53_1
         try clear hx767_0
         try clear hx768_0
         try clear hx769_0
         try clear hx770_0
         try clear hx771_0
         try clear hx771_1
         try clear hx771_2
         try clear hx772_0
         try clear hx772_1
         try clear hx772_2
         try clear hx773_0
         try clear hx774_0
         try clear hx774_1
         try clear hx774_2
         try clear hx775_0
         try clear p2
         try clear p6
         try clear p7
         try clear p767
         try clear p768
         try clear p769
         try clear p770
         try clear p771
         try clear p772
         try clear p773
         try clear p774
         try clear p775
         try clear q7
         try clear q767
         try clear q768
         try clear q769
         try clear q770
         try clear q771
         try clear q772
         try clear q773
         try clear q774
         try clear q775
         obtain ⟨x16_3, x17_3, rfl, rfl, HA, HK3, HO_759000, HO_759001, BK758, HB⟩ := hrel
         cases gk with
         | zero => exact absurd HA.out (by simp [laws_FnSlowest.l2])
         | succ k3 =>
          have H := HA.out
          clear HA
          simp only [laws_FnSlowest.l2] at H
          by_cases c55 : x17_3 < (t755.length : Int)
          ·rw [if_pos c55] at H
           have c55b0 : decide (x17_3 < (t755.length : Int)) = true := decide_eq_true c55
           clear c55
           by_cases c56 : 0 ≤ x17_3
           ·rw [if_pos c56] at H
            have c56b0 : decide (0 ≤ x17_3) = true := decide_eq_true c56
            clear c56
            by_cases c57 : ((rd_T55 t755 x17_3).f2) = 0
            ·rw [if_pos c57] at H
             have c57b0 : (((rd_T55 t755 x17_3).f2) == 0) = true := beq_iff_eq.mpr c57
             have c57b1 : (((rd_T55 t755 x17_3).f2) != 0) = false := bne_eq_false_iff_eq.mpr c57
             clear c57
             by_cases c58 : 0 ≤ ((rd_T55 t755 x17_3).f0)
             ·rw [if_pos c58] at H
              have c58b0 : decide (0 ≤ ((rd_T55 t755 x17_3).f0)) = true := decide_eq_true c58
              clear c58
              by_cases c59 : ((rd_T55 t755 x17_3).f0) < (t752.length : Int)
              ·rw [if_pos c59] at H
               have c59b0 : decide (((rd_T55 t755 x17_3).f0) < (t752.length : Int)) = true := decide_eq_true c59
               clear c59
               by_cases c60 : 0 ≤ ((rd_T55 t755 x17_3).f1)
               ·rw [if_pos c60] at H
                have c60b0 : decide (0 ≤ ((rd_T55 t755 x17_3).f1)) = true := decide_eq_true c60
                clear c60
                by_cases c61 : ((rd_T55 t755 x17_3).f1) < (t752.length : Int)
                ·rw [if_pos c61] at H
                 have c61b0 : decide (((rd_T55 t755 x17_3).f1) < (t752.length : Int)) = true := decide_eq_true c61
                 clear c61
                 by_cases c62 : (wrap64 ((rd t752 ((rd_T55 t755 x17_3).f0)) + (rd t752 ((rd_T55 t755 x17_3).f1)))) > t759
                 ·rw [if_pos c62] at H
                  have c62b0 : decide (t759 < (wrap64 ((rd t752 ((rd_T55 t755 x17_3).f0)) + (rd t752 ((rd_T55 t755 x17_3).f1))))) = true := decide_eq_true c62
                  clear c62
                  obtain rfl := Option.some.inj H
                  have hcz63_0 : wr.cell? ⟨gb758, 0, none⟩ = some (.slice Ao12 t752.length co12) := (blk_cell BK758.out 0).trans rfl
                  have hcz63_1 : wr.cell? ⟨gb758, 1, none⟩ = some (.slice Ao14 t755.length co14) := (blk_cell BK758.out 1).trans rfl
                  have hfz63_0 := blk_frozen BK758.out 0
                  have hfz63_1 := blk_frozen BK758.out 1
                  have p776 : 0 ≤ (x17_3 : Int) := of_decide_eq_true (by first | (with_reducible assumption) | assumption)
                  have q776 : x17_3 < (t755.length : Int) := of_decide_eq_true (by first | (with_reducible assumption) | assumption)
                  obtain ⟨ad776, e776, hx776_0, hx776_1, hx776_2⟩ := at_T55 (Kd.R_reads' HO_759001.out).2.2 x17_3 p776 q776
                  cases e776
                  replace p776 := eq_true p776
                  replace q776 := eq_true q776
                  go_wp2_with (first | ((with_reducible refine gate_dst (N := 18) rfl ?_); (try (refine gate_guard (by rfl) ?_; dsimp only)); refine box_event ?hg (N := 18) ?hd (cs := #[.int .i64 0, .int .i64 0, .int .i64 0]) (t := 55) ?hr ?_; (case hd => rfl); (case hg => rfl); (case hr => first | (go_simp; done) | (go_simp; rfl)); intro gb777 hg w64 hbox hb; have n0_ := Aside0.mk (Kd.R_below (by (with_reducible repeat (first | apply Kd.R_alloc | apply Kd.R_drewN | apply Kd.R_drew)); exact HO_759000.out) hb); have n1_ := Aside0.mk (Kd.R_below (Kd.R_elderB (by (with_reducible repeat (first | apply Kd.R_alloc | apply Kd.R_drewN | apply Kd.R_drew)); exact HO_759001.out) gb777 (Nat.le_of_eq hg.symm)) hb); have n2_ := Aside0.mk (blk_below (g := gb758) (o := .cells #[.slice Ao12 t752.length co12, .slice (some ad776) t755.length co14] 36 (0, 0)) (by (with_reducible repeat (first | refine blk_drewN ?_ _ | refine blk_drew ?_ | refine blk_alloc ?_ _)); exact BK758.out) hb); have n3_ := Aside0.mk (below_step (by repeat (first | (with_reducible first | exact HB.out | apply below_alloc | apply pw_below_drewN | apply below_drew1 | refine below_set ?_ GE758.out) | exact HB.out)) hb); have n4_ := Aside0.mk (hbox); have n5_ := Aside0.mk ((by rw [hg]; exact (below_size (by repeat (first | (with_reducible first | exact HB.out | apply below_alloc | apply pw_below_drewN | apply below_drew1 | refine below_set ?_ GE758.out) | exact HB.out))) : w.heap.size ≤ gb777)); have n6_ := Aside0.mk ((by rw [hg]; exact (below_size (by repeat (first | (with_reducible first | exact HB.out | apply below_alloc | apply pw_below_drewN | apply below_drew1 | refine below_set ?_ GE758.out) | exact HB.out))) : w.heap.size ≤ gb777)); have n7_ := Aside0.mk ((by rw [hg]; exact Nat.ne_of_lt (blk_lt (g := gb758) (o := .cells #[.slice Ao12 t752.length co12, .slice (some ad776) t755.length co14] 36 (0, 0)) (by (with_reducible repeat (first | refine blk_drewN ?_ _ | refine blk_drew ?_ | refine blk_alloc ?_ _)); exact BK758.out)) : gb758 ≠ gb777)); have n8_ := Aside0.mk ((by rw [hg]; exact Nat.ne_of_gt (blk_lt (g := gb758) (o := .cells #[.slice Ao12 t752.length co12, .slice (some ad776) t755.length co14] 36 (0, 0)) (by (with_reducible repeat (first | refine blk_drewN ?_ _ | refine blk_drew ?_ | refine blk_alloc ?_ _)); exact BK758.out)) : gb777 ≠ gb758)); clear HO_759000; clear HO_759001; clear BK758; clear HB; have HO_759000 := n0_; have HO_759001 := n1_; have BK758 := n2_; have HB := n3_; have BK777 := n4_; have GW777 := n5_; have GE777 := n6_; have NB758_777 := n7_; have NB777_758 := n8_; clear n0_ n1_ n2_ n3_ n4_ n5_ n6_ n7_ n8_; clear hb hbox hg; have hnb65 := NB777_758.out; have hnc65 := NB758_777.out; have hcz66_0 : w64.cell? ⟨gb777, 0, none⟩ = some (.int .i64 0) := (blk_cell BK777.out 0).trans rfl; have hcz66_1 : w64.cell? ⟨gb777, 1, none⟩ = some (.int .i64 0) := (blk_cell BK777.out 1).trans rfl; have hcz66_2 : w64.cell? ⟨gb777, 2, none⟩ = some (.int .i64 0) := (blk_cell BK777.out 2).trans rfl; have hfz66_0 := blk_frozen BK777.out 0; have hfz66_1 := blk_frozen BK777.out 1; have hfz66_2 := blk_frozen BK777.out 2; have hcz67_0 : w64.cell? ⟨gb758, 0, none⟩ = some (.slice Ao12 t752.length co12) := (blk_cell BK758.out 0).trans rfl; have hcz67_1 : w64.cell? ⟨gb758, 1, none⟩ = some (.slice (some ad776) t755.length co14) := (blk_cell BK758.out 1).trans rfl; have hfz67_0 := blk_frozen BK758.out 0; have hfz67_1 := blk_frozen BK758.out 1; have p778 : 0 ≤ (((rd_T55 t755 x17_3).f0) : Int) := of_decide_eq_true (by first | (with_reducible assumption) | assumption); have q778 : ((rd_T55 t755 x17_3).f0) < (t752.length : Int) := of_decide_eq_true (by first | (with_reducible assumption) | assumption); obtain ⟨ad778, e778, hx778_0⟩ := Kd.at_int (Kd.R_reads' HO_759000.out).2.2 ((rd_T55 t755 x17_3).f0) p778 q778; cases e778; have hn778_0 : ad778.block ≠ gb777 := Kd.own_blk (Kd.R_ne HO_759000.out BK777.out (by decide)); have hn778_1 : ad778.block ≠ gb777 := Kd.own_blk (Kd.R_ne HO_759000.out BK777.out (by decide)); have hn778_2 : ad778.block ≠ gb777 := Kd.own_blk (Kd.R_ne HO_759000.out BK777.out (by decide)); replace hx778_0 := (cell_far (p := ⟨gb777, 0, none⟩) (by first | (rw [add_block]; exact hn778_0) | (show (Addr.add _ _).block ≠ _; rw [add_block]; exact hn778_0) | exact hn778_0) (.int .i64 ((rd_T55 t755 x17_3).f0))).trans hx778_0; replace hx778_0 := (cell_far (p := ⟨gb777, 1, none⟩) (by first | (rw [add_block]; exact hn778_1) | (show (Addr.add _ _).block ≠ _; rw [add_block]; exact hn778_1) | exact hn778_1) (.int .i64 ((rd_T55 t755 x17_3).f1))).trans hx778_0; replace hx778_0 := (cell_far (p := ⟨gb777, 2, none⟩) (by first | (rw [add_block]; exact hn778_2) | (show (Addr.add _ _).block ≠ _; rw [add_block]; exact hn778_2) | exact hn778_2) (.int .i64 ((rd_T55 t755 x17_3).f2))).trans hx778_0; (try have hy778_0 := fun (n_ : Nat) => (show (((((w64.drewN n_).setCell ⟨gb777, 0, none⟩ (.int .i64 ((rd_T55 t755 x17_3).f0))).setCell ⟨gb777, 1, none⟩ (.int .i64 ((rd_T55 t755 x17_3).f1))).setCell ⟨gb777, 2, none⟩ (.int .i64 ((rd_T55 t755 x17_3).f2)))).cell? _ = some _ from hx778_0)); clear hn778_0; clear hn778_1; clear hn778_2; replace p778 := eq_true p778; replace q778 := eq_true q778; have p779 : 0 ≤ (((rd_T55 t755 x17_3).f1) : Int) := of_decide_eq_true (by first | (with_reducible assumption) | assumption); have q779 : ((rd_T55 t755 x17_3).f1) < (t752.length : Int) := of_decide_eq_true (by first | (with_reducible assumption) | assumption); obtain ⟨ad779, e779, hx779_0⟩ := Kd.at_int (Kd.R_reads' HO_759000.out).2.2 ((rd_T55 t755 x17_3).f1) p779 q779; obtain rfl : ad778 = ad779 := (by injection e779); have hn779_0 : ad778.block ≠ gb777 := Kd.own_blk (Kd.R_ne HO_759000.out BK777.out (by decide)); have hn779_1 : ad778.block ≠ gb777 := Kd.own_blk (Kd.R_ne HO_759000.out BK777.out (by decide)); have hn779_2 : ad778.block ≠ gb777 := Kd.own_blk (Kd.R_ne HO_759000.out BK777.out (by decide)); replace hx779_0 := (cell_far (p := ⟨gb777, 0, none⟩) (by first | (rw [add_block]; exact hn779_0) | (show (Addr.add _ _).block ≠ _; rw [add_block]; exact hn779_0) | exact hn779_0) (.int .i64 ((rd_T55 t755 x17_3).f0))).trans hx779_0; replace hx779_0 := (cell_far (p := ⟨gb777, 1, none⟩) (by first | (rw [add_block]; exact hn779_1) | (show (Addr.add _ _).block ≠ _; rw [add_block]; exact hn779_1) | exact hn779_1) (.int .i64 ((rd_T55 t755 x17_3).f1))).trans hx779_0; replace hx779_0 := (cell_far (p := ⟨gb777, 2, none⟩) (by first | (rw [add_block]; exact hn779_2) | (show (Addr.add _ _).block ≠ _; rw [add_block]; exact hn779_2) | exact hn779_2) (.int .i64 ((rd_T55 t755 x17_3).f2))).trans hx779_0; (try have hy779_0 := fun (n_ : Nat) => (show (((((w64.drewN n_).setCell ⟨gb777, 0, none⟩ (.int .i64 ((rd_T55 t755 x17_3).f0))).setCell ⟨gb777, 1, none⟩ (.int .i64 ((rd_T55 t755 x17_3).f1))).setCell ⟨gb777, 2, none⟩ (.int .i64 ((rd_T55 t755 x17_3).f2)))).cell? _ = some _ from hx779_0)); clear hn779_0; clear hn779_1; clear hn779_2; replace p779 := eq_true p779; replace q779 := eq_true q779))
                  repeat (go_quiet (first | ((with_reducible refine gate_dst (N := 18) rfl ?_); (try (refine gate_guard (by rfl) ?_; dsimp only)); refine box_event ?hg (N := 18) ?hd (cs := #[.int .i64 0, .int .i64 0, .int .i64 0]) (t := 55) ?hr ?_; (case hd => rfl); (case hg => rfl); (case hr => first | (go_simp; done) | (go_simp; rfl)); intro gb777 hg w64 hbox hb; have n0_ := Aside0.mk (Kd.R_below (by (with_reducible repeat (first | apply Kd.R_alloc | apply Kd.R_drewN | apply Kd.R_drew)); exact HO_759000.out) hb); have n1_ := Aside0.mk (Kd.R_below (Kd.R_elderB (by (with_reducible repeat (first | apply Kd.R_alloc | apply Kd.R_drewN | apply Kd.R_drew)); exact HO_759001.out) gb777 (Nat.le_of_eq hg.symm)) hb); have n2_ := Aside0.mk (blk_below (g := gb758) (o := .cells #[.slice Ao12 t752.length co12, .slice (some ad776) t755.length co14] 36 (0, 0)) (by (with_reducible repeat (first | refine blk_drewN ?_ _ | refine blk_drew ?_ | refine blk_alloc ?_ _)); exact BK758.out) hb); have n3_ := Aside0.mk (below_step (by repeat (first | (with_reducible first | exact HB.out | apply below_alloc | apply pw_below_drewN | apply below_drew1 | refine below_set ?_ GE758.out) | exact HB.out)) hb); have n4_ := Aside0.mk (hbox); have n5_ := Aside0.mk ((by rw [hg]; exact (below_size (by repeat (first | (with_reducible first | exact HB.out | apply below_alloc | apply pw_below_drewN | apply below_drew1 | refine below_set ?_ GE758.out) | exact HB.out))) : w.heap.size ≤ gb777)); have n6_ := Aside0.mk ((by rw [hg]; exact (below_size (by repeat (first | (with_reducible first | exact HB.out | apply below_alloc | apply pw_below_drewN | apply below_drew1 | refine below_set ?_ GE758.out) | exact HB.out))) : w.heap.size ≤ gb777)); have n7_ := Aside0.mk ((by rw [hg]; exact Nat.ne_of_lt (blk_lt (g := gb758) (o := .cells #[.slice Ao12 t752.length co12, .slice (some ad776) t755.length co14] 36 (0, 0)) (by (with_reducible repeat (first | refine blk_drewN ?_ _ | refine blk_drew ?_ | refine blk_alloc ?_ _)); exact BK758.out)) : gb758 ≠ gb777)); have n8_ := Aside0.mk ((by rw [hg]; exact Nat.ne_of_gt (blk_lt (g := gb758) (o := .cells #[.slice Ao12 t752.length co12, .slice (some ad776) t755.length co14] 36 (0, 0)) (by (with_reducible repeat (first | refine blk_drewN ?_ _ | refine blk_drew ?_ | refine blk_alloc ?_ _)); exact BK758.out)) : gb777 ≠ gb758)); clear HO_759000; clear HO_759001; clear BK758; clear HB; have HO_759000 := n0_; have HO_759001 := n1_; have BK758 := n2_; have HB := n3_; have BK777 := n4_; have GW777 := n5_; have GE777 := n6_; have NB758_777 := n7_; have NB777_758 := n8_; clear n0_ n1_ n2_ n3_ n4_ n5_ n6_ n7_ n8_; clear hb hbox hg; have hnb65 := NB777_758.out; have hnc65 := NB758_777.out; have hcz66_0 : w64.cell? ⟨gb777, 0, none⟩ = some (.int .i64 0) := (blk_cell BK777.out 0).trans rfl; have hcz66_1 : w64.cell? ⟨gb777, 1, none⟩ = some (.int .i64 0) := (blk_cell BK777.out 1).trans rfl; have hcz66_2 : w64.cell? ⟨gb777, 2, none⟩ = some (.int .i64 0) := (blk_cell BK777.out 2).trans rfl; have hfz66_0 := blk_frozen BK777.out 0; have hfz66_1 := blk_frozen BK777.out 1; have hfz66_2 := blk_frozen BK777.out 2; have hcz67_0 : w64.cell? ⟨gb758, 0, none⟩ = some (.slice Ao12 t752.length co12) := (blk_cell BK758.out 0).trans rfl; have hcz67_1 : w64.cell? ⟨gb758, 1, none⟩ = some (.slice (some ad776) t755.length co14) := (blk_cell BK758.out 1).trans rfl; have hfz67_0 := blk_frozen BK758.out 0; have hfz67_1 := blk_frozen BK758.out 1; have p778 : 0 ≤ (((rd_T55 t755 x17_3).f0) : Int) := of_decide_eq_true (by first | (with_reducible assumption) | assumption); have q778 : ((rd_T55 t755 x17_3).f0) < (t752.length : Int) := of_decide_eq_true (by first | (with_reducible assumption) | assumption); obtain ⟨ad778, e778, hx778_0⟩ := Kd.at_int (Kd.R_reads' HO_759000.out).2.2 ((rd_T55 t755 x17_3).f0) p778 q778; cases e778; have hn778_0 : ad778.block ≠ gb777 := Kd.own_blk (Kd.R_ne HO_759000.out BK777.out (by decide)); have hn778_1 : ad778.block ≠ gb777 := Kd.own_blk (Kd.R_ne HO_759000.out BK777.out (by decide)); have hn778_2 : ad778.block ≠ gb777 := Kd.own_blk (Kd.R_ne HO_759000.out BK777.out (by decide)); replace hx778_0 := (cell_far (p := ⟨gb777, 0, none⟩) (by first | (rw [add_block]; exact hn778_0) | (show (Addr.add _ _).block ≠ _; rw [add_block]; exact hn778_0) | exact hn778_0) (.int .i64 ((rd_T55 t755 x17_3).f0))).trans hx778_0; replace hx778_0 := (cell_far (p := ⟨gb777, 1, none⟩) (by first | (rw [add_block]; exact hn778_1) | (show (Addr.add _ _).block ≠ _; rw [add_block]; exact hn778_1) | exact hn778_1) (.int .i64 ((rd_T55 t755 x17_3).f1))).trans hx778_0; replace hx778_0 := (cell_far (p := ⟨gb777, 2, none⟩) (by first | (rw [add_block]; exact hn778_2) | (show (Addr.add _ _).block ≠ _; rw [add_block]; exact hn778_2) | exact hn778_2) (.int .i64 ((rd_T55 t755 x17_3).f2))).trans hx778_0; (try have hy778_0 := fun (n_ : Nat) => (show (((((w64.drewN n_).setCell ⟨gb777, 0, none⟩ (.int .i64 ((rd_T55 t755 x17_3).f0))).setCell ⟨gb777, 1, none⟩ (.int .i64 ((rd_T55 t755 x17_3).f1))).setCell ⟨gb777, 2, none⟩ (.int .i64 ((rd_T55 t755 x17_3).f2)))).cell? _ = some _ from hx778_0)); clear hn778_0; clear hn778_1; clear hn778_2; replace p778 := eq_true p778; replace q778 := eq_true q778; have p779 : 0 ≤ (((rd_T55 t755 x17_3).f1) : Int) := of_decide_eq_true (by first | (with_reducible assumption) | assumption); have q779 : ((rd_T55 t755 x17_3).f1) < (t752.length : Int) := of_decide_eq_true (by first | (with_reducible assumption) | assumption); obtain ⟨ad779, e779, hx779_0⟩ := Kd.at_int (Kd.R_reads' HO_759000.out).2.2 ((rd_T55 t755 x17_3).f1) p779 q779; obtain rfl : ad778 = ad779 := (by injection e779); have hn779_0 : ad778.block ≠ gb777 := Kd.own_blk (Kd.R_ne HO_759000.out BK777.out (by decide)); have hn779_1 : ad778.block ≠ gb777 := Kd.own_blk (Kd.R_ne HO_759000.out BK777.out (by decide)); have hn779_2 : ad778.block ≠ gb777 := Kd.own_blk (Kd.R_ne HO_759000.out BK777.out (by decide)); replace hx779_0 := (cell_far (p := ⟨gb777, 0, none⟩) (by first | (rw [add_block]; exact hn779_0) | (show (Addr.add _ _).block ≠ _; rw [add_block]; exact hn779_0) | exact hn779_0) (.int .i64 ((rd_T55 t755 x17_3).f0))).trans hx779_0; replace hx779_0 := (cell_far (p := ⟨gb777, 1, none⟩) (by first | (rw [add_block]; exact hn779_1) | (show (Addr.add _ _).block ≠ _; rw [add_block]; exact hn779_1) | exact hn779_1) (.int .i64 ((rd_T55 t755 x17_3).f1))).trans hx779_0; replace hx779_0 := (cell_far (p := ⟨gb777, 2, none⟩) (by first | (rw [add_block]; exact hn779_2) | (show (Addr.add _ _).block ≠ _; rw [add_block]; exact hn779_2) | exact hn779_2) (.int .i64 ((rd_T55 t755 x17_3).f2))).trans hx779_0; (try have hy779_0 := fun (n_ : Nat) => (show (((((w64.drewN n_).setCell ⟨gb777, 0, none⟩ (.int .i64 ((rd_T55 t755 x17_3).f0))).setCell ⟨gb777, 1, none⟩ (.int .i64 ((rd_T55 t755 x17_3).f1))).setCell ⟨gb777, 2, none⟩ (.int .i64 ((rd_T55 t755 x17_3).f2)))).cell? _ = some _ from hx779_0)); clear hn779_0; clear hn779_1; clear hn779_2; replace p779 := eq_true p779; replace q779 := eq_true q779)); try go_wp2_with (first | ((with_reducible refine gate_dst (N := 18) rfl ?_); (try (refine gate_guard (by rfl) ?_; dsimp only)); refine box_event ?hg (N := 18) ?hd (cs := #[.int .i64 0, .int .i64 0, .int .i64 0]) (t := 55) ?hr ?_; (case hd => rfl); (case hg => rfl); (case hr => first | (go_simp; done) | (go_simp; rfl)); intro gb777 hg w64 hbox hb; have n0_ := Aside0.mk (Kd.R_below (by (with_reducible repeat (first | apply Kd.R_alloc | apply Kd.R_drewN | apply Kd.R_drew)); exact HO_759000.out) hb); have n1_ := Aside0.mk (Kd.R_below (Kd.R_elderB (by (with_reducible repeat (first | apply Kd.R_alloc | apply Kd.R_drewN | apply Kd.R_drew)); exact HO_759001.out) gb777 (Nat.le_of_eq hg.symm)) hb); have n2_ := Aside0.mk (blk_below (g := gb758) (o := .cells #[.slice Ao12 t752.length co12, .slice (some ad776) t755.length co14] 36 (0, 0)) (by (with_reducible repeat (first | refine blk_drewN ?_ _ | refine blk_drew ?_ | refine blk_alloc ?_ _)); exact BK758.out) hb); have n3_ := Aside0.mk (below_step (by repeat (first | (with_reducible first | exact HB.out | apply below_alloc | apply pw_below_drewN | apply below_drew1 | refine below_set ?_ GE758.out) | exact HB.out)) hb); have n4_ := Aside0.mk (hbox); have n5_ := Aside0.mk ((by rw [hg]; exact (below_size (by repeat (first | (with_reducible first | exact HB.out | apply below_alloc | apply pw_below_drewN | apply below_drew1 | refine below_set ?_ GE758.out) | exact HB.out))) : w.heap.size ≤ gb777)); have n6_ := Aside0.mk ((by rw [hg]; exact (below_size (by repeat (first | (with_reducible first | exact HB.out | apply below_alloc | apply pw_below_drewN | apply below_drew1 | refine below_set ?_ GE758.out) | exact HB.out))) : w.heap.size ≤ gb777)); have n7_ := Aside0.mk ((by rw [hg]; exact Nat.ne_of_lt (blk_lt (g := gb758) (o := .cells #[.slice Ao12 t752.length co12, .slice (some ad776) t755.length co14] 36 (0, 0)) (by (with_reducible repeat (first | refine blk_drewN ?_ _ | refine blk_drew ?_ | refine blk_alloc ?_ _)); exact BK758.out)) : gb758 ≠ gb777)); have n8_ := Aside0.mk ((by rw [hg]; exact Nat.ne_of_gt (blk_lt (g := gb758) (o := .cells #[.slice Ao12 t752.length co12, .slice (some ad776) t755.length co14] 36 (0, 0)) (by (with_reducible repeat (first | refine blk_drewN ?_ _ | refine blk_drew ?_ | refine blk_alloc ?_ _)); exact BK758.out)) : gb777 ≠ gb758)); clear HO_759000; clear HO_759001; clear BK758; clear HB; have HO_759000 := n0_; have HO_759001 := n1_; have BK758 := n2_; have HB := n3_; have BK777 := n4_; have GW777 := n5_; have GE777 := n6_; have NB758_777 := n7_; have NB777_758 := n8_; clear n0_ n1_ n2_ n3_ n4_ n5_ n6_ n7_ n8_; clear hb hbox hg; have hnb65 := NB777_758.out; have hnc65 := NB758_777.out; have hcz66_0 : w64.cell? ⟨gb777, 0, none⟩ = some (.int .i64 0) := (blk_cell BK777.out 0).trans rfl; have hcz66_1 : w64.cell? ⟨gb777, 1, none⟩ = some (.int .i64 0) := (blk_cell BK777.out 1).trans rfl; have hcz66_2 : w64.cell? ⟨gb777, 2, none⟩ = some (.int .i64 0) := (blk_cell BK777.out 2).trans rfl; have hfz66_0 := blk_frozen BK777.out 0; have hfz66_1 := blk_frozen BK777.out 1; have hfz66_2 := blk_frozen BK777.out 2; have hcz67_0 : w64.cell? ⟨gb758, 0, none⟩ = some (.slice Ao12 t752.length co12) := (blk_cell BK758.out 0).trans rfl; have hcz67_1 : w64.cell? ⟨gb758, 1, none⟩ = some (.slice (some ad776) t755.length co14) := (blk_cell BK758.out 1).trans rfl; have hfz67_0 := blk_frozen BK758.out 0; have hfz67_1 := blk_frozen BK758.out 1; have p778 : 0 ≤ (((rd_T55 t755 x17_3).f0) : Int) := of_decide_eq_true (by first | (with_reducible assumption) | assumption); have q778 : ((rd_T55 t755 x17_3).f0) < (t752.length : Int) := of_decide_eq_true (by first | (with_reducible assumption) | assumption); obtain ⟨ad778, e778, hx778_0⟩ := Kd.at_int (Kd.R_reads' HO_759000.out).2.2 ((rd_T55 t755 x17_3).f0) p778 q778; cases e778; have hn778_0 : ad778.block ≠ gb777 := Kd.own_blk (Kd.R_ne HO_759000.out BK777.out (by decide)); have hn778_1 : ad778.block ≠ gb777 := Kd.own_blk (Kd.R_ne HO_759000.out BK777.out (by decide)); have hn778_2 : ad778.block ≠ gb777 := Kd.own_blk (Kd.R_ne HO_759000.out BK777.out (by decide)); replace hx778_0 := (cell_far (p := ⟨gb777, 0, none⟩) (by first | (rw [add_block]; exact hn778_0) | (show (Addr.add _ _).block ≠ _; rw [add_block]; exact hn778_0) | exact hn778_0) (.int .i64 ((rd_T55 t755 x17_3).f0))).trans hx778_0; replace hx778_0 := (cell_far (p := ⟨gb777, 1, none⟩) (by first | (rw [add_block]; exact hn778_1) | (show (Addr.add _ _).block ≠ _; rw [add_block]; exact hn778_1) | exact hn778_1) (.int .i64 ((rd_T55 t755 x17_3).f1))).trans hx778_0; replace hx778_0 := (cell_far (p := ⟨gb777, 2, none⟩) (by first | (rw [add_block]; exact hn778_2) | (show (Addr.add _ _).block ≠ _; rw [add_block]; exact hn778_2) | exact hn778_2) (.int .i64 ((rd_T55 t755 x17_3).f2))).trans hx778_0; (try have hy778_0 := fun (n_ : Nat) => (show (((((w64.drewN n_).setCell ⟨gb777, 0, none⟩ (.int .i64 ((rd_T55 t755 x17_3).f0))).setCell ⟨gb777, 1, none⟩ (.int .i64 ((rd_T55 t755 x17_3).f1))).setCell ⟨gb777, 2, none⟩ (.int .i64 ((rd_T55 t755 x17_3).f2)))).cell? _ = some _ from hx778_0)); clear hn778_0; clear hn778_1; clear hn778_2; replace p778 := eq_true p778; replace q778 := eq_true q778; have p779 : 0 ≤ (((rd_T55 t755 x17_3).f1) : Int) := of_decide_eq_true (by first | (with_reducible assumption) | assumption); have q779 : ((rd_T55 t755 x17_3).f1) < (t752.length : Int) := of_decide_eq_true (by first | (with_reducible assumption) | assumption); obtain ⟨ad779, e779, hx779_0⟩ := Kd.at_int (Kd.R_reads' HO_759000.out).2.2 ((rd_T55 t755 x17_3).f1) p779 q779; obtain rfl : ad778 = ad779 := (by injection e779); have hn779_0 : ad778.block ≠ gb777 := Kd.own_blk (Kd.R_ne HO_759000.out BK777.out (by decide)); have hn779_1 : ad778.block ≠ gb777 := Kd.own_blk (Kd.R_ne HO_759000.out BK777.out (by decide)); have hn779_2 : ad778.block ≠ gb777 := Kd.own_blk (Kd.R_ne HO_759000.out BK777.out (by decide)); replace hx779_0 := (cell_far (p := ⟨gb777, 0, none⟩) (by first | (rw [add_block]; exact hn779_0) | (show (Addr.add _ _).block ≠ _; rw [add_block]; exact hn779_0) | exact hn779_0) (.int .i64 ((rd_T55 t755 x17_3).f0))).trans hx779_0; replace hx779_0 := (cell_far (p := ⟨gb777, 1, none⟩) (by first | (rw [add_block]; exact hn779_1) | (show (Addr.add _ _).block ≠ _; rw [add_block]; exact hn779_1) | exact hn779_1) (.int .i64 ((rd_T55 t755 x17_3).f1))).trans hx779_0; replace hx779_0 := (cell_far (p := ⟨gb777, 2, none⟩) (by first | (rw [add_block]; exact hn779_2) | (show (Addr.add _ _).block ≠ _; rw [add_block]; exact hn779_2) | exact hn779_2) (.int .i64 ((rd_T55 t755 x17_3).f2))).trans hx779_0; (try have hy779_0 := fun (n_ : Nat) => (show (((((w64.drewN n_).setCell ⟨gb777, 0, none⟩ (.int .i64 ((rd_T55 t755 x17_3).f0))).setCell ⟨gb777, 1, none⟩ (.int .i64 ((rd_T55 t755 x17_3).f1))).setCell ⟨gb777, 2, none⟩ (.int .i64 ((rd_T55 t755 x17_3).f2)))).cell? _ = some _ from hx779_0)); clear hn779_0; clear hn779_1; clear hn779_2; replace p779 := eq_true p779; replace q779 := eq_true q779)))
                  go_ret
                  exact ⟨by first | rfl | (simp [errW_none, errW_some] <;> rfl) | (simp [*, errW_none, errW_some] <;> rfl), by repeat (first | (with_reducible first | exact HB.out | apply below_alloc | apply pw_below_drewN | apply below_drew1 | refine below_set ?_ GE758.out | refine below_set ?_ GE777.out) | exact HB.out)⟩
                 ·rw [if_neg c62] at H
                  have c62b0 : decide (t759 < (wrap64 ((rd t752 ((rd_T55 t755 x17_3).f0)) + (rd t752 ((rd_T55 t755 x17_3).f1))))) = false := decide_eq_false c62
                  clear c62
                  have H' := Aside0.mk H
                  clear H
                  have hcz68_0 : wr.cell? ⟨gb758, 0, none⟩ = some (.slice Ao12 t752.length co12) := (blk_cell BK758.out 0).trans rfl
                  have hcz68_1 : wr.cell? ⟨gb758, 1, none⟩ = some (.slice Ao14 t755.length co14) := (blk_cell BK758.out 1).trans rfl
                  have hfz68_0 := blk_frozen BK758.out 0
                  have hfz68_1 := blk_frozen BK758.out 1
                  have p776 : 0 ≤ (x17_3 : Int) := of_decide_eq_true (by first | (with_reducible assumption) | assumption)
                  have q776 : x17_3 < (t755.length : Int) := of_decide_eq_true (by first | (with_reducible assumption) | assumption)
                  obtain ⟨ad776, e776, hx776_0, hx776_1, hx776_2⟩ := at_T55 (Kd.R_reads' HO_759001.out).2.2 x17_3 p776 q776
                  cases e776
                  replace p776 := eq_true p776
                  replace q776 := eq_true q776
                  go_wp2_with (first | ((with_reducible refine gate_dst (N := 18) rfl ?_); (try (refine gate_guard (by rfl) ?_; dsimp only)); refine box_event ?hg (N := 18) ?hd (cs := #[.int .i64 0, .int .i64 0, .int .i64 0]) (t := 55) ?hr ?_; (case hd => rfl); (case hg => rfl); (case hr => first | (go_simp; done) | (go_simp; rfl)); intro gb777 hg w69 hbox hb; have n0_ := Aside0.mk (Kd.R_below (by (with_reducible repeat (first | apply Kd.R_alloc | apply Kd.R_drewN | apply Kd.R_drew)); exact HO_759000.out) hb); have n1_ := Aside0.mk (Kd.R_below (Kd.R_elderB (by (with_reducible repeat (first | apply Kd.R_alloc | apply Kd.R_drewN | apply Kd.R_drew)); exact HO_759001.out) gb777 (Nat.le_of_eq hg.symm)) hb); have n2_ := Aside0.mk (blk_below (g := gb758) (o := .cells #[.slice Ao12 t752.length co12, .slice (some ad776) t755.length co14] 36 (0, 0)) (by (with_reducible repeat (first | refine blk_drewN ?_ _ | refine blk_drew ?_ | refine blk_alloc ?_ _)); exact BK758.out) hb); have n3_ := Aside0.mk (below_step (by repeat (first | (with_reducible first | exact HB.out | apply below_alloc | apply pw_below_drewN | apply below_drew1 | refine below_set ?_ GE758.out) | exact HB.out)) hb); have n4_ := Aside0.mk (hbox); have n5_ := Aside0.mk ((by rw [hg]; exact (below_size (by repeat (first | (with_reducible first | exact HB.out | apply below_alloc | apply pw_below_drewN | apply below_drew1 | refine below_set ?_ GE758.out) | exact HB.out))) : w.heap.size ≤ gb777)); have n6_ := Aside0.mk ((by rw [hg]; exact (below_size (by repeat (first | (with_reducible first | exact HB.out | apply below_alloc | apply pw_below_drewN | apply below_drew1 | refine below_set ?_ GE758.out) | exact HB.out))) : w.heap.size ≤ gb777)); have n7_ := Aside0.mk ((by rw [hg]; exact Nat.ne_of_lt (blk_lt (g := gb758) (o := .cells #[.slice Ao12 t752.length co12, .slice (some ad776) t755.length co14] 36 (0, 0)) (by (with_reducible repeat (first | refine blk_drewN ?_ _ | refine blk_drew ?_ | refine blk_alloc ?_ _)); exact BK758.out)) : gb758 ≠ gb777)); have n8_ := Aside0.mk ((by rw [hg]; exact Nat.ne_of_gt (blk_lt (g := gb758) (o := .cells #[.slice Ao12 t752.length co12, .slice (some ad776) t755.length co14] 36 (0, 0)) (by (with_reducible repeat (first | refine blk_drewN ?_ _ | refine blk_drew ?_ | refine blk_alloc ?_ _)); exact BK758.out)) : gb777 ≠ gb758)); clear HO_759000; clear HO_759001; clear BK758; clear HB; have HO_759000 := n0_; have HO_759001 := n1_; have BK758 := n2_; have HB := n3_; have BK777 := n4_; have GW777 := n5_; have GE777 := n6_; have NB758_777 := n7_; have NB777_758 := n8_; clear n0_ n1_ n2_ n3_ n4_ n5_ n6_ n7_ n8_; clear hb hbox hg; have hnb70 := NB777_758.out; have hnc70 := NB758_777.out; have hcz71_0 : w69.cell? ⟨gb777, 0, none⟩ = some (.int .i64 0) := (blk_cell BK777.out 0).trans rfl; have hcz71_1 : w69.cell? ⟨gb777, 1, none⟩ = some (.int .i64 0) := (blk_cell BK777.out 1).trans rfl; have hcz71_2 : w69.cell? ⟨gb777, 2, none⟩ = some (.int .i64 0) := (blk_cell BK777.out 2).trans rfl; have hfz71_0 := blk_frozen BK777.out 0; have hfz71_1 := blk_frozen BK777.out 1; have hfz71_2 := blk_frozen BK777.out 2; have hcz72_0 : w69.cell? ⟨gb758, 0, none⟩ = some (.slice Ao12 t752.length co12) := (blk_cell BK758.out 0).trans rfl; have hcz72_1 : w69.cell? ⟨gb758, 1, none⟩ = some (.slice (some ad776) t755.length co14) := (blk_cell BK758.out 1).trans rfl; have hfz72_0 := blk_frozen BK758.out 0; have hfz72_1 := blk_frozen BK758.out 1; have p778 : 0 ≤ (((rd_T55 t755 x17_3).f0) : Int) := of_decide_eq_true (by first | (with_reducible assumption) | assumption); have q778 : ((rd_T55 t755 x17_3).f0) < (t752.length : Int) := of_decide_eq_true (by first | (with_reducible assumption) | assumption); obtain ⟨ad778, e778, hx778_0⟩ := Kd.at_int (Kd.R_reads' HO_759000.out).2.2 ((rd_T55 t755 x17_3).f0) p778 q778; cases e778; have hn778_0 : ad778.block ≠ gb777 := Kd.own_blk (Kd.R_ne HO_759000.out BK777.out (by decide)); have hn778_1 : ad778.block ≠ gb777 := Kd.own_blk (Kd.R_ne HO_759000.out BK777.out (by decide)); have hn778_2 : ad778.block ≠ gb777 := Kd.own_blk (Kd.R_ne HO_759000.out BK777.out (by decide)); replace hx778_0 := (cell_far (p := ⟨gb777, 0, none⟩) (by first | (rw [add_block]; exact hn778_0) | (show (Addr.add _ _).block ≠ _; rw [add_block]; exact hn778_0) | exact hn778_0) (.int .i64 ((rd_T55 t755 x17_3).f0))).trans hx778_0; replace hx778_0 := (cell_far (p := ⟨gb777, 1, none⟩) (by first | (rw [add_block]; exact hn778_1) | (show (Addr.add _ _).block ≠ _; rw [add_block]; exact hn778_1) | exact hn778_1) (.int .i64 ((rd_T55 t755 x17_3).f1))).trans hx778_0; replace hx778_0 := (cell_far (p := ⟨gb777, 2, none⟩) (by first | (rw [add_block]; exact hn778_2) | (show (Addr.add _ _).block ≠ _; rw [add_block]; exact hn778_2) | exact hn778_2) (.int .i64 ((rd_T55 t755 x17_3).f2))).trans hx778_0; (try have hy778_0 := fun (n_ : Nat) => (show (((((w69.drewN n_).setCell ⟨gb777, 0, none⟩ (.int .i64 ((rd_T55 t755 x17_3).f0))).setCell ⟨gb777, 1, none⟩ (.int .i64 ((rd_T55 t755 x17_3).f1))).setCell ⟨gb777, 2, none⟩ (.int .i64 ((rd_T55 t755 x17_3).f2)))).cell? _ = some _ from hx778_0)); clear hn778_0; clear hn778_1; clear hn778_2; replace p778 := eq_true p778; replace q778 := eq_true q778; have p779 : 0 ≤ (((rd_T55 t755 x17_3).f1) : Int) := of_decide_eq_true (by first | (with_reducible assumption) | assumption); have q779 : ((rd_T55 t755 x17_3).f1) < (t752.length : Int) := of_decide_eq_true (by first | (with_reducible assumption) | assumption); obtain ⟨ad779, e779, hx779_0⟩ := Kd.at_int (Kd.R_reads' HO_759000.out).2.2 ((rd_T55 t755 x17_3).f1) p779 q779; obtain rfl : ad778 = ad779 := (by injection e779); have hn779_0 : ad778.block ≠ gb777 := Kd.own_blk (Kd.R_ne HO_759000.out BK777.out (by decide)); have hn779_1 : ad778.block ≠ gb777 := Kd.own_blk (Kd.R_ne HO_759000.out BK777.out (by decide)); have hn779_2 : ad778.block ≠ gb777 := Kd.own_blk (Kd.R_ne HO_759000.out BK777.out (by decide)); replace hx779_0 := (cell_far (p := ⟨gb777, 0, none⟩) (by first | (rw [add_block]; exact hn779_0) | (show (Addr.add _ _).block ≠ _; rw [add_block]; exact hn779_0) | exact hn779_0) (.int .i64 ((rd_T55 t755 x17_3).f0))).trans hx779_0; replace hx779_0 := (cell_far (p := ⟨gb777, 1, none⟩) (by first | (rw [add_block]; exact hn779_1) | (show (Addr.add _ _).block ≠ _; rw [add_block]; exact hn779_1) | exact hn779_1) (.int .i64 ((rd_T55 t755 x17_3).f1))).trans hx779_0; replace hx779_0 := (cell_far (p := ⟨gb777, 2, none⟩) (by first | (rw [add_block]; exact hn779_2) | (show (Addr.add _ _).block ≠ _; rw [add_block]; exact hn779_2) | exact hn779_2) (.int .i64 ((rd_T55 t755 x17_3).f2))).trans hx779_0; (try have hy779_0 := fun (n_ : Nat) => (show (((((w69.drewN n_).setCell ⟨gb777, 0, none⟩ (.int .i64 ((rd_T55 t755 x17_3).f0))).setCell ⟨gb777, 1, none⟩ (.int .i64 ((rd_T55 t755 x17_3).f1))).setCell ⟨gb777, 2, none⟩ (.int .i64 ((rd_T55 t755 x17_3).f2)))).cell? _ = some _ from hx779_0)); clear hn779_0; clear hn779_1; clear hn779_2; replace p779 := eq_true p779; replace q779 := eq_true q779))
                  repeat (go_quiet (first | ((with_reducible refine gate_dst (N := 18) rfl ?_); (try (refine gate_guard (by rfl) ?_; dsimp only)); refine box_event ?hg (N := 18) ?hd (cs := #[.int .i64 0, .int .i64 0, .int .i64 0]) (t := 55) ?hr ?_; (case hd => rfl); (case hg => rfl); (case hr => first | (go_simp; done) | (go_simp; rfl)); intro gb777 hg w69 hbox hb; have n0_ := Aside0.mk (Kd.R_below (by (with_reducible repeat (first | apply Kd.R_alloc | apply Kd.R_drewN | apply Kd.R_drew)); exact HO_759000.out) hb); have n1_ := Aside0.mk (Kd.R_below (Kd.R_elderB (by (with_reducible repeat (first | apply Kd.R_alloc | apply Kd.R_drewN | apply Kd.R_drew)); exact HO_759001.out) gb777 (Nat.le_of_eq hg.symm)) hb); have n2_ := Aside0.mk (blk_below (g := gb758) (o := .cells #[.slice Ao12 t752.length co12, .slice (some ad776) t755.length co14] 36 (0, 0)) (by (with_reducible repeat (first | refine blk_drewN ?_ _ | refine blk_drew ?_ | refine blk_alloc ?_ _)); exact BK758.out) hb); have n3_ := Aside0.mk (below_step (by repeat (first | (with_reducible first | exact HB.out | apply below_alloc | apply pw_below_drewN | apply below_drew1 | refine below_set ?_ GE758.out) | exact HB.out)) hb); have n4_ := Aside0.mk (hbox); have n5_ := Aside0.mk ((by rw [hg]; exact (below_size (by repeat (first | (with_reducible first | exact HB.out | apply below_alloc | apply pw_below_drewN | apply below_drew1 | refine below_set ?_ GE758.out) | exact HB.out))) : w.heap.size ≤ gb777)); have n6_ := Aside0.mk ((by rw [hg]; exact (below_size (by repeat (first | (with_reducible first | exact HB.out | apply below_alloc | apply pw_below_drewN | apply below_drew1 | refine below_set ?_ GE758.out) | exact HB.out))) : w.heap.size ≤ gb777)); have n7_ := Aside0.mk ((by rw [hg]; exact Nat.ne_of_lt (blk_lt (g := gb758) (o := .cells #[.slice Ao12 t752.length co12, .slice (some ad776) t755.length co14] 36 (0, 0)) (by (with_reducible repeat (first | refine blk_drewN ?_ _ | refine blk_drew ?_ | refine blk_alloc ?_ _)); exact BK758.out)) : gb758 ≠ gb777)); have n8_ := Aside0.mk ((by rw [hg]; exact Nat.ne_of_gt (blk_lt (g := gb758) (o := .cells #[.slice Ao12 t752.length co12, .slice (some ad776) t755.length co14] 36 (0, 0)) (by (with_reducible repeat (first | refine blk_drewN ?_ _ | refine blk_drew ?_ | refine blk_alloc ?_ _)); exact BK758.out)) : gb777 ≠ gb758)); clear HO_759000; clear HO_759001; clear BK758; clear HB; have HO_759000 := n0_; have HO_759001 := n1_; have BK758 := n2_; have HB := n3_; have BK777 := n4_; have GW777 := n5_; have GE777 := n6_; have NB758_777 := n7_; have NB777_758 := n8_; clear n0_ n1_ n2_ n3_ n4_ n5_ n6_ n7_ n8_; clear hb hbox hg; have hnb70 := NB777_758.out; have hnc70 := NB758_777.out; have hcz71_0 : w69.cell? ⟨gb777, 0, none⟩ = some (.int .i64 0) := (blk_cell BK777.out 0).trans rfl; have hcz71_1 : w69.cell? ⟨gb777, 1, none⟩ = some (.int .i64 0) := (blk_cell BK777.out 1).trans rfl; have hcz71_2 : w69.cell? ⟨gb777, 2, none⟩ = some (.int .i64 0) := (blk_cell BK777.out 2).trans rfl; have hfz71_0 := blk_frozen BK777.out 0; have hfz71_1 := blk_frozen BK777.out 1; have hfz71_2 := blk_frozen BK777.out 2; have hcz72_0 : w69.cell? ⟨gb758, 0, none⟩ = some (.slice Ao12 t752.length co12) := (blk_cell BK758.out 0).trans rfl; have hcz72_1 : w69.cell? ⟨gb758, 1, none⟩ = some (.slice (some ad776) t755.length co14) := (blk_cell BK758.out 1).trans rfl; have hfz72_0 := blk_frozen BK758.out 0; have hfz72_1 := blk_frozen BK758.out 1; have p778 : 0 ≤ (((rd_T55 t755 x17_3).f0) : Int) := of_decide_eq_true (by first | (with_reducible assumption) | assumption); have q778 : ((rd_T55 t755 x17_3).f0) < (t752.length : Int) := of_decide_eq_true (by first | (with_reducible assumption) | assumption); obtain ⟨ad778, e778, hx778_0⟩ := Kd.at_int (Kd.R_reads' HO_759000.out).2.2 ((rd_T55 t755 x17_3).f0) p778 q778; cases e778; have hn778_0 : ad778.block ≠ gb777 := Kd.own_blk (Kd.R_ne HO_759000.out BK777.out (by decide)); have hn778_1 : ad778.block ≠ gb777 := Kd.own_blk (Kd.R_ne HO_759000.out BK777.out (by decide)); have hn778_2 : ad778.block ≠ gb777 := Kd.own_blk (Kd.R_ne HO_759000.out BK777.out (by decide)); replace hx778_0 := (cell_far (p := ⟨gb777, 0, none⟩) (by first | (rw [add_block]; exact hn778_0) | (show (Addr.add _ _).block ≠ _; rw [add_block]; exact hn778_0) | exact hn778_0) (.int .i64 ((rd_T55 t755 x17_3).f0))).trans hx778_0; replace hx778_0 := (cell_far (p := ⟨gb777, 1, none⟩) (by first | (rw [add_block]; exact hn778_1) | (show (Addr.add _ _).block ≠ _; rw [add_block]; exact hn778_1) | exact hn778_1) (.int .i64 ((rd_T55 t755 x17_3).f1))).trans hx778_0; replace hx778_0 := (cell_far (p := ⟨gb777, 2, none⟩) (by first | (rw [add_block]; exact hn778_2) | (show (Addr.add _ _).block ≠ _; rw [add_block]; exact hn778_2) | exact hn778_2) (.int .i64 ((rd_T55 t755 x17_3).f2))).trans hx778_0; (try have hy778_0 := fun (n_ : Nat) => (show (((((w69.drewN n_).setCell ⟨gb777, 0, none⟩ (.int .i64 ((rd_T55 t755 x17_3).f0))).setCell ⟨gb777, 1, none⟩ (.int .i64 ((rd_T55 t755 x17_3).f1))).setCell ⟨gb777, 2, none⟩ (.int .i64 ((rd_T55 t755 x17_3).f2)))).cell? _ = some _ from hx778_0)); clear hn778_0; clear hn778_1; clear hn778_2; replace p778 := eq_true p778; replace q778 := eq_true q778; have p779 : 0 ≤ (((rd_T55 t755 x17_3).f1) : Int) := of_decide_eq_true (by first | (with_reducible assumption) | assumption); have q779 : ((rd_T55 t755 x17_3).f1) < (t752.length : Int) := of_decide_eq_true (by first | (with_reducible assumption) | assumption); obtain ⟨ad779, e779, hx779_0⟩ := Kd.at_int (Kd.R_reads' HO_759000.out).2.2 ((rd_T55 t755 x17_3).f1) p779 q779; obtain rfl : ad778 = ad779 := (by injection e779); have hn779_0 : ad778.block ≠ gb777 := Kd.own_blk (Kd.R_ne HO_759000.out BK777.out (by decide)); have hn779_1 : ad778.block ≠ gb777 := Kd.own_blk (Kd.R_ne HO_759000.out BK777.out (by decide)); have hn779_2 : ad778.block ≠ gb777 := Kd.own_blk (Kd.R_ne HO_759000.out BK777.out (by decide)); replace hx779_0 := (cell_far (p := ⟨gb777, 0, none⟩) (by first | (rw [add_block]; exact hn779_0) | (show (Addr.add _ _).block ≠ _; rw [add_block]; exact hn779_0) | exact hn779_0) (.int .i64 ((rd_T55 t755 x17_3).f0))).trans hx779_0; replace hx779_0 := (cell_far (p := ⟨gb777, 1, none⟩) (by first | (rw [add_block]; exact hn779_1) | (show (Addr.add _ _).block ≠ _; rw [add_block]; exact hn779_1) | exact hn779_1) (.int .i64 ((rd_T55 t755 x17_3).f1))).trans hx779_0; replace hx779_0 := (cell_far (p := ⟨gb777, 2, none⟩) (by first | (rw [add_block]; exact hn779_2) | (show (Addr.add _ _).block ≠ _; rw [add_block]; exact hn779_2) | exact hn779_2) (.int .i64 ((rd_T55 t755 x17_3).f2))).trans hx779_0; (try have hy779_0 := fun (n_ : Nat) => (show (((((w69.drewN n_).setCell ⟨gb777, 0, none⟩ (.int .i64 ((rd_T55 t755 x17_3).f0))).setCell ⟨gb777, 1, none⟩ (.int .i64 ((rd_T55 t755 x17_3).f1))).setCell ⟨gb777, 2, none⟩ (.int .i64 ((rd_T55 t755 x17_3).f2)))).cell? _ = some _ from hx779_0)); clear hn779_0; clear hn779_1; clear hn779_2; replace p779 := eq_true p779; replace q779 := eq_true q779)); try go_wp2_with (first | ((with_reducible refine gate_dst (N := 18) rfl ?_); (try (refine gate_guard (by rfl) ?_; dsimp only)); refine box_event ?hg (N := 18) ?hd (cs := #[.int .i64 0, .int .i64 0, .int .i64 0]) (t := 55) ?hr ?_; (case hd => rfl); (case hg => rfl); (case hr => first | (go_simp; done) | (go_simp; rfl)); intro gb777 hg w69 hbox hb; have n0_ := Aside0.mk (Kd.R_below (by (with_reducible repeat (first | apply Kd.R_alloc | apply Kd.R_drewN | apply Kd.R_drew)); exact HO_759000.out) hb); have n1_ := Aside0.mk (Kd.R_below (Kd.R_elderB (by (with_reducible repeat (first | apply Kd.R_alloc | apply Kd.R_drewN | apply Kd.R_drew)); exact HO_759001.out) gb777 (Nat.le_of_eq hg.symm)) hb); have n2_ := Aside0.mk (blk_below (g := gb758) (o := .cells #[.slice Ao12 t752.length co12, .slice (some ad776) t755.length co14] 36 (0, 0)) (by (with_reducible repeat (first | refine blk_drewN ?_ _ | refine blk_drew ?_ | refine blk_alloc ?_ _)); exact BK758.out) hb); have n3_ := Aside0.mk (below_step (by repeat (first | (with_reducible first | exact HB.out | apply below_alloc | apply pw_below_drewN | apply below_drew1 | refine below_set ?_ GE758.out) | exact HB.out)) hb); have n4_ := Aside0.mk (hbox); have n5_ := Aside0.mk ((by rw [hg]; exact (below_size (by repeat (first | (with_reducible first | exact HB.out | apply below_alloc | apply pw_below_drewN | apply below_drew1 | refine below_set ?_ GE758.out) | exact HB.out))) : w.heap.size ≤ gb777)); have n6_ := Aside0.mk ((by rw [hg]; exact (below_size (by repeat (first | (with_reducible first | exact HB.out | apply below_alloc | apply pw_below_drewN | apply below_drew1 | refine below_set ?_ GE758.out) | exact HB.out))) : w.heap.size ≤ gb777)); have n7_ := Aside0.mk ((by rw [hg]; exact Nat.ne_of_lt (blk_lt (g := gb758) (o := .cells #[.slice Ao12 t752.length co12, .slice (some ad776) t755.length co14] 36 (0, 0)) (by (with_reducible repeat (first | refine blk_drewN ?_ _ | refine blk_drew ?_ | refine blk_alloc ?_ _)); exact BK758.out)) : gb758 ≠ gb777)); have n8_ := Aside0.mk ((by rw [hg]; exact Nat.ne_of_gt (blk_lt (g := gb758) (o := .cells #[.slice Ao12 t752.length co12, .slice (some ad776) t755.length co14] 36 (0, 0)) (by (with_reducible repeat (first | refine blk_drewN ?_ _ | refine blk_drew ?_ | refine blk_alloc ?_ _)); exact BK758.out)) : gb777 ≠ gb758)); clear HO_759000; clear HO_759001; clear BK758; clear HB; have HO_759000 := n0_; have HO_759001 := n1_; have BK758 := n2_; have HB := n3_; have BK777 := n4_; have GW777 := n5_; have GE777 := n6_; have NB758_777 := n7_; have NB777_758 := n8_; clear n0_ n1_ n2_ n3_ n4_ n5_ n6_ n7_ n8_; clear hb hbox hg; have hnb70 := NB777_758.out; have hnc70 := NB758_777.out; have hcz71_0 : w69.cell? ⟨gb777, 0, none⟩ = some (.int .i64 0) := (blk_cell BK777.out 0).trans rfl; have hcz71_1 : w69.cell? ⟨gb777, 1, none⟩ = some (.int .i64 0) := (blk_cell BK777.out 1).trans rfl; have hcz71_2 : w69.cell? ⟨gb777, 2, none⟩ = some (.int .i64 0) := (blk_cell BK777.out 2).trans rfl; have hfz71_0 := blk_frozen BK777.out 0; have hfz71_1 := blk_frozen BK777.out 1; have hfz71_2 := blk_frozen BK777.out 2; have hcz72_0 : w69.cell? ⟨gb758, 0, none⟩ = some (.slice Ao12 t752.length co12) := (blk_cell BK758.out 0).trans rfl; have hcz72_1 : w69.cell? ⟨gb758, 1, none⟩ = some (.slice (some ad776) t755.length co14) := (blk_cell BK758.out 1).trans rfl; have hfz72_0 := blk_frozen BK758.out 0; have hfz72_1 := blk_frozen BK758.out 1; have p778 : 0 ≤ (((rd_T55 t755 x17_3).f0) : Int) := of_decide_eq_true (by first | (with_reducible assumption) | assumption); have q778 : ((rd_T55 t755 x17_3).f0) < (t752.length : Int) := of_decide_eq_true (by first | (with_reducible assumption) | assumption); obtain ⟨ad778, e778, hx778_0⟩ := Kd.at_int (Kd.R_reads' HO_759000.out).2.2 ((rd_T55 t755 x17_3).f0) p778 q778; cases e778; have hn778_0 : ad778.block ≠ gb777 := Kd.own_blk (Kd.R_ne HO_759000.out BK777.out (by decide)); have hn778_1 : ad778.block ≠ gb777 := Kd.own_blk (Kd.R_ne HO_759000.out BK777.out (by decide)); have hn778_2 : ad778.block ≠ gb777 := Kd.own_blk (Kd.R_ne HO_759000.out BK777.out (by decide)); replace hx778_0 := (cell_far (p := ⟨gb777, 0, none⟩) (by first | (rw [add_block]; exact hn778_0) | (show (Addr.add _ _).block ≠ _; rw [add_block]; exact hn778_0) | exact hn778_0) (.int .i64 ((rd_T55 t755 x17_3).f0))).trans hx778_0; replace hx778_0 := (cell_far (p := ⟨gb777, 1, none⟩) (by first | (rw [add_block]; exact hn778_1) | (show (Addr.add _ _).block ≠ _; rw [add_block]; exact hn778_1) | exact hn778_1) (.int .i64 ((rd_T55 t755 x17_3).f1))).trans hx778_0; replace hx778_0 := (cell_far (p := ⟨gb777, 2, none⟩) (by first | (rw [add_block]; exact hn778_2) | (show (Addr.add _ _).block ≠ _; rw [add_block]; exact hn778_2) | exact hn778_2) (.int .i64 ((rd_T55 t755 x17_3).f2))).trans hx778_0; (try have hy778_0 := fun (n_ : Nat) => (show (((((w69.drewN n_).setCell ⟨gb777, 0, none⟩ (.int .i64 ((rd_T55 t755 x17_3).f0))).setCell ⟨gb777, 1, none⟩ (.int .i64 ((rd_T55 t755 x17_3).f1))).setCell ⟨gb777, 2, none⟩ (.int .i64 ((rd_T55 t755 x17_3).f2)))).cell? _ = some _ from hx778_0)); clear hn778_0; clear hn778_1; clear hn778_2; replace p778 := eq_true p778; replace q778 := eq_true q778; have p779 : 0 ≤ (((rd_T55 t755 x17_3).f1) : Int) := of_decide_eq_true (by first | (with_reducible assumption) | assumption); have q779 : ((rd_T55 t755 x17_3).f1) < (t752.length : Int) := of_decide_eq_true (by first | (with_reducible assumption) | assumption); obtain ⟨ad779, e779, hx779_0⟩ := Kd.at_int (Kd.R_reads' HO_759000.out).2.2 ((rd_T55 t755 x17_3).f1) p779 q779; obtain rfl : ad778 = ad779 := (by injection e779); have hn779_0 : ad778.block ≠ gb777 := Kd.own_blk (Kd.R_ne HO_759000.out BK777.out (by decide)); have hn779_1 : ad778.block ≠ gb777 := Kd.own_blk (Kd.R_ne HO_759000.out BK777.out (by decide)); have hn779_2 : ad778.block ≠ gb777 := Kd.own_blk (Kd.R_ne HO_759000.out BK777.out (by decide)); replace hx779_0 := (cell_far (p := ⟨gb777, 0, none⟩) (by first | (rw [add_block]; exact hn779_0) | (show (Addr.add _ _).block ≠ _; rw [add_block]; exact hn779_0) | exact hn779_0) (.int .i64 ((rd_T55 t755 x17_3).f0))).trans hx779_0; replace hx779_0 := (cell_far (p := ⟨gb777, 1, none⟩) (by first | (rw [add_block]; exact hn779_1) | (show (Addr.add _ _).block ≠ _; rw [add_block]; exact hn779_1) | exact hn779_1) (.int .i64 ((rd_T55 t755 x17_3).f1))).trans hx779_0; replace hx779_0 := (cell_far (p := ⟨gb777, 2, none⟩) (by first | (rw [add_block]; exact hn779_2) | (show (Addr.add _ _).block ≠ _; rw [add_block]; exact hn779_2) | exact hn779_2) (.int .i64 ((rd_T55 t755 x17_3).f2))).trans hx779_0; (try have hy779_0 := fun (n_ : Nat) => (show (((((w69.drewN n_).setCell ⟨gb777, 0, none⟩ (.int .i64 ((rd_T55 t755 x17_3).f0))).setCell ⟨gb777, 1, none⟩ (.int .i64 ((rd_T55 t755 x17_3).f1))).setCell ⟨gb777, 2, none⟩ (.int .i64 ((rd_T55 t755 x17_3).f2)))).cell? _ = some _ from hx779_0)); clear hn779_0; clear hn779_1; clear hn779_2; replace p779 := eq_true p779; replace q779 := eq_true q779)))
                  go_roundg k3
                  case measure => have := HJ8.out; have := HK2.out; have := HK3.out; omega
                  case rel => exact ⟨(wrap64 (x16_3 + ((rd_T55 t755 x17_3).f2))), (wrap64 (x17_3 + 1)), (by first | rfl | (simp; done) | (simp [*]; done)), (by first | rfl | (simp; done) | (simp [*]; done)), H', ⟨by have := HJ8.out; have := HK2.out; have := HK3.out; omega⟩, ⟨by (with_reducible repeat (first | apply Kd.R_alloc | apply Kd.R_drewN | apply Kd.R_drew)); exact Kd.R_mono (Kd.R_far (p := ⟨gb777, 2, none⟩) (Kd.R_far (p := ⟨gb777, 1, none⟩) (Kd.R_far (p := ⟨gb777, 0, none⟩) (Kd.R_types HO_759000.out BK777.out (by decide)) (fun _ hk => hk.2) (.int .i64 ((rd_T55 t755 x17_3).f0))) (fun _ hk => hk.2) (.int .i64 ((rd_T55 t755 x17_3).f1))) (fun _ hk => hk.2) (.int .i64 ((rd_T55 t755 x17_3).f2))) (fun _ hk => trivial)⟩, ⟨by (with_reducible repeat (first | apply Kd.R_alloc | apply Kd.R_drewN | apply Kd.R_drew)); exact Kd.R_mono (Kd.R_far (p := ⟨gb777, 2, none⟩) (Kd.R_far (p := ⟨gb777, 1, none⟩) (Kd.R_far (p := ⟨gb777, 0, none⟩) (Kd.R_mono HO_759001.out (fun k_ hk => (⟨hk, hk.2⟩ : _ ∧ k_ ≠ gb777))) (fun _ hk => hk.2) (.int .i64 ((rd_T55 t755 x17_3).f0))) (fun _ hk => hk.2) (.int .i64 ((rd_T55 t755 x17_3).f1))) (fun _ hk => hk.2) (.int .i64 ((rd_T55 t755 x17_3).f2))) (fun _ hk => trivial)⟩, ⟨by (with_reducible repeat (first | refine blk_drewN ?_ _ | refine blk_drew ?_ | refine blk_alloc ?_ _)); refine blk_far ?_ NB758_777.out _; (with_reducible repeat (first | refine blk_drewN ?_ _ | refine blk_drew ?_ | refine blk_alloc ?_ _)); refine blk_far ?_ NB758_777.out _; (with_reducible repeat (first | refine blk_drewN ?_ _ | refine blk_drew ?_ | refine blk_alloc ?_ _)); refine blk_far ?_ NB758_777.out _; (with_reducible repeat (first | refine blk_drewN ?_ _ | refine blk_drew ?_ | refine blk_alloc ?_ _)); exact BK758.out⟩, ⟨by repeat (first | (with_reducible first | exact HB.out | apply below_alloc | apply pw_below_drewN | apply below_drew1 | refine below_set ?_ GE758.out | refine below_set ?_ GE777.out) | exact HB.out)⟩⟩
                ·rw [if_neg c61] at H
                 exact absurd H (by simp)
               ·rw [if_neg c60] at H
                exact absurd H (by simp)
              ·rw [if_neg c59] at H
               exact absurd H (by simp)
             ·rw [if_neg c58] at H
              exact absurd H (by simp)
            ·rw [if_neg c57] at H
             have c57b0 : (((rd_T55 t755 x17_3).f2) == 0) = false := beq_eq_false_iff_ne.mpr c57
             have c57b1 : (((rd_T55 t755 x17_3).f2) != 0) = true := bne_iff_ne.mpr c57
             have H' := Aside0.mk H
             clear H
             have hcz73_0 : wr.cell? ⟨gb758, 0, none⟩ = some (.slice Ao12 t752.length co12) := (blk_cell BK758.out 0).trans rfl
             have hcz73_1 : wr.cell? ⟨gb758, 1, none⟩ = some (.slice Ao14 t755.length co14) := (blk_cell BK758.out 1).trans rfl
             have hfz73_0 := blk_frozen BK758.out 0
             have hfz73_1 := blk_frozen BK758.out 1
             have p776 : 0 ≤ (x17_3 : Int) := of_decide_eq_true (by first | (with_reducible assumption) | assumption)
             have q776 : x17_3 < (t755.length : Int) := of_decide_eq_true (by first | (with_reducible assumption) | assumption)
             obtain ⟨ad776, e776, hx776_0, hx776_1, hx776_2⟩ := at_T55 (Kd.R_reads' HO_759001.out).2.2 x17_3 p776 q776
             cases e776
             replace p776 := eq_true p776
             replace q776 := eq_true q776
             go_wp2_with (first | ((with_reducible refine gate_dst (N := 18) rfl ?_); (try (refine gate_guard (by rfl) ?_; dsimp only)); refine box_event ?hg (N := 18) ?hd (cs := #[.int .i64 0, .int .i64 0, .int .i64 0]) (t := 55) ?hr ?_; (case hd => rfl); (case hg => rfl); (case hr => first | (go_simp; done) | (go_simp; rfl)); intro gb777 hg w74 hbox hb; have n0_ := Aside0.mk (Kd.R_below (by (with_reducible repeat (first | apply Kd.R_alloc | apply Kd.R_drewN | apply Kd.R_drew)); exact HO_759000.out) hb); have n1_ := Aside0.mk (Kd.R_below (Kd.R_elderB (by (with_reducible repeat (first | apply Kd.R_alloc | apply Kd.R_drewN | apply Kd.R_drew)); exact HO_759001.out) gb777 (Nat.le_of_eq hg.symm)) hb); have n2_ := Aside0.mk (blk_below (g := gb758) (o := .cells #[.slice Ao12 t752.length co12, .slice (some ad776) t755.length co14] 36 (0, 0)) (by (with_reducible repeat (first | refine blk_drewN ?_ _ | refine blk_drew ?_ | refine blk_alloc ?_ _)); exact BK758.out) hb); have n3_ := Aside0.mk (below_step (by repeat (first | (with_reducible first | exact HB.out | apply below_alloc | apply pw_below_drewN | apply below_drew1 | refine below_set ?_ GE758.out) | exact HB.out)) hb); have n4_ := Aside0.mk (hbox); have n5_ := Aside0.mk ((by rw [hg]; exact (below_size (by repeat (first | (with_reducible first | exact HB.out | apply below_alloc | apply pw_below_drewN | apply below_drew1 | refine below_set ?_ GE758.out) | exact HB.out))) : w.heap.size ≤ gb777)); have n6_ := Aside0.mk ((by rw [hg]; exact (below_size (by repeat (first | (with_reducible first | exact HB.out | apply below_alloc | apply pw_below_drewN | apply below_drew1 | refine below_set ?_ GE758.out) | exact HB.out))) : w.heap.size ≤ gb777)); have n7_ := Aside0.mk ((by rw [hg]; exact Nat.ne_of_lt (blk_lt (g := gb758) (o := .cells #[.slice Ao12 t752.length co12, .slice (some ad776) t755.length co14] 36 (0, 0)) (by (with_reducible repeat (first | refine blk_drewN ?_ _ | refine blk_drew ?_ | refine blk_alloc ?_ _)); exact BK758.out)) : gb758 ≠ gb777)); have n8_ := Aside0.mk ((by rw [hg]; exact Nat.ne_of_gt (blk_lt (g := gb758) (o := .cells #[.slice Ao12 t752.length co12, .slice (some ad776) t755.length co14] 36 (0, 0)) (by (with_reducible repeat (first | refine blk_drewN ?_ _ | refine blk_drew ?_ | refine blk_alloc ?_ _)); exact BK758.out)) : gb777 ≠ gb758)); clear HO_759000; clear HO_759001; clear BK758; clear HB; have HO_759000 := n0_; have HO_759001 := n1_; have BK758 := n2_; have HB := n3_; have BK777 := n4_; have GW777 := n5_; have GE777 := n6_; have NB758_777 := n7_; have NB777_758 := n8_; clear n0_ n1_ n2_ n3_ n4_ n5_ n6_ n7_ n8_; clear hb hbox hg; have hnb75 := NB777_758.out; have hnc75 := NB758_777.out; have hcz76_0 : w74.cell? ⟨gb777, 0, none⟩ = some (.int .i64 0) := (blk_cell BK777.out 0).trans rfl; have hcz76_1 : w74.cell? ⟨gb777, 1, none⟩ = some (.int .i64 0) := (blk_cell BK777.out 1).trans rfl; have hcz76_2 : w74.cell? ⟨gb777, 2, none⟩ = some (.int .i64 0) := (blk_cell BK777.out 2).trans rfl; have hfz76_0 := blk_frozen BK777.out 0; have hfz76_1 := blk_frozen BK777.out 1; have hfz76_2 := blk_frozen BK777.out 2))
             repeat (go_quiet (first | ((with_reducible refine gate_dst (N := 18) rfl ?_); (try (refine gate_guard (by rfl) ?_; dsimp only)); refine box_event ?hg (N := 18) ?hd (cs := #[.int .i64 0, .int .i64 0, .int .i64 0]) (t := 55) ?hr ?_; (case hd => rfl); (case hg => rfl); (case hr => first | (go_simp; done) | (go_simp; rfl)); intro gb777 hg w74 hbox hb; have n0_ := Aside0.mk (Kd.R_below (by (with_reducible repeat (first | apply Kd.R_alloc | apply Kd.R_drewN | apply Kd.R_drew)); exact HO_759000.out) hb); have n1_ := Aside0.mk (Kd.R_below (Kd.R_elderB (by (with_reducible repeat (first | apply Kd.R_alloc | apply Kd.R_drewN | apply Kd.R_drew)); exact HO_759001.out) gb777 (Nat.le_of_eq hg.symm)) hb); have n2_ := Aside0.mk (blk_below (g := gb758) (o := .cells #[.slice Ao12 t752.length co12, .slice (some ad776) t755.length co14] 36 (0, 0)) (by (with_reducible repeat (first | refine blk_drewN ?_ _ | refine blk_drew ?_ | refine blk_alloc ?_ _)); exact BK758.out) hb); have n3_ := Aside0.mk (below_step (by repeat (first | (with_reducible first | exact HB.out | apply below_alloc | apply pw_below_drewN | apply below_drew1 | refine below_set ?_ GE758.out) | exact HB.out)) hb); have n4_ := Aside0.mk (hbox); have n5_ := Aside0.mk ((by rw [hg]; exact (below_size (by repeat (first | (with_reducible first | exact HB.out | apply below_alloc | apply pw_below_drewN | apply below_drew1 | refine below_set ?_ GE758.out) | exact HB.out))) : w.heap.size ≤ gb777)); have n6_ := Aside0.mk ((by rw [hg]; exact (below_size (by repeat (first | (with_reducible first | exact HB.out | apply below_alloc | apply pw_below_drewN | apply below_drew1 | refine below_set ?_ GE758.out) | exact HB.out))) : w.heap.size ≤ gb777)); have n7_ := Aside0.mk ((by rw [hg]; exact Nat.ne_of_lt (blk_lt (g := gb758) (o := .cells #[.slice Ao12 t752.length co12, .slice (some ad776) t755.length co14] 36 (0, 0)) (by (with_reducible repeat (first | refine blk_drewN ?_ _ | refine blk_drew ?_ | refine blk_alloc ?_ _)); exact BK758.out)) : gb758 ≠ gb777)); have n8_ := Aside0.mk ((by rw [hg]; exact Nat.ne_of_gt (blk_lt (g := gb758) (o := .cells #[.slice Ao12 t752.length co12, .slice (some ad776) t755.length co14] 36 (0, 0)) (by (with_reducible repeat (first | refine blk_drewN ?_ _ | refine blk_drew ?_ | refine blk_alloc ?_ _)); exact BK758.out)) : gb777 ≠ gb758)); clear HO_759000; clear HO_759001; clear BK758; clear HB; have HO_759000 := n0_; have HO_759001 := n1_; have BK758 := n2_; have HB := n3_; have BK777 := n4_; have GW777 := n5_; have GE777 := n6_; have NB758_777 := n7_; have NB777_758 := n8_; clear n0_ n1_ n2_ n3_ n4_ n5_ n6_ n7_ n8_; clear hb hbox hg; have hnb75 := NB777_758.out; have hnc75 := NB758_777.out; have hcz76_0 : w74.cell? ⟨gb777, 0, none⟩ = some (.int .i64 0) := (blk_cell BK777.out 0).trans rfl; have hcz76_1 : w74.cell? ⟨gb777, 1, none⟩ = some (.int .i64 0) := (blk_cell BK777.out 1).trans rfl; have hcz76_2 : w74.cell? ⟨gb777, 2, none⟩ = some (.int .i64 0) := (blk_cell BK777.out 2).trans rfl; have hfz76_0 := blk_frozen BK777.out 0; have hfz76_1 := blk_frozen BK777.out 1; have hfz76_2 := blk_frozen BK777.out 2)); try go_wp2_with (first | ((with_reducible refine gate_dst (N := 18) rfl ?_); (try (refine gate_guard (by rfl) ?_; dsimp only)); refine box_event ?hg (N := 18) ?hd (cs := #[.int .i64 0, .int .i64 0, .int .i64 0]) (t := 55) ?hr ?_; (case hd => rfl); (case hg => rfl); (case hr => first | (go_simp; done) | (go_simp; rfl)); intro gb777 hg w74 hbox hb; have n0_ := Aside0.mk (Kd.R_below (by (with_reducible repeat (first | apply Kd.R_alloc | apply Kd.R_drewN | apply Kd.R_drew)); exact HO_759000.out) hb); have n1_ := Aside0.mk (Kd.R_below (Kd.R_elderB (by (with_reducible repeat (first | apply Kd.R_alloc | apply Kd.R_drewN | apply Kd.R_drew)); exact HO_759001.out) gb777 (Nat.le_of_eq hg.symm)) hb); have n2_ := Aside0.mk (blk_below (g := gb758) (o := .cells #[.slice Ao12 t752.length co12, .slice (some ad776) t755.length co14] 36 (0, 0)) (by (with_reducible repeat (first | refine blk_drewN ?_ _ | refine blk_drew ?_ | refine blk_alloc ?_ _)); exact BK758.out) hb); have n3_ := Aside0.mk (below_step (by repeat (first | (with_reducible first | exact HB.out | apply below_alloc | apply pw_below_drewN | apply below_drew1 | refine below_set ?_ GE758.out) | exact HB.out)) hb); have n4_ := Aside0.mk (hbox); have n5_ := Aside0.mk ((by rw [hg]; exact (below_size (by repeat (first | (with_reducible first | exact HB.out | apply below_alloc | apply pw_below_drewN | apply below_drew1 | refine below_set ?_ GE758.out) | exact HB.out))) : w.heap.size ≤ gb777)); have n6_ := Aside0.mk ((by rw [hg]; exact (below_size (by repeat (first | (with_reducible first | exact HB.out | apply below_alloc | apply pw_below_drewN | apply below_drew1 | refine below_set ?_ GE758.out) | exact HB.out))) : w.heap.size ≤ gb777)); have n7_ := Aside0.mk ((by rw [hg]; exact Nat.ne_of_lt (blk_lt (g := gb758) (o := .cells #[.slice Ao12 t752.length co12, .slice (some ad776) t755.length co14] 36 (0, 0)) (by (with_reducible repeat (first | refine blk_drewN ?_ _ | refine blk_drew ?_ | refine blk_alloc ?_ _)); exact BK758.out)) : gb758 ≠ gb777)); have n8_ := Aside0.mk ((by rw [hg]; exact Nat.ne_of_gt (blk_lt (g := gb758) (o := .cells #[.slice Ao12 t752.length co12, .slice (some ad776) t755.length co14] 36 (0, 0)) (by (with_reducible repeat (first | refine blk_drewN ?_ _ | refine blk_drew ?_ | refine blk_alloc ?_ _)); exact BK758.out)) : gb777 ≠ gb758)); clear HO_759000; clear HO_759001; clear BK758; clear HB; have HO_759000 := n0_; have HO_759001 := n1_; have BK758 := n2_; have HB := n3_; have BK777 := n4_; have GW777 := n5_; have GE777 := n6_; have NB758_777 := n7_; have NB777_758 := n8_; clear n0_ n1_ n2_ n3_ n4_ n5_ n6_ n7_ n8_; clear hb hbox hg; have hnb75 := NB777_758.out; have hnc75 := NB758_777.out; have hcz76_0 : w74.cell? ⟨gb777, 0, none⟩ = some (.int .i64 0) := (blk_cell BK777.out 0).trans rfl; have hcz76_1 : w74.cell? ⟨gb777, 1, none⟩ = some (.int .i64 0) := (blk_cell BK777.out 1).trans rfl; have hcz76_2 : w74.cell? ⟨gb777, 2, none⟩ = some (.int .i64 0) := (blk_cell BK777.out 2).trans rfl; have hfz76_0 := blk_frozen BK777.out 0; have hfz76_1 := blk_frozen BK777.out 1; have hfz76_2 := blk_frozen BK777.out 2)))
             go_roundg k3
             case measure => have := HJ8.out; have := HK2.out; have := HK3.out; omega
             case rel => exact ⟨(wrap64 (x16_3 + ((rd_T55 t755 x17_3).f2))), (wrap64 (x17_3 + 1)), (by first | rfl | (simp; done) | (simp [*]; done)), (by first | rfl | (simp; done) | (simp [*]; done)), H', ⟨by have := HJ8.out; have := HK2.out; have := HK3.out; omega⟩, ⟨by (with_reducible repeat (first | apply Kd.R_alloc | apply Kd.R_drewN | apply Kd.R_drew)); exact Kd.R_mono (Kd.R_far (p := ⟨gb777, 2, none⟩) (Kd.R_far (p := ⟨gb777, 1, none⟩) (Kd.R_far (p := ⟨gb777, 0, none⟩) (Kd.R_types HO_759000.out BK777.out (by decide)) (fun _ hk => hk.2) (.int .i64 ((rd_T55 t755 x17_3).f0))) (fun _ hk => hk.2) (.int .i64 ((rd_T55 t755 x17_3).f1))) (fun _ hk => hk.2) (.int .i64 ((rd_T55 t755 x17_3).f2))) (fun _ hk => trivial)⟩, ⟨by (with_reducible repeat (first | apply Kd.R_alloc | apply Kd.R_drewN | apply Kd.R_drew)); exact Kd.R_mono (Kd.R_far (p := ⟨gb777, 2, none⟩) (Kd.R_far (p := ⟨gb777, 1, none⟩) (Kd.R_far (p := ⟨gb777, 0, none⟩) (Kd.R_mono HO_759001.out (fun k_ hk => (⟨hk, hk.2⟩ : _ ∧ k_ ≠ gb777))) (fun _ hk => hk.2) (.int .i64 ((rd_T55 t755 x17_3).f0))) (fun _ hk => hk.2) (.int .i64 ((rd_T55 t755 x17_3).f1))) (fun _ hk => hk.2) (.int .i64 ((rd_T55 t755 x17_3).f2))) (fun _ hk => trivial)⟩, ⟨by (with_reducible repeat (first | refine blk_drewN ?_ _ | refine blk_drew ?_ | refine blk_alloc ?_ _)); refine blk_far ?_ NB758_777.out _; (with_reducible repeat (first | refine blk_drewN ?_ _ | refine blk_drew ?_ | refine blk_alloc ?_ _)); refine blk_far ?_ NB758_777.out _; (with_reducible repeat (first | refine blk_drewN ?_ _ | refine blk_drew ?_ | refine blk_alloc ?_ _)); refine blk_far ?_ NB758_777.out _; (with_reducible repeat (first | refine blk_drewN ?_ _ | refine blk_drew ?_ | refine blk_alloc ?_ _)); exact BK758.out⟩, ⟨by repeat (first | (with_reducible first | exact HB.out | apply below_alloc | apply pw_below_drewN | apply below_drew1 | refine below_set ?_ GE758.out | refine below_set ?_ GE777.out) | exact HB.out)⟩⟩
           ·rw [if_neg c56] at H
            exact absurd H (by simp)
          ·rw [if_neg c55] at H
           have c55b0 : decide (x17_3 < (t755.length : Int)) = false := decide_eq_false c55
           clear c55
           by_cases c77 : x12_2 = t759
           ·rw [if_pos c77] at H
            have c77b0 : (x12_2 == t759) = true := beq_iff_eq.mpr c77
            have c77b1 : (x12_2 != t759) = false := bne_eq_false_iff_eq.mpr c77
            clear c77
            obtain rfl := Option.some.inj H
            have hcz78_0 : wr.cell? ⟨gb758, 0, none⟩ = some (.slice Ao12 t752.length co12) := (blk_cell BK758.out 0).trans rfl
            have hcz78_1 : wr.cell? ⟨gb758, 1, none⟩ = some (.slice Ao14 t755.length co14) := (blk_cell BK758.out 1).trans rfl
            have hfz78_0 := blk_frozen BK758.out 0
            have hfz78_1 := blk_frozen BK758.out 1
            go_wp2
            repeat (go_quiet (fail); try go_wp2)
            go_ret
            exact ⟨by first | rfl | (simp [errW_none, errW_some] <;> rfl) | (simp [*, errW_none, errW_some] <;> rfl), by repeat (first | (with_reducible first | exact HB.out | apply below_alloc | apply pw_below_drewN | apply below_drew1 | refine below_set ?_ GE758.out) | exact HB.out)⟩
           ·rw [if_neg c77] at H
            have c77b0 : (x12_2 == t759) = false := beq_eq_false_iff_ne.mpr c77
            have c77b1 : (x12_2 != t759) = true := bne_iff_ne.mpr c77
            obtain rfl := Option.some.inj H
            have hcz79_0 : wr.cell? ⟨gb758, 0, none⟩ = some (.slice Ao12 t752.length co12) := (blk_cell BK758.out 0).trans rfl
            have hcz79_1 : wr.cell? ⟨gb758, 1, none⟩ = some (.slice Ao14 t755.length co14) := (blk_cell BK758.out 1).trans rfl
            have hfz79_0 := blk_frozen BK758.out 0
            have hfz79_1 := blk_frozen BK758.out 1
            go_wp2
            repeat (go_quiet (fail); try go_wp2)
            go_ret
            exact ⟨by first | rfl | (simp [errW_none, errW_some] <;> rfl) | (simp [*, errW_none, errW_some] <;> rfl), by repeat (first | (with_reducible first | exact HB.out | apply below_alloc | apply pw_below_drewN | apply below_drew1 | refine below_set ?_ GE758.out) | exact HB.out)⟩
def laws_FnSlowest.Pure : Prop := ∀ (l0 : List Int) (l1 : List Int), l0.length ≤ maxLen → l0.length * 1 ≤ 140737488351232 → (∀ x ∈ l0, (Lit.int .u8 x).wf = true) → l1.length ≤ maxLen → l1.length * 1 ≤ 140737488351232 → (∀ x ∈ l1, (Lit.int .u8 x).wf = true) → ∃ k, laws_FnSlowest.f k l0 l1 = some true
theorem laws_FnSlowest.walk (P : laws_FnSlowest.Pure) (a0 : Option Addr) (len0 cap0 : Nat) (z0 : List Int) (a1 : Option Addr) (len1 cap1 : Nat) (z1 : List Int) (w : World) (w0 : (a0 = none ∧ len0 = 0 ∧ cap0 = 0 ∧ z0 = []) ∨ ∃ x, a0 = some x ∧ len0 ≤ cap0 ∧ cap0 ≤ maxLen ∧ z0.length = cap0 ∧ (∀ i, i < z0.length → w.cell? (x.add i) = some (.int .u8 (z0.getD i 0))) ∧ ∀ n ∈ z0, (Lit.int .u8 n).wf = true) (y0 : len0 * 1 ≤ 140737488351232) (w1 : (a1 = none ∧ len1 = 0 ∧ cap1 = 0 ∧ z1 = []) ∨ ∃ x, a1 = some x ∧ len1 ≤ cap1 ∧ cap1 ≤ maxLen ∧ z1.length = cap1 ∧ (∀ i, i < z1.length → w.cell? (x.add i) = some (.int .u8 (z1.getD i 0))) ∧ ∀ n ∈ z1, (Lit.int .u8 n).wf = true) (y1 : len1 * 1 ≤ 140737488351232) :
  Calls Try.prog 11 #[.slice a0 len0 cap0, .slice a1 len1 cap1] w fun e w' => e = .returned (.bool true) ∧ Below w.heap.size w w' := by
 obtain ⟨l0, rfl, hr0, hm0, hw0, hc0⟩ := ReadsInt.ofRowC w0
 obtain ⟨l1, rfl, hr1, hm1, hw1, hc1⟩ := ReadsInt.ofRowC w1
 obtain ⟨k, h⟩ := P l0 l1 hm0 y0 hw0 hm1 y1 hw1
 refine (laws_FnSlowest.calls k _ _ l0 _ _ l1 true w (Kd.C_of_reads (d := (0 : Int)) (h1 := fun _ => rfl) hr0) hc0 (Kd.C_of_reads (d := (0 : Int)) (h1 := fun _ => rfl) hr1) hc1 h).mono ?_
 rintro e w' ⟨rfl, hd⟩
 exact ⟨rfl, hd⟩
end Go.Proofs.Ytojpibpjieanhaa.X
end
