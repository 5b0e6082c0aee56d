/- My own texts of this seat, merged: XIsFlow, Xp103, Xp86, XOpenClo, XIsOpen, Xp51, Xp23, CForm, CRings, Xp49, Xp50. Conditions: as each lemma says. -/
import Derived.Test.YtojpibpjieanhaaI0
import Derived.Test.YtojpibpjieanhaaI2
import Derived.RegionTactic
import Derived.BigRegion
import Derived.Test.YtojpibpjieanhaaI1
/- The program's isFlow: what it answers. Conditions: none. -/
namespace Go.Proofs.Ytojpibpjieanhaa.X
open Go.RowKit Go.Proofs.YtojpibpjieanhaaW.PrintWords Go.Proofs.YtojpibpjieanhaaW.PrintLast Go.Proofs.YtojpibpjieanhaaW.PrintMore
set_option linter.unusedVariables false
set_option linter.unusedSimpArgs false
set_option maxHeartbeats 4000000 in
set_option maxRecDepth 100000 in
/-- The library's search over whole numbers, with a quiet closure. -/
theorem has76 [C_slices_IndexFunc_int64_int64] (k : Nat) (A : Option Addr) (c : Nat) (l : List Int) (r : Int) (cf : Nat) (cfn : Func) (caps : Array Value) (hcf : CloIs Try.prog cf cfn) (w : World)
    (hcl : ∀ x r W, C_slices_IndexFunc_int64_int64.f x = some r → Below w.heap.size w W → Calls Try.prog cf (#[.int .i64 x] ++ caps) W fun e w' => e = .returned (.bool r) ∧ Drawn0 W w')
    (hr : Kd.C (Kd.int .i64) w A l.length l) (hc : l.length ≤ c) (h : slices_IndexFunc_int64_int64.f k l 0 = some r) :
    Calls Try.prog 76 #[.slice A l.length c, .func (.func cf) #[] caps] w fun e w' => e = .returned (.bool (decide (r ≥ 0))) ∧ Drawn0 w w' := by
  have H := Aside0.mk h
  have HR := Aside0.mk hr
  have HC := Aside0.mk hc
  have HF := Aside0.mk hcf
  have HL := Aside0.mk hcl
  clear h hr hc hcf hcl
  have HD := Aside0.mk (Drawn0.refl w)
  go_enter Try.func76, Try.ntmps76
  go_wp2_with (first
    | (go_at_call 99; refine (slices_IndexFunc_int64_int64.calls k A c l 0 r cf cfn caps HF.out _ HL.out HR.out HC.out H.out).mono ?_; rintro e wn ⟨rfl, hb⟩; have n0_ := Aside0.mk (drawn_trans HD.out hb); clear HD hb; have HD := n0_; clear n0_))
  go_ret
  exact ⟨rfl, HD.out⟩
set_option maxHeartbeats 4000000 in
set_option maxRecDepth 100000 in
/-- .. over wires, with a closure that may make memory. -/
theorem has83 [C_impl_Wire_102] (k : Nat) (A : Option Addr) (c : Nat) (l : List S55) (r : Int) (cf : Nat) (cfn : Func) (caps : Array Value) (hcf : CloIs Try.prog cf cfn) (w : World)
    (hcl : ∀ x0 x1 x2 r W, C_impl_Wire_102.f x0 x1 x2 = some r → Below w.heap.size w W → Calls Try.prog cf (#[.agg #[.int .i64 x0, .int .i64 x1, .int .i64 x2]] ++ caps) W fun e w' => e = .returned (.bool r) ∧ Below W.heap.size W w')
    (hr : Kd.C k55 w A l.length l) (hc : l.length ≤ c) (h : impl_Wire_102.f k l 0 = some r) :
    Calls Try.prog 83 #[.slice A l.length c, .func (.func cf) #[] caps] w fun e w' => e = .returned (.bool (decide (r ≥ 0))) ∧ Below w.heap.size w w' := by
  have H := Aside0.mk h
  have HR := Aside0.mk hr
  have HC := Aside0.mk hc
  have HF := Aside0.mk hcf
  have HL := Aside0.mk hcl
  clear h hr hc hcf hcl
  have HB := Aside0.mk (Below.refl w.heap.size w)
  go_enter Try.func83, Try.ntmps83
  go_wp2_with (first
    | (go_at_call 102; refine (impl_Wire_102.calls k A c l 0 r cf cfn caps HF.out _ HL.out HR.out HC.out H.out).mono ?_; rintro e wn ⟨rfl, hb⟩; have n0_ := Aside0.mk (below_step HB.out hb); clear HB hb; have HB := n0_; clear n0_))
  go_ret
  exact ⟨rfl, HB.out⟩
abbrev isDelC : C_slices_IndexFunc_int64_int64 := ⟨fun x => (impl_isDelay.f x).bind fun b => some (!b)⟩
set_option maxHeartbeats 4000000 in
set_option maxRecDepth 100000 in
theorem IsDelClo (x : Int) (b : Bool) (w : World) (h : impl_isDelay.f x = some b) : Calls Try.prog 81 #[.int .i64 x] w fun e w' => e = .returned (.bool !b) ∧ Drawn0 w w' := by
  have H := Aside0.mk h
  clear h
  have HD := Aside0.mk (Drawn0.refl w)
  go_enter Try.func81, Try.ntmps81
  go_wp2_with (first
    | (go_at_call 82; (with_reducible refine (impl_isDelay.calls x b _ H.out).mono ?_); rintro e wn ⟨rfl, hb⟩; have n0_ := Aside0.mk (drawn_trans HD.out hb); clear HD hb; have HD := n0_; clear n0_))
  go_ret
  exact ⟨rfl, HD.out⟩
theorem IsDelCl (w : World) : ∀ x r W, isDelC.f x = some r → Below w.heap.size w W → Calls Try.prog 81 (#[.int .i64 x] ++ #[]) W fun e w' => e = .returned (.bool r) ∧ Drawn0 W w' := by
  intro x r W hx hW
  obtain ⟨b, hb, hx⟩ := Option.bind_eq_some_iff.mp hx
  obtain rfl := Option.some.inj hx
  exact IsDelClo x b W hb
/-- What isFlow asks of a wire: yes if it is none. -/
def badWire (n f t c : Int) : Bool := !(decide (0 ≤ f) && decide (f ≤ n - 1)) || (!(decide (0 ≤ t) && decide (t ≤ n - 1)) || !(decide (0 ≤ c) && decide (c ≤ 20)))
abbrev wireC (n : Int) : C_impl_Wire_102 := ⟨fun f t c => some (badWire n f t c)⟩
theorem within_w (a b c : Int) : impl_within.f a b c = some (decide (b ≤ a) && decide (a ≤ c)) := by
  unfold impl_within.f; by_cases h : a ≥ b <;> simp [h] <;> omega
set_option maxHeartbeats 4000000 in
set_option maxRecDepth 100000 in
theorem WireClo_1 (x0 x1 x2 n : Int) (g1 : Nat) (n0 : 1 ≤ n) (n8 : n ≤ 8) (w : World) (b1 : w.heap[g1]? = some (.cells #[.int .i64 n] 2 (0, 0))) (h1 : impl_within.f x0 0 (n - 1) = some false) :
    Calls Try.prog 84 #[.agg #[.int .i64 x0, .int .i64 x1, .int .i64 x2], .pointer (some ⟨g1, 0, none⟩)] w fun e w' => e = .returned (.bool true) ∧ Below w.heap.size w w' := by
  have Hb1 := Aside0.mk b1
  have Hh1 := Aside0.mk h1
  clear b1 h1
  have HB := Aside0.mk (Below.refl w.heap.size w)
  have BK1 := Hb1
  have e1 : IntKind.i64.wrap (n - 1) = n - 1 := IntWalk.i64_in _ ⟨by omega, by omega⟩
  go_enter Try.func84, Try.ntmps84
  go_wp2_with (first
    | ((with_reducible refine gate_dst (N := 2) rfl ?_); refine box_event ?hg (N := 2) ?hd (cs := #[.int .i64 x0, .int .i64 x1, .int .i64 x2]) (t := 55) ?hr ?_; (case hd => rfl); (case hg => rfl); (case hr => first | (go_simp; done) | (go_simp; rfl)); intro g2 hg wn hbox hb; have GE2 := Aside0.mk (by rw [hg]; exact below_size HB.out : w.heap.size ≤ g2); have hbx := hb; clear hg; have BK20 := Aside0.mk hbox; clear hbox; have n0_ := Aside0.mk (below_step HB.out hb); clear HB  hb; have HB := n0_; clear n0_ ; have BK2 := BK20; clear BK20; have c2_0 : wn.cell? ⟨g2, 0, none⟩ = some (.int .i64 x0) := (blk_cell BK2.out 0).trans rfl; have c2_1 : wn.cell? ⟨g2, 1, none⟩ = some (.int .i64 x1) := (blk_cell BK2.out 1).trans rfl; have c2_2 : wn.cell? ⟨g2, 2, none⟩ = some (.int .i64 x2) := (blk_cell BK2.out 2).trans rfl; have n1_ := Aside0.mk (blk_below BK1.out hbx); clear hbx BK1; have BK1 := n1_; clear n1_; have c1_0 : wn.cell? ⟨g1, 0, none⟩ = some (.int .i64 n) := (blk_cell BK1.out 0).trans rfl)
    | (go_at_call 47; (with_reducible refine (impl_within.calls x0 0 (n - 1) false _ Hh1.out).mono ?_); rintro e wn ⟨rfl, hb0⟩; have hb := to_below_d hb0; have n1_ := Aside0.mk (blk_below BK1.out (hb0.below)); clear hb0; have n0_ := Aside0.mk (below_step HB.out hb); have m2_ := Aside0.mk (blk_below BK2.out hb); clear HB BK2 hb; have HB := n0_; have BK2 := m2_; clear n0_ m2_; have c2_0 : wn.cell? ⟨g2, 0, none⟩ = some (.int .i64 x0) := (blk_cell BK2.out 0).trans rfl; have c2_1 : wn.cell? ⟨g2, 1, none⟩ = some (.int .i64 x1) := (blk_cell BK2.out 1).trans rfl; have c2_2 : wn.cell? ⟨g2, 2, none⟩ = some (.int .i64 x2) := (blk_cell BK2.out 2).trans rfl; clear BK1; have BK1 := n1_; clear n1_; have c1_0 : wn.cell? ⟨g1, 0, none⟩ = some (.int .i64 n) := (blk_cell BK1.out 0).trans rfl))
  go_ret
  exact ⟨rfl, HB.out⟩
set_option maxHeartbeats 4000000 in
set_option maxRecDepth 100000 in
theorem WireClo_2 (x0 x1 x2 n : Int) (g1 : Nat) (n0 : 1 ≤ n) (n8 : n ≤ 8) (w : World) (b1 : w.heap[g1]? = some (.cells #[.int .i64 n] 2 (0, 0))) (h1 : impl_within.f x0 0 (n - 1) = some true) (h2 : impl_within.f x1 0 (n - 1) = some false) :
    Calls Try.prog 84 #[.agg #[.int .i64 x0, .int .i64 x1, .int .i64 x2], .pointer (some ⟨g1, 0, none⟩)] w fun e w' => e = .returned (.bool true) ∧ Below w.heap.size w w' := by
  have Hb1 := Aside0.mk b1
  have Hh1 := Aside0.mk h1
  have Hh2 := Aside0.mk h2
  clear b1 h1 h2
  have HB := Aside0.mk (Below.refl w.heap.size w)
  have BK1 := Hb1
  have e1 : IntKind.i64.wrap (n - 1) = n - 1 := IntWalk.i64_in _ ⟨by omega, by omega⟩
  go_enter Try.func84, Try.ntmps84
  go_wp2_with (first
    | ((with_reducible refine gate_dst (N := 2) rfl ?_); refine box_event ?hg (N := 2) ?hd (cs := #[.int .i64 x0, .int .i64 x1, .int .i64 x2]) (t := 55) ?hr ?_; (case hd => rfl); (case hg => rfl); (case hr => first | (go_simp; done) | (go_simp; rfl)); intro g2 hg wn hbox hb; have GE2 := Aside0.mk (by rw [hg]; exact below_size HB.out : w.heap.size ≤ g2); have hbx := hb; clear hg; have BK20 := Aside0.mk hbox; clear hbox; have n0_ := Aside0.mk (below_step HB.out hb); clear HB  hb; have HB := n0_; clear n0_ ; have BK2 := BK20; clear BK20; have c2_0 : wn.cell? ⟨g2, 0, none⟩ = some (.int .i64 x0) := (blk_cell BK2.out 0).trans rfl; have c2_1 : wn.cell? ⟨g2, 1, none⟩ = some (.int .i64 x1) := (blk_cell BK2.out 1).trans rfl; have c2_2 : wn.cell? ⟨g2, 2, none⟩ = some (.int .i64 x2) := (blk_cell BK2.out 2).trans rfl; have n1_ := Aside0.mk (blk_below BK1.out hbx); clear hbx BK1; have BK1 := n1_; clear n1_; have c1_0 : wn.cell? ⟨g1, 0, none⟩ = some (.int .i64 n) := (blk_cell BK1.out 0).trans rfl)
    | (go_at_call 47; (with_reducible refine (impl_within.calls x0 0 (n - 1) true _ Hh1.out).mono ?_); rintro e wn ⟨rfl, hb0⟩; have hb := to_below_d hb0; have n1_ := Aside0.mk (blk_below BK1.out (hb0.below)); clear hb0; have n0_ := Aside0.mk (below_step HB.out hb); have m2_ := Aside0.mk (blk_below BK2.out hb); clear HB BK2 hb; have HB := n0_; have BK2 := m2_; clear n0_ m2_; have c2_0 : wn.cell? ⟨g2, 0, none⟩ = some (.int .i64 x0) := (blk_cell BK2.out 0).trans rfl; have c2_1 : wn.cell? ⟨g2, 1, none⟩ = some (.int .i64 x1) := (blk_cell BK2.out 1).trans rfl; have c2_2 : wn.cell? ⟨g2, 2, none⟩ = some (.int .i64 x2) := (blk_cell BK2.out 2).trans rfl; clear BK1; have BK1 := n1_; clear n1_; have c1_0 : wn.cell? ⟨g1, 0, none⟩ = some (.int .i64 n) := (blk_cell BK1.out 0).trans rfl)
    | (go_at_call 47; (with_reducible refine (impl_within.calls x1 0 (n - 1) false _ Hh2.out).mono ?_); rintro e wn ⟨rfl, hb0⟩; have hb := to_below_d hb0; have n1_ := Aside0.mk (blk_below BK1.out (hb0.below)); clear hb0; have n0_ := Aside0.mk (below_step HB.out hb); have m2_ := Aside0.mk (blk_below BK2.out hb); clear HB BK2 hb; have HB := n0_; have BK2 := m2_; clear n0_ m2_; have c2_0 : wn.cell? ⟨g2, 0, none⟩ = some (.int .i64 x0) := (blk_cell BK2.out 0).trans rfl; have c2_1 : wn.cell? ⟨g2, 1, none⟩ = some (.int .i64 x1) := (blk_cell BK2.out 1).trans rfl; have c2_2 : wn.cell? ⟨g2, 2, none⟩ = some (.int .i64 x2) := (blk_cell BK2.out 2).trans rfl; clear BK1; have BK1 := n1_; clear n1_; have c1_0 : wn.cell? ⟨g1, 0, none⟩ = some (.int .i64 n) := (blk_cell BK1.out 0).trans rfl))
  go_ret
  exact ⟨rfl, HB.out⟩
set_option maxHeartbeats 4000000 in
set_option maxRecDepth 100000 in
theorem WireClo_3 (x0 x1 x2 n : Int) (g1 : Nat) (n0 : 1 ≤ n) (n8 : n ≤ 8) (b : Bool) (w : World) (b1 : w.heap[g1]? = some (.cells #[.int .i64 n] 2 (0, 0))) (h1 : impl_within.f x0 0 (n - 1) = some true) (h2 : impl_within.f x1 0 (n - 1) = some true) (h3 : impl_within.f x2 0 20 = some b) :
    Calls Try.prog 84 #[.agg #[.int .i64 x0, .int .i64 x1, .int .i64 x2], .pointer (some ⟨g1, 0, none⟩)] w fun e w' => e = .returned (.bool (!b)) ∧ Below w.heap.size w w' := by
  have Hb1 := Aside0.mk b1
  have Hh1 := Aside0.mk h1
  have Hh2 := Aside0.mk h2
  have Hh3 := Aside0.mk h3
  clear b1 h1 h2 h3
  have HB := Aside0.mk (Below.refl w.heap.size w)
  have BK1 := Hb1
  have e1 : IntKind.i64.wrap (n - 1) = n - 1 := IntWalk.i64_in _ ⟨by omega, by omega⟩
  go_enter Try.func84, Try.ntmps84
  go_wp2_with (first
    | ((with_reducible refine gate_dst (N := 2) rfl ?_); refine box_event ?hg (N := 2) ?hd (cs := #[.int .i64 x0, .int .i64 x1, .int .i64 x2]) (t := 55) ?hr ?_; (case hd => rfl); (case hg => rfl); (case hr => first | (go_simp; done) | (go_simp; rfl)); intro g2 hg wn hbox hb; have GE2 := Aside0.mk (by rw [hg]; exact below_size HB.out : w.heap.size ≤ g2); have hbx := hb; clear hg; have BK20 := Aside0.mk hbox; clear hbox; have n0_ := Aside0.mk (below_step HB.out hb); clear HB  hb; have HB := n0_; clear n0_ ; have BK2 := BK20; clear BK20; have c2_0 : wn.cell? ⟨g2, 0, none⟩ = some (.int .i64 x0) := (blk_cell BK2.out 0).trans rfl; have c2_1 : wn.cell? ⟨g2, 1, none⟩ = some (.int .i64 x1) := (blk_cell BK2.out 1).trans rfl; have c2_2 : wn.cell? ⟨g2, 2, none⟩ = some (.int .i64 x2) := (blk_cell BK2.out 2).trans rfl; have n1_ := Aside0.mk (blk_below BK1.out hbx); clear hbx BK1; have BK1 := n1_; clear n1_; have c1_0 : wn.cell? ⟨g1, 0, none⟩ = some (.int .i64 n) := (blk_cell BK1.out 0).trans rfl)
    | (go_at_call 47; (with_reducible refine (impl_within.calls x0 0 (n - 1) true _ Hh1.out).mono ?_); rintro e wn ⟨rfl, hb0⟩; have hb := to_below_d hb0; have n1_ := Aside0.mk (blk_below BK1.out (hb0.below)); clear hb0; have n0_ := Aside0.mk (below_step HB.out hb); have m2_ := Aside0.mk (blk_below BK2.out hb); clear HB BK2 hb; have HB := n0_; have BK2 := m2_; clear n0_ m2_; have c2_0 : wn.cell? ⟨g2, 0, none⟩ = some (.int .i64 x0) := (blk_cell BK2.out 0).trans rfl; have c2_1 : wn.cell? ⟨g2, 1, none⟩ = some (.int .i64 x1) := (blk_cell BK2.out 1).trans rfl; have c2_2 : wn.cell? ⟨g2, 2, none⟩ = some (.int .i64 x2) := (blk_cell BK2.out 2).trans rfl; clear BK1; have BK1 := n1_; clear n1_; have c1_0 : wn.cell? ⟨g1, 0, none⟩ = some (.int .i64 n) := (blk_cell BK1.out 0).trans rfl)
    | (go_at_call 47; (with_reducible refine (impl_within.calls x1 0 (n - 1) true _ Hh2.out).mono ?_); rintro e wn ⟨rfl, hb0⟩; have hb := to_below_d hb0; have n1_ := Aside0.mk (blk_below BK1.out (hb0.below)); clear hb0; have n0_ := Aside0.mk (below_step HB.out hb); have m2_ := Aside0.mk (blk_below BK2.out hb); clear HB BK2 hb; have HB := n0_; have BK2 := m2_; clear n0_ m2_; have c2_0 : wn.cell? ⟨g2, 0, none⟩ = some (.int .i64 x0) := (blk_cell BK2.out 0).trans rfl; have c2_1 : wn.cell? ⟨g2, 1, none⟩ = some (.int .i64 x1) := (blk_cell BK2.out 1).trans rfl; have c2_2 : wn.cell? ⟨g2, 2, none⟩ = some (.int .i64 x2) := (blk_cell BK2.out 2).trans rfl; clear BK1; have BK1 := n1_; clear n1_; have c1_0 : wn.cell? ⟨g1, 0, none⟩ = some (.int .i64 n) := (blk_cell BK1.out 0).trans rfl)
    | (go_at_call 47; (with_reducible refine (impl_within.calls x2 0 20 b _ Hh3.out).mono ?_); rintro e wn ⟨rfl, hb0⟩; have hb := to_below_d hb0; have n1_ := Aside0.mk (blk_below BK1.out (hb0.below)); clear hb0; have n0_ := Aside0.mk (below_step HB.out hb); have m2_ := Aside0.mk (blk_below BK2.out hb); clear HB BK2 hb; have HB := n0_; have BK2 := m2_; clear n0_ m2_; have c2_0 : wn.cell? ⟨g2, 0, none⟩ = some (.int .i64 x0) := (blk_cell BK2.out 0).trans rfl; have c2_1 : wn.cell? ⟨g2, 1, none⟩ = some (.int .i64 x1) := (blk_cell BK2.out 1).trans rfl; have c2_2 : wn.cell? ⟨g2, 2, none⟩ = some (.int .i64 x2) := (blk_cell BK2.out 2).trans rfl; clear BK1; have BK1 := n1_; clear n1_; have c1_0 : wn.cell? ⟨g1, 0, none⟩ = some (.int .i64 n) := (blk_cell BK1.out 0).trans rfl))
  go_ret
  exact ⟨rfl, HB.out⟩
theorem WireCl (n : Int) (g1 : Nat) (w : World) (n0 : 1 ≤ n) (n8 : n ≤ 8) (h1 : w.heap[g1]? = some (.cells #[.int .i64 n] 2 (0, 0))) :
    ∀ x0 x1 x2 r W, (wireC n).f x0 x1 x2 = some r → Below w.heap.size w W → Calls Try.prog 84 (#[.agg #[.int .i64 x0, .int .i64 x1, .int .i64 x2]] ++ #[.pointer (some ⟨g1, 0, none⟩)]) W fun e w' => e = .returned (.bool r) ∧ Below W.heap.size W w' := by
  intro x0 x1 x2 r W hx hW
  obtain rfl := Option.some.inj hx
  have hg := blk_below h1 hW
  unfold badWire
  cases q1 : (decide (0 ≤ x0) && decide (x0 ≤ n - 1)) with
  | false => exact WireClo_1 x0 x1 x2 n g1 n0 n8 W hg (by rw [within_w, q1])
  | true =>
    cases q2 : (decide (0 ≤ x1) && decide (x1 ≤ n - 1)) with
    | false => exact WireClo_2 x0 x1 x2 n g1 n0 n8 W hg (by rw [within_w, q1]) (by rw [within_w, q2])
    | true => exact WireClo_3 x0 x1 x2 n g1 n0 n8 _ W hg (by rw [within_w, q1]) (by rw [within_w, q2]) (within_w _ _ _)
set_option maxHeartbeats 4000000 in
set_option maxRecDepth 100000 in
theorem isFlow_1 (k : Nat) (A0 : Option Addr) (c0 : Nat) (l0 : List Int) (A1 : Option Addr) (c1 : Nat) (l1 : List S55) (w : World) (h1 : impl_within.f (l0.length : Int) 1 8 = some false) :
    Calls Try.prog 53 #[.agg #[.slice A0 l0.length c0, .slice A1 l1.length c1]] w fun e w' => e = .returned (.bool false) ∧ Below w.heap.size w w' := by
  have Hh1 := Aside0.mk h1
  clear h1
  have HB := Aside0.mk (Below.refl w.heap.size w)
  go_enter Try.func53, Try.ntmps53
  go_wp2_with (first
    | ((with_reducible refine gate_dst (N := 1) rfl ?_); refine box_event ?hg (N := 1) ?hd (cs := #[.slice A0 l0.length c0, .slice A1 l1.length c1]) (t := 36) ?hr ?_; (case hd => rfl); (case hg => rfl); (case hr => first | (go_simp; done) | (go_simp; rfl)); intro g1 hg wn hbox hb; have GE1 := Aside0.mk (by rw [hg]; exact below_size HB.out : w.heap.size ≤ g1); clear hg; have BK10 := Aside0.mk hbox; clear hbox; have n0_ := Aside0.mk (below_step HB.out hb); clear HB  hb; have HB := n0_; clear n0_ ; have BK1 := BK10; clear BK10; have c1_0 : wn.cell? ⟨g1, 0, none⟩ = some (.slice A0 l0.length c0) := (blk_cell BK1.out 0).trans rfl; have c1_1 : wn.cell? ⟨g1, 1, none⟩ = some (.slice A1 l1.length c1) := (blk_cell BK1.out 1).trans rfl)
    | ((with_reducible refine gate_dst (N := 3) rfl ?_); refine box_event ?hg (N := 3) ?hd (cs := #[.int .i64 0]) (t := 2) ?hr ?_; (case hd => rfl); (case hg => rfl); (case hr => first | (go_simp; done) | (go_simp; rfl)); intro g3 hg wn hbox hb; have GE3 := Aside0.mk (by rw [hg]; exact below_size HB.out : w.heap.size ≤ g3); have NE1_3 := Aside0.mk (show g1 ≠ g3 by have := blk_lt BK1.out; omega); clear hg; have BK30 := Aside0.mk hbox; clear hbox; have n0_ := Aside0.mk (below_step HB.out hb); have m1_ := Aside0.mk (blk_below BK1.out hb); clear HB BK1 hb; have HB := n0_; have BK1 := m1_; clear n0_ m1_; have c1_0 : wn.cell? ⟨g1, 0, none⟩ = some (.slice A0 l0.length c0) := (blk_cell BK1.out 0).trans rfl; have c1_1 : wn.cell? ⟨g1, 1, none⟩ = some (.slice A1 l1.length c1) := (blk_cell BK1.out 1).trans rfl; have BK3 := BK30; clear BK30; have c3_0 : wn.cell? ⟨g3, 0, none⟩ = some (.int .i64 0) := (blk_cell BK3.out 0).trans rfl; have z3_0 := blk_frozen BK3.out 0; have c1s0 : ∀ v, (wn.setCell ⟨g3, 0, none⟩ v).cell? ⟨g1, 0, none⟩ = some (.slice A0 l0.length c0) := fun v => (blk_cell (blk_far BK1.out (p := ⟨g3, 0, none⟩) NE1_3.out v) 0).trans rfl; have c1s1 : ∀ v, (wn.setCell ⟨g3, 0, none⟩ v).cell? ⟨g1, 1, none⟩ = some (.slice A1 l1.length c1) := fun v => (blk_cell (blk_far BK1.out (p := ⟨g3, 0, none⟩) NE1_3.out v) 1).trans rfl)
    | (go_at_call 47; have m1_ := Aside0.mk (blk_far BK1.out (p := ⟨g3, 0, none⟩) NE1_3.out (.int .i64 (l0.length : Int))); have m3_ := Aside0.mk (blk_put BK3.out 0 (.int .i64 (l0.length : Int)) (cs' := #[.int .i64 (l0.length : Int)]) rfl); have n0_ := Aside0.mk (below_set (j := 0) (v := .int .i64 (l0.length : Int)) HB.out GE3.out); clear HB BK1 BK3; have HB := n0_; have BK1 := m1_; have BK3 := m3_; clear n0_ m1_ m3_; (with_reducible refine (impl_within.calls (l0.length : Int) 1 8 false _ Hh1.out).mono ?_); rintro e wn ⟨rfl, hb0⟩; (first | have hb := to_below_d hb0 | have hb := to_below_b hb0); clear hb0; have n0_ := Aside0.mk (below_step HB.out hb); have m1_ := Aside0.mk (blk_below BK1.out hb); have m3_ := Aside0.mk (blk_below BK3.out hb); clear HB BK1 BK3 hb; have HB := n0_; have BK1 := m1_; have BK3 := m3_; clear n0_ m1_ m3_; have c1_0 : wn.cell? ⟨g1, 0, none⟩ = some (.slice A0 l0.length c0) := (blk_cell BK1.out 0).trans rfl; have c1_1 : wn.cell? ⟨g1, 1, none⟩ = some (.slice A1 l1.length c1) := (blk_cell BK1.out 1).trans rfl; have c3_0 : wn.cell? ⟨g3, 0, none⟩ = some (.int .i64 (l0.length : Int)) := (blk_cell BK3.out 0).trans rfl))
  go_ret
  exact ⟨rfl, HB.out⟩
set_option maxHeartbeats 4000000 in
set_option maxRecDepth 100000 in
theorem isFlow_2 (k : Nat) (A0 : Option Addr) (c0 : Nat) (l0 : List Int) (A1 : Option Addr) (c1 : Nat) (l1 : List S55)(f1 : decide (16 < l1.length) = true) (f2 : decide ((16 : Int) < (l1.length : Int)) = true) (w : World) (h1 : impl_within.f (l0.length : Int) 1 8 = some true) :
    Calls Try.prog 53 #[.agg #[.slice A0 l0.length c0, .slice A1 l1.length c1]] w fun e w' => e = .returned (.bool false) ∧ Below w.heap.size w w' := by
  have Hh1 := Aside0.mk h1
  clear h1
  have HB := Aside0.mk (Below.refl w.heap.size w)
  go_enter Try.func53, Try.ntmps53
  go_wp2_with (first
    | ((with_reducible refine gate_dst (N := 1) rfl ?_); refine box_event ?hg (N := 1) ?hd (cs := #[.slice A0 l0.length c0, .slice A1 l1.length c1]) (t := 36) ?hr ?_; (case hd => rfl); (case hg => rfl); (case hr => first | (go_simp; done) | (go_simp; rfl)); intro g1 hg wn hbox hb; have GE1 := Aside0.mk (by rw [hg]; exact below_size HB.out : w.heap.size ≤ g1); clear hg; have BK10 := Aside0.mk hbox; clear hbox; have n0_ := Aside0.mk (below_step HB.out hb); clear HB  hb; have HB := n0_; clear n0_ ; have BK1 := BK10; clear BK10; have c1_0 : wn.cell? ⟨g1, 0, none⟩ = some (.slice A0 l0.length c0) := (blk_cell BK1.out 0).trans rfl; have c1_1 : wn.cell? ⟨g1, 1, none⟩ = some (.slice A1 l1.length c1) := (blk_cell BK1.out 1).trans rfl)
    | ((with_reducible refine gate_dst (N := 3) rfl ?_); refine box_event ?hg (N := 3) ?hd (cs := #[.int .i64 0]) (t := 2) ?hr ?_; (case hd => rfl); (case hg => rfl); (case hr => first | (go_simp; done) | (go_simp; rfl)); intro g3 hg wn hbox hb; have GE3 := Aside0.mk (by rw [hg]; exact below_size HB.out : w.heap.size ≤ g3); have NE1_3 := Aside0.mk (show g1 ≠ g3 by have := blk_lt BK1.out; omega); clear hg; have BK30 := Aside0.mk hbox; clear hbox; have n0_ := Aside0.mk (below_step HB.out hb); have m1_ := Aside0.mk (blk_below BK1.out hb); clear HB BK1 hb; have HB := n0_; have BK1 := m1_; clear n0_ m1_; have c1_0 : wn.cell? ⟨g1, 0, none⟩ = some (.slice A0 l0.length c0) := (blk_cell BK1.out 0).trans rfl; have c1_1 : wn.cell? ⟨g1, 1, none⟩ = some (.slice A1 l1.length c1) := (blk_cell BK1.out 1).trans rfl; have BK3 := BK30; clear BK30; have c3_0 : wn.cell? ⟨g3, 0, none⟩ = some (.int .i64 0) := (blk_cell BK3.out 0).trans rfl; have z3_0 := blk_frozen BK3.out 0; have c1s0 : ∀ v, (wn.setCell ⟨g3, 0, none⟩ v).cell? ⟨g1, 0, none⟩ = some (.slice A0 l0.length c0) := fun v => (blk_cell (blk_far BK1.out (p := ⟨g3, 0, none⟩) NE1_3.out v) 0).trans rfl; have c1s1 : ∀ v, (wn.setCell ⟨g3, 0, none⟩ v).cell? ⟨g1, 1, none⟩ = some (.slice A1 l1.length c1) := fun v => (blk_cell (blk_far BK1.out (p := ⟨g3, 0, none⟩) NE1_3.out v) 1).trans rfl)
    | (go_at_call 47; have m1_ := Aside0.mk (blk_far BK1.out (p := ⟨g3, 0, none⟩) NE1_3.out (.int .i64 (l0.length : Int))); have m3_ := Aside0.mk (blk_put BK3.out 0 (.int .i64 (l0.length : Int)) (cs' := #[.int .i64 (l0.length : Int)]) rfl); have n0_ := Aside0.mk (below_set (j := 0) (v := .int .i64 (l0.length : Int)) HB.out GE3.out); clear HB BK1 BK3; have HB := n0_; have BK1 := m1_; have BK3 := m3_; clear n0_ m1_ m3_; (with_reducible refine (impl_within.calls (l0.length : Int) 1 8 true _ Hh1.out).mono ?_); rintro e wn ⟨rfl, hb0⟩; (first | have hb := to_below_d hb0 | have hb := to_below_b hb0); clear hb0; have n0_ := Aside0.mk (below_step HB.out hb); have m1_ := Aside0.mk (blk_below BK1.out hb); have m3_ := Aside0.mk (blk_below BK3.out hb); clear HB BK1 BK3 hb; have HB := n0_; have BK1 := m1_; have BK3 := m3_; clear n0_ m1_ m3_; have c1_0 : wn.cell? ⟨g1, 0, none⟩ = some (.slice A0 l0.length c0) := (blk_cell BK1.out 0).trans rfl; have c1_1 : wn.cell? ⟨g1, 1, none⟩ = some (.slice A1 l1.length c1) := (blk_cell BK1.out 1).trans rfl; have c3_0 : wn.cell? ⟨g3, 0, none⟩ = some (.int .i64 (l0.length : Int)) := (blk_cell BK3.out 0).trans rfl))
  go_ret
  exact ⟨rfl, HB.out⟩
set_option maxHeartbeats 4000000 in
set_option maxRecDepth 100000 in
theorem isFlow_3 (k : Nat) (A0 : Option Addr) (c0 : Nat) (l0 : List Int) (A1 : Option Addr) (c1 : Nat) (l1 : List S55) (i : Int) (f1 : decide (16 < l1.length) = false) (f2 : decide ((16 : Int) < (l1.length : Int)) = false) (w : World) (hr0 : Kd.C (Kd.int .i64) w A0 l0.length l0) (hc0 : l0.length ≤ c0) (hr1 : Kd.C k55 w A1 l1.length l1) (hc1 : l1.length ≤ c1) (h1 : impl_within.f (l0.length : Int) 1 8 = some true) (hi : @slices_IndexFunc_int64_int64.f isDelC k l0 0 = some i) (hp : decide (i ≥ 0) = true) :
    Calls Try.prog 53 #[.agg #[.slice A0 l0.length c0, .slice A1 l1.length c1]] w fun e w' => e = .returned (.bool false) ∧ Below w.heap.size w w' := by
  have Hhr0 := Aside0.mk hr0
  have Hhc0 := Aside0.mk hc0
  have Hhr1 := Aside0.mk hr1
  have Hhc1 := Aside0.mk hc1
  have Hh1 := Aside0.mk h1
  have Hhi := Aside0.mk hi
  have Hhp := Aside0.mk hp
  clear hr0 hc0 hr1 hc1 h1 hi hp
  have HB := Aside0.mk (Below.refl w.heap.size w)
  have F3 := Hhp
  go_enter Try.func53, Try.ntmps53
  go_wp2_with (first
    | ((with_reducible refine gate_dst (N := 1) rfl ?_); refine box_event ?hg (N := 1) ?hd (cs := #[.slice A0 l0.length c0, .slice A1 l1.length c1]) (t := 36) ?hr ?_; (case hd => rfl); (case hg => rfl); (case hr => first | (go_simp; done) | (go_simp; rfl)); intro g1 hg wn hbox hb; have GE1 := Aside0.mk (by rw [hg]; exact below_size HB.out : w.heap.size ≤ g1); clear hg; have BK10 := Aside0.mk hbox; clear hbox; have n0_ := Aside0.mk (below_step HB.out hb); clear HB  hb; have HB := n0_; clear n0_ ; have BK1 := BK10; clear BK10; have c1_0 : wn.cell? ⟨g1, 0, none⟩ = some (.slice A0 l0.length c0) := (blk_cell BK1.out 0).trans rfl; have c1_1 : wn.cell? ⟨g1, 1, none⟩ = some (.slice A1 l1.length c1) := (blk_cell BK1.out 1).trans rfl)
    | ((with_reducible refine gate_dst (N := 3) rfl ?_); refine box_event ?hg (N := 3) ?hd (cs := #[.int .i64 0]) (t := 2) ?hr ?_; (case hd => rfl); (case hg => rfl); (case hr => first | (go_simp; done) | (go_simp; rfl)); intro g3 hg wn hbox hb; have GE3 := Aside0.mk (by rw [hg]; exact below_size HB.out : w.heap.size ≤ g3); have NE1_3 := Aside0.mk (show g1 ≠ g3 by have := blk_lt BK1.out; omega); clear hg; have BK30 := Aside0.mk hbox; clear hbox; have n0_ := Aside0.mk (below_step HB.out hb); have m1_ := Aside0.mk (blk_below BK1.out hb); clear HB BK1 hb; have HB := n0_; have BK1 := m1_; clear n0_ m1_; have c1_0 : wn.cell? ⟨g1, 0, none⟩ = some (.slice A0 l0.length c0) := (blk_cell BK1.out 0).trans rfl; have c1_1 : wn.cell? ⟨g1, 1, none⟩ = some (.slice A1 l1.length c1) := (blk_cell BK1.out 1).trans rfl; have BK3 := BK30; clear BK30; have c3_0 : wn.cell? ⟨g3, 0, none⟩ = some (.int .i64 0) := (blk_cell BK3.out 0).trans rfl; have z3_0 := blk_frozen BK3.out 0; have c1s0 : ∀ v, (wn.setCell ⟨g3, 0, none⟩ v).cell? ⟨g1, 0, none⟩ = some (.slice A0 l0.length c0) := fun v => (blk_cell (blk_far BK1.out (p := ⟨g3, 0, none⟩) NE1_3.out v) 0).trans rfl; have c1s1 : ∀ v, (wn.setCell ⟨g3, 0, none⟩ v).cell? ⟨g1, 1, none⟩ = some (.slice A1 l1.length c1) := fun v => (blk_cell (blk_far BK1.out (p := ⟨g3, 0, none⟩) NE1_3.out v) 1).trans rfl)
    | (go_at_call 47; have m1_ := Aside0.mk (blk_far BK1.out (p := ⟨g3, 0, none⟩) NE1_3.out (.int .i64 (l0.length : Int))); have m3_ := Aside0.mk (blk_put BK3.out 0 (.int .i64 (l0.length : Int)) (cs' := #[.int .i64 (l0.length : Int)]) rfl); have n0_ := Aside0.mk (below_set (j := 0) (v := .int .i64 (l0.length : Int)) HB.out GE3.out); clear HB BK1 BK3; have HB := n0_; have BK1 := m1_; have BK3 := m3_; clear n0_ m1_ m3_; (with_reducible refine (impl_within.calls (l0.length : Int) 1 8 true _ Hh1.out).mono ?_); rintro e wn ⟨rfl, hb0⟩; (first | have hb := to_below_d hb0 | have hb := to_below_b hb0); clear hb0; have n0_ := Aside0.mk (below_step HB.out hb); have m1_ := Aside0.mk (blk_below BK1.out hb); have m3_ := Aside0.mk (blk_below BK3.out hb); clear HB BK1 BK3 hb; have HB := n0_; have BK1 := m1_; have BK3 := m3_; clear n0_ m1_ m3_; have c1_0 : wn.cell? ⟨g1, 0, none⟩ = some (.slice A0 l0.length c0) := (blk_cell BK1.out 0).trans rfl; have c1_1 : wn.cell? ⟨g1, 1, none⟩ = some (.slice A1 l1.length c1) := (blk_cell BK1.out 1).trans rfl; have c3_0 : wn.cell? ⟨g3, 0, none⟩ = some (.int .i64 (l0.length : Int)) := (blk_cell BK3.out 0).trans rfl)
    | (go_at_call 76; refine (@has76 isDelC k A0 c0 l0 i 81 Try.f81 #[] ⟨Try.func81, rfl, by kernel_rfl⟩ _ (IsDelCl _) (Kd.C_below Hhr0.out HB.out) Hhc0.out Hhi.out).mono ?_; rintro e wn ⟨he, hb0⟩; rw [F3.out] at he; subst he; have hb := to_below_d hb0; clear hb0; have n0_ := Aside0.mk (below_step HB.out hb); have m1_ := Aside0.mk (blk_below BK1.out hb); have m3_ := Aside0.mk (blk_below BK3.out hb); clear HB BK1 BK3 hb; have HB := n0_; have BK1 := m1_; have BK3 := m3_; clear n0_ m1_ m3_; have c1_0 : wn.cell? ⟨g1, 0, none⟩ = some (.slice A0 l0.length c0) := (blk_cell BK1.out 0).trans rfl; have c1_1 : wn.cell? ⟨g1, 1, none⟩ = some (.slice A1 l1.length c1) := (blk_cell BK1.out 1).trans rfl; have c3_0 : wn.cell? ⟨g3, 0, none⟩ = some (.int .i64 (l0.length : Int)) := (blk_cell BK3.out 0).trans rfl))
  go_ret
  exact ⟨rfl, HB.out⟩
set_option maxHeartbeats 4000000 in
set_option maxRecDepth 100000 in
theorem isFlow_4 (k : Nat) (A0 : Option Addr) (c0 : Nat) (l0 : List Int) (A1 : Option Addr) (c1 : Nat) (l1 : List S55) (i j : Int) (f1 : decide (16 < l1.length) = false) (f2 : decide ((16 : Int) < (l1.length : Int)) = false) (w : World) (hr0 : Kd.C (Kd.int .i64) w A0 l0.length l0) (hc0 : l0.length ≤ c0) (hr1 : Kd.C k55 w A1 l1.length l1) (hc1 : l1.length ≤ c1) (h1 : impl_within.f (l0.length : Int) 1 8 = some true) (hi : @slices_IndexFunc_int64_int64.f isDelC k l0 0 = some i) (hp : decide (i ≥ 0) = false) (hj : @impl_Wire_102.f (wireC l0.length) k l1 0 = some j) (n0 : 1 ≤ (l0.length : Int)) (n8 : (l0.length : Int) ≤ 8) :
    Calls Try.prog 53 #[.agg #[.slice A0 l0.length c0, .slice A1 l1.length c1]] w fun e w' => e = .returned (.bool (!decide (j ≥ 0))) ∧ Below w.heap.size w w' := by
  have Hhr0 := Aside0.mk hr0
  have Hhc0 := Aside0.mk hc0
  have Hhr1 := Aside0.mk hr1
  have Hhc1 := Aside0.mk hc1
  have Hh1 := Aside0.mk h1
  have Hhi := Aside0.mk hi
  have Hhp := Aside0.mk hp
  have Hhj := Aside0.mk hj
  have Hn0 := Aside0.mk n0
  have Hn8 := Aside0.mk n8
  clear hr0 hc0 hr1 hc1 h1 hi hp hj n0 n8
  have HB := Aside0.mk (Below.refl w.heap.size w)
  have F3 := Hhp
  go_enter Try.func53, Try.ntmps53
  go_wp2_with (first
    | ((with_reducible refine gate_dst (N := 1) rfl ?_); refine box_event ?hg (N := 1) ?hd (cs := #[.slice A0 l0.length c0, .slice A1 l1.length c1]) (t := 36) ?hr ?_; (case hd => rfl); (case hg => rfl); (case hr => first | (go_simp; done) | (go_simp; rfl)); intro g1 hg wn hbox hb; have GE1 := Aside0.mk (by rw [hg]; exact below_size HB.out : w.heap.size ≤ g1); clear hg; have BK10 := Aside0.mk hbox; clear hbox; have n0_ := Aside0.mk (below_step HB.out hb); clear HB  hb; have HB := n0_; clear n0_ ; have BK1 := BK10; clear BK10; have c1_0 : wn.cell? ⟨g1, 0, none⟩ = some (.slice A0 l0.length c0) := (blk_cell BK1.out 0).trans rfl; have c1_1 : wn.cell? ⟨g1, 1, none⟩ = some (.slice A1 l1.length c1) := (blk_cell BK1.out 1).trans rfl)
    | ((with_reducible refine gate_dst (N := 3) rfl ?_); refine box_event ?hg (N := 3) ?hd (cs := #[.int .i64 0]) (t := 2) ?hr ?_; (case hd => rfl); (case hg => rfl); (case hr => first | (go_simp; done) | (go_simp; rfl)); intro g3 hg wn hbox hb; have GE3 := Aside0.mk (by rw [hg]; exact below_size HB.out : w.heap.size ≤ g3); have NE1_3 := Aside0.mk (show g1 ≠ g3 by have := blk_lt BK1.out; omega); clear hg; have BK30 := Aside0.mk hbox; clear hbox; have n0_ := Aside0.mk (below_step HB.out hb); have m1_ := Aside0.mk (blk_below BK1.out hb); clear HB BK1 hb; have HB := n0_; have BK1 := m1_; clear n0_ m1_; have c1_0 : wn.cell? ⟨g1, 0, none⟩ = some (.slice A0 l0.length c0) := (blk_cell BK1.out 0).trans rfl; have c1_1 : wn.cell? ⟨g1, 1, none⟩ = some (.slice A1 l1.length c1) := (blk_cell BK1.out 1).trans rfl; have BK3 := BK30; clear BK30; have c3_0 : wn.cell? ⟨g3, 0, none⟩ = some (.int .i64 0) := (blk_cell BK3.out 0).trans rfl; have z3_0 := blk_frozen BK3.out 0; have c1s0 : ∀ v, (wn.setCell ⟨g3, 0, none⟩ v).cell? ⟨g1, 0, none⟩ = some (.slice A0 l0.length c0) := fun v => (blk_cell (blk_far BK1.out (p := ⟨g3, 0, none⟩) NE1_3.out v) 0).trans rfl; have c1s1 : ∀ v, (wn.setCell ⟨g3, 0, none⟩ v).cell? ⟨g1, 1, none⟩ = some (.slice A1 l1.length c1) := fun v => (blk_cell (blk_far BK1.out (p := ⟨g3, 0, none⟩) NE1_3.out v) 1).trans rfl)
    | (go_at_call 47; have m1_ := Aside0.mk (blk_far BK1.out (p := ⟨g3, 0, none⟩) NE1_3.out (.int .i64 (l0.length : Int))); have m3_ := Aside0.mk (blk_put BK3.out 0 (.int .i64 (l0.length : Int)) (cs' := #[.int .i64 (l0.length : Int)]) rfl); have n0_ := Aside0.mk (below_set (j := 0) (v := .int .i64 (l0.length : Int)) HB.out GE3.out); clear HB BK1 BK3; have HB := n0_; have BK1 := m1_; have BK3 := m3_; clear n0_ m1_ m3_; (with_reducible refine (impl_within.calls (l0.length : Int) 1 8 true _ Hh1.out).mono ?_); rintro e wn ⟨rfl, hb0⟩; (first | have hb := to_below_d hb0 | have hb := to_below_b hb0); clear hb0; have n0_ := Aside0.mk (below_step HB.out hb); have m1_ := Aside0.mk (blk_below BK1.out hb); have m3_ := Aside0.mk (blk_below BK3.out hb); clear HB BK1 BK3 hb; have HB := n0_; have BK1 := m1_; have BK3 := m3_; clear n0_ m1_ m3_; have c1_0 : wn.cell? ⟨g1, 0, none⟩ = some (.slice A0 l0.length c0) := (blk_cell BK1.out 0).trans rfl; have c1_1 : wn.cell? ⟨g1, 1, none⟩ = some (.slice A1 l1.length c1) := (blk_cell BK1.out 1).trans rfl; have c3_0 : wn.cell? ⟨g3, 0, none⟩ = some (.int .i64 (l0.length : Int)) := (blk_cell BK3.out 0).trans rfl)
    | (go_at_call 76; refine (@has76 isDelC k A0 c0 l0 i 81 Try.f81 #[] ⟨Try.func81, rfl, by kernel_rfl⟩ _ (IsDelCl _) (Kd.C_below Hhr0.out HB.out) Hhc0.out Hhi.out).mono ?_; rintro e wn ⟨he, hb0⟩; rw [F3.out] at he; subst he; have hb := to_below_d hb0; clear hb0; have n0_ := Aside0.mk (below_step HB.out hb); have m1_ := Aside0.mk (blk_below BK1.out hb); have m3_ := Aside0.mk (blk_below BK3.out hb); clear HB BK1 BK3 hb; have HB := n0_; have BK1 := m1_; have BK3 := m3_; clear n0_ m1_ m3_; have c1_0 : wn.cell? ⟨g1, 0, none⟩ = some (.slice A0 l0.length c0) := (blk_cell BK1.out 0).trans rfl; have c1_1 : wn.cell? ⟨g1, 1, none⟩ = some (.slice A1 l1.length c1) := (blk_cell BK1.out 1).trans rfl; have c3_0 : wn.cell? ⟨g3, 0, none⟩ = some (.int .i64 (l0.length : Int)) := (blk_cell BK3.out 0).trans rfl)
    | (go_at_call 83; refine (@has83 (wireC l0.length) k A1 c1 l1 j 84 Try.f84 #[.pointer (some ⟨g3, 0, none⟩)] ⟨Try.func84, rfl, by kernel_rfl⟩ _ (WireCl l0.length g3 _ Hn0.out Hn8.out BK3.out) (Kd.C_below Hhr1.out HB.out) Hhc1.out Hhj.out).mono ?_; rintro e wn ⟨rfl, hb⟩; have n0_ := Aside0.mk (below_step HB.out hb); have m1_ := Aside0.mk (blk_below BK1.out hb); have m3_ := Aside0.mk (blk_below BK3.out hb); clear HB BK1 BK3 hb; have HB := n0_; have BK1 := m1_; have BK3 := m3_; clear n0_ m1_ m3_; have c1_0 : wn.cell? ⟨g1, 0, none⟩ = some (.slice A0 l0.length c0) := (blk_cell BK1.out 0).trans rfl; have c1_1 : wn.cell? ⟨g1, 1, none⟩ = some (.slice A1 l1.length c1) := (blk_cell BK1.out 1).trans rfl; have c3_0 : wn.cell? ⟨g3, 0, none⟩ = some (.int .i64 (l0.length : Int)) := (blk_cell BK3.out 0).trans rfl))
  go_ret
  exact ⟨rfl, HB.out⟩
def impl_isFlow.f (k : Nat) (l0 : List Int) (l1 : List S55) : Option Bool :=
  if 1 ≤ (l0.length : Int) ∧ (l0.length : Int) ≤ 8 then (if 16 < l1.length then some false else (@slices_IndexFunc_int64_int64.f isDelC k l0 0).bind fun i => if i ≥ 0 then some false else (@impl_Wire_102.f (wireC l0.length) k l1 0).bind fun j => some (!decide (j ≥ 0))) else some false
theorem impl_isFlow.mono : ∀ a0 a1 k, LeO (impl_isFlow.f k a0 a1) (impl_isFlow.f (k + 1) a0 a1) := by
  intro l0 l1 k
  unfold impl_isFlow.f
  split
  · split
    · exact LeO.refl _
    · refine LeO.bind (@slices_IndexFunc_int64_int64.mono isDelC l0 0 k) (fun i => ?_)
      split
      · exact LeO.refl _
      · exact LeO.bind (@impl_Wire_102.mono (wireC l0.length) l1 0 k) (fun _ => LeO.refl _)
  · exact LeO.refl _
theorem impl_isFlow.calls (k : Nat) (A0_0 : Option Addr) (c0_0 : Nat) (l0_0 : List Int) (A0_1 : Option Addr) (c0_1 : Nat) (l0_1 : List (S55)) (r : Bool) (w : World) (hr0_0 : Kd.C (Kd.int .i64) w A0_0 l0_0.length l0_0) (hc0_0 : l0_0.length ≤ c0_0) (hr0_1 : Kd.C k55 w A0_1 l0_1.length l0_1) (hc0_1 : l0_1.length ≤ c0_1) (h : impl_isFlow.f k l0_0 l0_1 = some r) :
    Calls Try.prog 53 #[.agg #[.slice A0_0 l0_0.length c0_0, .slice A0_1 l0_1.length c0_1]] w fun e w' => e = .returned (.bool r) ∧ Below w.heap.size w w' := by
  unfold impl_isFlow.f at h
  by_cases hz : 1 ≤ (l0_0.length : Int) ∧ (l0_0.length : Int) ≤ 8
  · rw [if_pos hz] at h
    have hw : impl_within.f (l0_0.length : Int) 1 8 = some true := by rw [within_w]; simp; omega
    by_cases hm : 16 < l0_1.length
    · rw [if_pos hm] at h
      obtain rfl := Option.some.inj h
      exact isFlow_2 k A0_0 c0_0 l0_0 A0_1 c0_1 l0_1 (decide_eq_true hm) (decide_eq_true (by omega)) w hw
    · rw [if_neg hm] at h
      obtain ⟨i, hi, h⟩ := Option.bind_eq_some_iff.mp h
      by_cases hp : i ≥ 0
      · rw [if_pos hp] at h
        obtain rfl := Option.some.inj h
        exact isFlow_3 k A0_0 c0_0 l0_0 A0_1 c0_1 l0_1 i (decide_eq_false hm) (decide_eq_false (by omega)) w hr0_0 hc0_0 hr0_1 hc0_1 hw hi (decide_eq_true hp)
      · rw [if_neg hp] at h
        obtain ⟨j, hj, h⟩ := Option.bind_eq_some_iff.mp h
        obtain rfl := Option.some.inj h
        exact isFlow_4 k A0_0 c0_0 l0_0 A0_1 c0_1 l0_1 i j (decide_eq_false hm) (decide_eq_false (by omega)) w hr0_0 hc0_0 hr0_1 hc0_1 hw hi (decide_eq_false hp) hj hz.1 hz.2
  · rw [if_neg hz] at h
    have hw : impl_within.f (l0_0.length : Int) 1 8 = some false := by rw [within_w]; simp; omega
    obtain rfl := Option.some.inj h
    exact isFlow_1 k A0_0 c0_0 l0_0 A0_1 c0_1 l0_1 w hw
end Go.Proofs.Ytojpibpjieanhaa.X

-- Written by a program of this session out of the kit's print of the loaded functions: a plain function of a Go function, and its contract.
namespace Go.Proofs.Ytojpibpjieanhaa.X
open Go.RowKit Go.Proofs.YtojpibpjieanhaaW.PrintWords Go.Proofs.YtojpibpjieanhaaW.PrintLast Go.Proofs.YtojpibpjieanhaaW.PrintMore
attribute [local go_sem] max2_int min2_int max_two min_two max_three min_three max_four min_four   -- for this text's walks alone
set_option linter.unusedVariables false
set_option linter.unusedSimpArgs false

/-! ### slices_Index_bool_bool: function 103 -/
def slices_Index_bool_bool.l0 : Nat → List Bool → Bool → Int → Int → Option (Int)
  | 0, _, _, _, _ => none
  | k + 1, x0, x1, x7, x8 => if x8 < x7 then (if 0 ≤ x8 then (if x8 < (x0.length : Int) then (if (x1 == (rdOf false x0 x8)) = true then (some x8) else (slices_Index_bool_bool.l0 k x0 x1 x7 (wrap64 (x8 + 1)))) else (none)) else (none)) else (some (-1))
def slices_Index_bool_bool.f (k : Nat) (l0 : List Bool) (a1 : Bool) : Option (Int) := slices_Index_bool_bool.l0 k l0 a1 (l0.length : Int) 0
theorem slices_Index_bool_bool.mono_l : ∀ k, (∀ y0 y1 y2 y3, LeO (slices_Index_bool_bool.l0 k y0 y1 y2 y3) (slices_Index_bool_bool.l0 (k + 1) y0 y1 y2 y3))
  | 0 => fun _ _ _ _ r h => by simp [slices_Index_bool_bool.l0] at h
  | k + 1 => by
    have ih0 := slices_Index_bool_bool.mono_l k
    · intro y0 y1 y2 y3
      unfold slices_Index_bool_bool.l0
      repeat' first
      | (with_reducible exact ih0 _ _ _ _)
      | (with_reducible exact LeO.refl _)
      | (with_reducible exact LeO.none _)
      | (with_reducible refine LeO.ite ?_ ?_)
      | (with_reducible refine LeO.bind ?_ (fun _ => ?_))
      | exact ih0 _ _ _ _
      | exact LeO.none _
      | refine LeO.ite ?_ ?_
      | refine LeO.bind ?_ (fun _ => ?_)
theorem slices_Index_bool_bool.mono : ∀ a0 a1 k, LeO (slices_Index_bool_bool.f k a0 a1) (slices_Index_bool_bool.f (k + 1) a0 a1) := by
  intro a0 a1 k
  have ih0 := slices_Index_bool_bool.mono_l k
  unfold slices_Index_bool_bool.f
  repeat' first
      | (with_reducible exact ih0 _ _ _ _)
      | (with_reducible exact LeO.refl _)
      | (with_reducible exact LeO.none _)
      | (with_reducible refine LeO.ite ?_ ?_)
      | (with_reducible refine LeO.bind ?_ (fun _ => ?_))
      | exact ih0 _ _ _ _
      | exact LeO.none _
      | refine LeO.ite ?_ ?_
      | refine LeO.bind ?_ (fun _ => ?_)
set_option maxHeartbeats 8000000 in
set_option maxRecDepth 100000 in
theorem slices_Index_bool_bool.calls (k : Nat) (A0 : Option Addr) (c0 : Nat) (l0 : List Bool) (a1 : Bool) (r : Int) (w : World) (hr0 : Kd.C Kd.bool w A0 l0.length l0) (hc0 : l0.length ≤ c0) (h : slices_Index_bool_bool.f k l0 a1 = some r) :
    Calls Try.prog 103 #[.slice A0 l0.length c0, .bool a1] w fun e w' => e = .returned (.int .i64 r) ∧ Drawn0 w w' := by
  have HR0 := Aside0.mk hr0
  have HC0 := Aside0.mk hc0
  clear hr0 hc0
  have H : (slices_Index_bool_bool.l0 k l0 a1 (l0.length : Int) 0) = some r := h
  clear h
  have H' := Aside0.mk H
  clear H
  go_enter Try.func103, Try.ntmps103
  go_wp2
  go_loopg [8] k (fun kq v8 w' => ∃ (x8_1 : Int), v8 = .int .i64 x8_1 ∧ Aside0 (slices_Index_bool_bool.l0 kq l0 a1 (l0.length : Int) x8_1 = some r) ∧ Aside0 (kq ≤ k) ∧ Drawn0 w w')
  case atStart => exact ⟨(0), (by first | rfl | (simp; done) | (simp [*]; done)), H', ⟨Nat.le_refl _⟩, by repeat (first | exact Drawn0.refl _ | apply Drawn0.step)⟩
  case round =>
    clear H'
    try clear c1
    try clear p2
    obtain ⟨x8_1, rfl, HA, HK1, ⟨m1, rfl⟩⟩ := hrel
    cases gk with
    | zero => exact absurd HA.out (by simp [slices_Index_bool_bool.l0])
    | succ k1 =>
      have H := HA.out
      clear HA
      simp only [slices_Index_bool_bool.l0] at H
      by_cases c3 : x8_1 < (l0.length : Int)
      · rw [if_pos c3] at H
        have c3b0 : decide (x8_1 < (l0.length : Int)) = true := decide_eq_true c3
        clear c3
        by_cases c4 : 0 ≤ x8_1
        · rw [if_pos c4] at H
          have c4b0 : decide (0 ≤ x8_1) = true := decide_eq_true c4
          clear c4
          by_cases c5 : x8_1 < (l0.length : Int)
          · rw [if_pos c5] at H
            have c5b0 : decide (x8_1 < (l0.length : Int)) = true := decide_eq_true c5
            clear c5
            by_cases c6 : (a1 == (rdOf false l0 x8_1)) = true
            · rw [if_pos c6] at H
              have c6b0 : (a1 == (rdOf false l0 x8_1)) = true := c6
              (try (have c6b1 : decide (a1 = (rdOf false l0 x8_1)) = true := by simpa using c6))
              (try (have c6b2 : (a1 == (rdOf false l0 x8_1)) = true := by simpa using c6))
              clear c6
              obtain rfl := Option.some.inj H
              have p245 : 0 ≤ (x8_1 : Int) := of_decide_eq_true (by first | (with_reducible assumption) | assumption)
              have q245 : x8_1 < (l0.length : Int) := of_decide_eq_true (by first | (with_reducible assumption) | assumption)
              obtain ⟨ad245, e245, hx245_0⟩ := Kd.at_bool HR0.out x8_1 p245 q245
              cases e245
              replace p245 := eq_true p245
              replace q245 := eq_true q245
              go_wp2
              go_ret
              exact ⟨by first | rfl | (simp; done) | (simp [*]; done), by repeat (first | exact Drawn0.refl _ | apply Drawn0.step)⟩
            · rw [if_neg c6] at H
              have c6b0 : (a1 == (rdOf false l0 x8_1)) = false := by simpa using c6
              (try (have c6b1 : decide (a1 = (rdOf false l0 x8_1)) = false := by simpa using c6))
              (try (have c6b2 : (a1 == (rdOf false l0 x8_1)) = false := by simpa using c6))
              (try (have c6b3 : ¬ (a1 = (rdOf false l0 x8_1)) := by simpa using c6))
              clear c6
              have H' := Aside0.mk H
              clear H
              have p245 : 0 ≤ (x8_1 : Int) := of_decide_eq_true (by first | (with_reducible assumption) | assumption)
              have q245 : x8_1 < (l0.length : Int) := of_decide_eq_true (by first | (with_reducible assumption) | assumption)
              obtain ⟨ad245, e245, hx245_0⟩ := Kd.at_bool HR0.out x8_1 p245 q245
              cases e245
              replace p245 := eq_true p245
              replace q245 := eq_true q245
              go_wp2
              go_roundg k1
              case measure => have := HK1.out; omega
              case rel => exact ⟨(wrap64 (x8_1 + 1)), (by first | rfl | (simp; done) | (simp [*]; done)), H', ⟨by have := HK1.out; omega⟩, by repeat (first | exact Drawn0.refl _ | apply Drawn0.step)⟩
          · rw [if_neg c5] at H
            exact absurd H (by simp)
        · rw [if_neg c4] at H
          exact absurd H (by simp)
      · rw [if_neg c3] at H
        have c3b0 : decide (x8_1 < (l0.length : Int)) = false := decide_eq_false c3
        clear c3
        obtain rfl := Option.some.inj H
        go_wp2
        go_ret
        exact ⟨by first | rfl | (simp; done) | (simp [*]; done), by repeat (first | exact Drawn0.refl _ | apply Drawn0.step)⟩

end Go.Proofs.Ytojpibpjieanhaa.X

-- Written by a program of this session out of the kit's print of the loaded functions: a plain function of a Go function, and its contract.
namespace Go.Proofs.Ytojpibpjieanhaa.X
open Go.RowKit Go.Proofs.YtojpibpjieanhaaW.PrintWords Go.Proofs.YtojpibpjieanhaaW.PrintLast Go.Proofs.YtojpibpjieanhaaW.PrintMore
attribute [local go_sem] max2_int min2_int max_two min_two max_three min_three max_four min_four   -- for this text's walks alone
set_option linter.unusedVariables false
set_option linter.unusedSimpArgs false

/-! ### slices_Contains_bool_bool: function 86 -/
def slices_Contains_bool_bool.f (k : Nat) (l0 : List Bool) (a1 : Bool) : Option (Bool) := (slices_Index_bool_bool.f k l0 a1).bind fun t246 => (some (decide (t246 ≥ 0)))
theorem slices_Contains_bool_bool.mono : ∀ a0 a1 k, LeO (slices_Contains_bool_bool.f k a0 a1) (slices_Contains_bool_bool.f (k + 1) a0 a1) := by
  intro a0 a1 k
  unfold slices_Contains_bool_bool.f
  repeat' first
      | (with_reducible exact slices_Index_bool_bool.mono _ _ _)
      | (with_reducible exact LeO.refl _)
      | (with_reducible exact LeO.none _)
      | (with_reducible refine LeO.ite ?_ ?_)
      | (with_reducible refine LeO.bind ?_ (fun _ => ?_))
      | exact slices_Index_bool_bool.mono _ _ _
      | exact LeO.none _
      | refine LeO.ite ?_ ?_
      | refine LeO.bind ?_ (fun _ => ?_)
set_option maxHeartbeats 8000000 in
set_option maxRecDepth 100000 in
theorem slices_Contains_bool_bool.calls (k : Nat) (A0 : Option Addr) (c0 : Nat) (l0 : List Bool) (a1 : Bool) (r : Bool) (w : World) (hr0 : Kd.C Kd.bool w A0 l0.length l0) (hc0 : l0.length ≤ c0) (h : slices_Contains_bool_bool.f k l0 a1 = some r) :
    Calls Try.prog 86 #[.slice A0 l0.length c0, .bool a1] w fun e w' => e = .returned (.bool r) ∧ Drawn0 w w' := by
  have HR0 := Aside0.mk hr0
  have HC0 := Aside0.mk hc0
  clear hr0 hc0
  have H : ((slices_Index_bool_bool.f k l0 a1).bind fun t246 => (some (decide (t246 ≥ 0)))) = some r := h
  clear h
  replace H := Option.bind_eq_some_iff.mp H
  obtain ⟨t246, A30, H⟩ := H
  replace H : (some (decide (t246 ≥ 0))) = some r := H
  have A3 := Aside0.mk A30
  clear A30
  obtain rfl := Option.some.inj H
  go_enter Try.func86, Try.ntmps86
  go_wp2_with (first | ((with_reducible refine gate_callee (f := 103) rfl ?_); refine goesL_ (some 7) rfl rfl Try.func103 (by kernel_rfl) rfl #[.slice A0 l0.length c0, .bool a1] rfl (by (try simp only [List.map_toArray, List.map_cons, List.map_nil]); first | done | rfl | (simp only [List.length_drop, List.length_take]; rfl)) ?_; (with_reducible refine (slices_Index_bool_bool.calls k _ _ l0 a1 t246 _ ?side1 ?side2 A3.out).mono ?_); (case side1 => repeat (first | exact HR0.out | (with_reducible refine Kd.C_alloc ?_ _) | (with_reducible refine Kd.C_drewN ?_ _) | (with_reducible refine Kd.C_drew ?_))); (case side2 => first | exact trivial | (exact HC0.out)); rintro e w' ⟨rfl, ⟨nd, rfl⟩⟩; refine ⟨_, rfl, ?_⟩))
  go_ret
  exact ⟨by first | rfl | (simp; done) | (simp [*]; done), by repeat (first | exact Drawn0.refl _ | apply Drawn0.step)⟩

end Go.Proofs.Ytojpibpjieanhaa.X

/- The program's isOpen: what it answers. Conditions: none. -/
namespace Go.Proofs.Ytojpibpjieanhaa.X
open Go.RowKit Go.Proofs.YtojpibpjieanhaaW.PrintWords Go.Proofs.YtojpibpjieanhaaW.PrintLast Go.Proofs.YtojpibpjieanhaaW.PrintMore
set_option linter.unusedVariables false
set_option linter.unusedSimpArgs false
/-- A block of bools. -/
def Bools (w : World) (g : Nat) (l : List Bool) : Prop := w.heap[g]? = some (.cells (l.map Value.bool).toArray 4 (0, 0))
theorem Bools.cell {w : World} {g : Nat} {l : List Bool} (h : Bools w g l) (i : Nat) (hi : i < l.length) : w.cell? ⟨g, i, none⟩ = some (.bool (l.getD i false)) := by
  rw [blk_cell h i]
  simp [hi, List.getD_eq_getElem?_getD]
theorem Bools.frozen {w : World} {g : Nat} {l : List Bool} (h : Bools w g l) (i : Nat) : w.frozen? ⟨g, i, none⟩ = false := blk_frozen h i
theorem Bools.put {w : World} {g : Nat} {l : List Bool} (h : Bools w g l) (i : Nat) (b : Bool) : Bools (w.setCell ⟨g, i, none⟩ (.bool b)) g (l.set i b) :=
  blk_put h i (.bool b) (by simp [List.map_set])
theorem Bools.below {w w' : World} {g : Nat} {l : List Bool} (h : Bools w g l) (hb : Below w.heap.size w w') : Bools w' g l := blk_below h hb
theorem info4b : (Try.prog.info? 4).map (fun i => (i.zero, i.size, i.bytes)) = some (some (.bool false), 1, 1) := by kernel_rfl
section
variable {P : Program} {ops : Array Oper} {Q : Exit → Act → World → Prop}
/-- make([]bool, n), its block told. -/
theorem make_bools {rest : List Oper} {o : Oper} {a : Act} {W : World} (hgd : o.guard = none) {N : Tmp} (hd : o.dst = some N) (t e : TypeId) (x y : Operand) (ho : o.op = .makeSlice t x y) (n : Nat) (hx : a.eval x = .int .i64 n) (hy : a.eval y = .int .i64 n)
    (ht : P.underlying t = some (.slice e)) (hinfo : (P.info? e).map (fun i => (i.zero, i.size, i.bytes)) = some (some (.bool false), 1, 1)) (he : e = 4) (hl : n ≤ 1000000)
    (h : ∀ g wn, g = W.heap.size → Bools wn g (List.replicate n false) → Below W.heap.size W wn → wpList P ops Q rest (a.put o.dst (.slice (some ⟨g, 0, none⟩) n n)) wn) : wpList P ops Q (o :: rest) a W := by
  obtain ⟨i0, hi, hzz⟩ := Option.map_eq_some_iff.1 hinfo
  simp only [Prod.mk.injEq] at hzz
  obtain ⟨hz0, hz1, hz2⟩ := hzz
  have hr := run_make (P := P) W t e i0 (.bool false) ht hi hz0 .i64 .i64 (n : Int) (n : Int) (by omega) (by omega)
    (by
      have h3 : ((i0.bytes * n : Nat) : Int) ≤ 281474976710656 := by rw [hz2]; omega
      rwa [Int.natCast_mul] at h3) (by omega)
  simp only [Int.toNat_natCast] at hr
  rw [hz1] at hr
  refine Kd.event_run hgd (?_ : (execOp a.eval o).run P W = .ok (.value (.slice (some ⟨W.heap.size, 0, none⟩) n n)) (W.alloc (.cells (madeCells (Value.bool false).cells (n * 1)) e))) (h _ _ rfl ?_ (below_alloc (Below.refl _ _) _))
  · simp [execOp, ho, hx, hy, hr]
  · subst he
    unfold Bools
    have e1 : madeCells (Value.bool false).cells (n * 1) = ((List.replicate n false).map Value.bool).toArray := by
      apply Array.ext
      · simp [size_madeCells]
      · intro i h1 h2
        simp [madeCells, Value.cells, Nat.mod_one]
    rw [← e1]
    simp [World.alloc, -World.alloc_eq]
end
/-- Whether a wire without registers leads to a vertex from one that is left. -/
def leads (left : List Bool) (i f t c : Int) : Option Bool := if (c == 0) = true then (if (t == i) = true then (if 0 ≤ f ∧ f < left.length then some (left.getD f.toNat false) else none) else some false) else some false
abbrev leadC (left : List Bool) (i : Int) : C_impl_Wire_102 := ⟨fun f t c => leads left i f t c⟩
set_option maxHeartbeats 4000000 in
set_option maxRecDepth 100000 in
theorem OpenClo_1 (x0 x1 x2 : Int) (i n g1 g2 gL : Nat) (L : List Bool) (f1 : (x2 == 0) = false) (w : World) (b1 : w.heap[g1]? = some (.cells #[.int .i64 (i : Int)] 3 (0, 0))) (b2 : w.heap[g2]? = some (.cells #[.slice (some ⟨gL, 0, none⟩) n n] 99 (0, 0))) (bl : Bools w gL L) :
    Calls Try.prog 85 #[.agg #[.int .i64 x0, .int .i64 x1, .int .i64 x2], .pointer (some ⟨g1, 0, none⟩), .pointer (some ⟨g2, 0, none⟩)] w fun e w' => e = .returned (.bool false) ∧ Below w.heap.size w w' := by
  have Hb1 := Aside0.mk b1
  have Hb2 := Aside0.mk b2
  have Hbl := Aside0.mk bl
  clear b1 b2 bl
  have HB := Aside0.mk (Below.refl w.heap.size w)
  have BK1 := Hb1
  have BK2 := Hb2
  have BL := Hbl
  go_enter Try.func85, Try.ntmps85
  go_wp2_with (first
    | ((with_reducible refine gate_dst (N := 3) rfl ?_); refine box_event ?hg (N := 3) ?hd (cs := #[.int .i64 x0, .int .i64 x1, .int .i64 x2]) (t := 55) ?hr ?_; (case hd => rfl); (case hg => rfl); (case hr => first | (go_simp; done) | (go_simp; rfl)); intro g3 hg wn hbox hb; have GE3 := Aside0.mk (by rw [hg]; exact below_size HB.out : w.heap.size ≤ g3); have hbx := hb; clear hg; have BK30 := Aside0.mk hbox; clear hbox; have n0_ := Aside0.mk (below_step HB.out hb); clear HB  hb; have HB := n0_; clear n0_ ; have BK3 := BK30; clear BK30; have c3_0 : wn.cell? ⟨g3, 0, none⟩ = some (.int .i64 x0) := (blk_cell BK3.out 0).trans rfl; have c3_1 : wn.cell? ⟨g3, 1, none⟩ = some (.int .i64 x1) := (blk_cell BK3.out 1).trans rfl; have c3_2 : wn.cell? ⟨g3, 2, none⟩ = some (.int .i64 x2) := (blk_cell BK3.out 2).trans rfl; have n1_ := Aside0.mk (blk_below BK1.out hbx); have n2_ := Aside0.mk (blk_below BK2.out hbx); have n3_ := Aside0.mk (BL.out.below hbx); clear hbx BK1 BK2 BL; have BK1 := n1_; have BK2 := n2_; have BL := n3_; clear n1_ n2_ n3_; have c1_0 : wn.cell? ⟨g1, 0, none⟩ = some (.int .i64 (i : Int)) := (blk_cell BK1.out 0).trans rfl; have c2_0 : wn.cell? ⟨g2, 0, none⟩ = some (.slice (some ⟨gL, 0, none⟩) n n) := (blk_cell BK2.out 0).trans rfl))
  go_ret
  exact ⟨rfl, HB.out⟩
set_option maxHeartbeats 4000000 in
set_option maxRecDepth 100000 in
theorem OpenClo_2 (x0 x1 x2 : Int) (i n g1 g2 gL : Nat) (L : List Bool) (f1 : (x2 == 0) = true) (f2 : (x1 == (i : Int)) = false) (w : World) (b1 : w.heap[g1]? = some (.cells #[.int .i64 (i : Int)] 3 (0, 0))) (b2 : w.heap[g2]? = some (.cells #[.slice (some ⟨gL, 0, none⟩) n n] 99 (0, 0))) (bl : Bools w gL L) :
    Calls Try.prog 85 #[.agg #[.int .i64 x0, .int .i64 x1, .int .i64 x2], .pointer (some ⟨g1, 0, none⟩), .pointer (some ⟨g2, 0, none⟩)] w fun e w' => e = .returned (.bool false) ∧ Below w.heap.size w w' := by
  have Hb1 := Aside0.mk b1
  have Hb2 := Aside0.mk b2
  have Hbl := Aside0.mk bl
  clear b1 b2 bl
  have HB := Aside0.mk (Below.refl w.heap.size w)
  have BK1 := Hb1
  have BK2 := Hb2
  have BL := Hbl
  go_enter Try.func85, Try.ntmps85
  go_wp2_with (first
    | ((with_reducible refine gate_dst (N := 3) rfl ?_); refine box_event ?hg (N := 3) ?hd (cs := #[.int .i64 x0, .int .i64 x1, .int .i64 x2]) (t := 55) ?hr ?_; (case hd => rfl); (case hg => rfl); (case hr => first | (go_simp; done) | (go_simp; rfl)); intro g3 hg wn hbox hb; have GE3 := Aside0.mk (by rw [hg]; exact below_size HB.out : w.heap.size ≤ g3); have hbx := hb; clear hg; have BK30 := Aside0.mk hbox; clear hbox; have n0_ := Aside0.mk (below_step HB.out hb); clear HB  hb; have HB := n0_; clear n0_ ; have BK3 := BK30; clear BK30; have c3_0 : wn.cell? ⟨g3, 0, none⟩ = some (.int .i64 x0) := (blk_cell BK3.out 0).trans rfl; have c3_1 : wn.cell? ⟨g3, 1, none⟩ = some (.int .i64 x1) := (blk_cell BK3.out 1).trans rfl; have c3_2 : wn.cell? ⟨g3, 2, none⟩ = some (.int .i64 x2) := (blk_cell BK3.out 2).trans rfl; have n1_ := Aside0.mk (blk_below BK1.out hbx); have n2_ := Aside0.mk (blk_below BK2.out hbx); have n3_ := Aside0.mk (BL.out.below hbx); clear hbx BK1 BK2 BL; have BK1 := n1_; have BK2 := n2_; have BL := n3_; clear n1_ n2_ n3_; have c1_0 : wn.cell? ⟨g1, 0, none⟩ = some (.int .i64 (i : Int)) := (blk_cell BK1.out 0).trans rfl; have c2_0 : wn.cell? ⟨g2, 0, none⟩ = some (.slice (some ⟨gL, 0, none⟩) n n) := (blk_cell BK2.out 0).trans rfl))
  go_ret
  exact ⟨rfl, HB.out⟩
set_option maxHeartbeats 4000000 in
set_option maxRecDepth 100000 in
theorem OpenClo_3 (x1 x2 : Int) (p i n g1 g2 gL : Nat) (L : List Bool) (f1 : (x2 == 0) = true) (f2 : (x1 == (i : Int)) = true) (hp : p < n) (hn : n ≤ 1000000) (w : World) (b1 : w.heap[g1]? = some (.cells #[.int .i64 (i : Int)] 3 (0, 0))) (b2 : w.heap[g2]? = some (.cells #[.slice (some ⟨gL, 0, none⟩) n n] 99 (0, 0))) (bl : Bools w gL L) (hL : L.length = n) :
    Calls Try.prog 85 #[.agg #[.int .i64 (p : Int), .int .i64 x1, .int .i64 x2], .pointer (some ⟨g1, 0, none⟩), .pointer (some ⟨g2, 0, none⟩)] w fun e w' => e = .returned (.bool (L.getD p false)) ∧ Below w.heap.size w w' := by
  have Hb1 := Aside0.mk b1
  have Hb2 := Aside0.mk b2
  have Hbl := Aside0.mk bl
  have HhL := Aside0.mk hL
  clear b1 b2 bl hL
  have HB := Aside0.mk (Below.refl w.heap.size w)
  have BK1 := Hb1
  have BK2 := Hb2
  have BL := Hbl
  go_enter Try.func85, Try.ntmps85
  go_wp2_with (first
    | ((with_reducible refine gate_dst (N := 3) rfl ?_); refine box_event ?hg (N := 3) ?hd (cs := #[.int .i64 (p : Int), .int .i64 x1, .int .i64 x2]) (t := 55) ?hr ?_; (case hd => rfl); (case hg => rfl); (case hr => first | (go_simp; done) | (go_simp; rfl)); intro g3 hg wn hbox hb; have GE3 := Aside0.mk (by rw [hg]; exact below_size HB.out : w.heap.size ≤ g3); have hbx := hb; clear hg; have BK30 := Aside0.mk hbox; clear hbox; have n0_ := Aside0.mk (below_step HB.out hb); clear HB  hb; have HB := n0_; clear n0_ ; have BK3 := BK30; clear BK30; have c3_0 : wn.cell? ⟨g3, 0, none⟩ = some (.int .i64 (p : Int)) := (blk_cell BK3.out 0).trans rfl; have c3_1 : wn.cell? ⟨g3, 1, none⟩ = some (.int .i64 x1) := (blk_cell BK3.out 1).trans rfl; have c3_2 : wn.cell? ⟨g3, 2, none⟩ = some (.int .i64 x2) := (blk_cell BK3.out 2).trans rfl; have n1_ := Aside0.mk (blk_below BK1.out hbx); have n2_ := Aside0.mk (blk_below BK2.out hbx); have n3_ := Aside0.mk (BL.out.below hbx); clear hbx BK1 BK2 BL; have BK1 := n1_; have BK2 := n2_; have BL := n3_; clear n1_ n2_ n3_; have c1_0 : wn.cell? ⟨g1, 0, none⟩ = some (.int .i64 (i : Int)) := (blk_cell BK1.out 0).trans rfl; have c2_0 : wn.cell? ⟨g2, 0, none⟩ = some (.slice (some ⟨gL, 0, none⟩) n n) := (blk_cell BK2.out 0).trans rfl; have cL : wn.cell? ⟨gL, p, none⟩ = some (.bool (L.getD p false)) := BL.out.cell p (by rw [HhL.out]; exact hp)))
  go_ret
  exact ⟨rfl, HB.out⟩
theorem OpenCl (i n g1 g2 gL : Nat) (L : List Bool) (w : World) (hn : n ≤ 1000000) (hL : L.length = n) (h1 : w.heap[g1]? = some (.cells #[.int .i64 (i : Int)] 3 (0, 0))) (h2 : w.heap[g2]? = some (.cells #[.slice (some ⟨gL, 0, none⟩) n n] 99 (0, 0))) (h3 : Bools w gL L) :
    ∀ x0 x1 x2 r W, (leadC L i).f x0 x1 x2 = some r → Below w.heap.size w W → Calls Try.prog 85 (#[.agg #[.int .i64 x0, .int .i64 x1, .int .i64 x2]] ++ #[.pointer (some ⟨g1, 0, none⟩), .pointer (some ⟨g2, 0, none⟩)]) W fun e w' => e = .returned (.bool r) ∧ Below W.heap.size W w' := by
  intro x0 x1 x2 r W hx hW
  have q1 := blk_below h1 hW
  have q2 := blk_below h2 hW
  have q3 := h3.below hW
  have hx : leads L i x0 x1 x2 = some r := hx
  unfold leads at hx
  cases f1 : (x2 == 0) with
  | false =>
    rw [f1, if_neg (by simp)] at hx
    obtain rfl := Option.some.inj hx
    exact OpenClo_1 x0 x1 x2 i n g1 g2 gL L f1 W q1 q2 q3
  | true =>
    rw [f1, if_pos rfl] at hx
    cases f2 : (x1 == (i : Int)) with
    | false =>
      rw [f2, if_neg (by simp)] at hx
      obtain rfl := Option.some.inj hx
      exact OpenClo_2 x0 x1 x2 i n g1 g2 gL L f1 f2 W q1 q2 q3
    | true =>
      rw [f2, if_pos rfl] at hx
      by_cases hp : 0 ≤ x0 ∧ x0 < L.length
      · rw [if_pos hp] at hx
        obtain rfl := Option.some.inj hx
        obtain ⟨p, rfl⟩ := Int.eq_ofNat_of_zero_le hp.1
        rw [Int.toNat_natCast]
        exact OpenClo_3 x1 x2 p i n g1 g2 gL L f1 f2 (by omega) hn W q1 q2 q3 hL
      · rw [if_neg hp] at hx
        exact absurd hx (by simp)
end Go.Proofs.Ytojpibpjieanhaa.X

/- The program's isOpen: its loops. Conditions: none. -/
namespace Go.Proofs.Ytojpibpjieanhaa.X
open Go.RowKit Go.Proofs.YtojpibpjieanhaaW.PrintWords Go.Proofs.YtojpibpjieanhaaW.PrintLast Go.Proofs.YtojpibpjieanhaaW.PrintMore
set_option linter.unusedVariables false
set_option linter.unusedSimpArgs false
/-- One vertex's turn. -/
def openStep (k : Nat) (ws : List S55) (i : Nat) (L : List Bool) : Option (List Bool) := (@impl_Wire_102.f (leadC L i) k ws 0).bind fun r => some (L.set i (L.getD i false && decide (r ≥ 0)))
def openRound (k : Nat) (ws : List S55) : Nat → List Bool → Option (List Bool)
  | 0, L => some L
  | i + 1, L => (openRound k ws i L).bind fun M => openStep k ws i M
def openRounds (k : Nat) (ws : List S55) (n : Nat) : Nat → Option (List Bool)
  | 0 => some (List.replicate n true)
  | m + 1 => (openRounds k ws n m).bind fun M => openRound k ws n M
theorem openStep_len {k : Nat} {ws : List S55} {i : Nat} {L M : List Bool} (h : openStep k ws i L = some M) : M.length = L.length := by
  obtain ⟨r, _, h⟩ := Option.bind_eq_some_iff.mp h
  obtain rfl := Option.some.inj h
  simp
theorem openRound_len {k : Nat} {ws : List S55} : ∀ {i : Nat} {L M : List Bool}, openRound k ws i L = some M → M.length = L.length
  | 0, L, M, h => by obtain rfl := Option.some.inj h; rfl
  | i + 1, L, M, h => by
    obtain ⟨X, hX, h⟩ := Option.bind_eq_some_iff.mp h
    rw [openStep_len h, openRound_len hX]
theorem openRound_pre {k : Nat} {ws : List S55} {L : List Bool} : ∀ {n : Nat} {M : List Bool}, openRound k ws n L = some M → ∀ i, i ≤ n → ∃ X, openRound k ws i L = some X
  | 0, M, h, i, hi => by obtain rfl : i = 0 := by omega
                         exact ⟨M, h⟩
  | n + 1, M, h, i, hi => by
    by_cases e : i = n + 1
    · subst e; exact ⟨M, h⟩
    · obtain ⟨X, hX, _⟩ := Option.bind_eq_some_iff.mp h
      exact openRound_pre hX i (by omega)
theorem openRounds_pre {k : Nat} {ws : List S55} {n : Nat} : ∀ {m : Nat} {M : List Bool}, openRounds k ws n m = some M → ∀ i, i ≤ m → ∃ X, openRounds k ws n i = some X
  | 0, M, h, i, hi => by obtain rfl : i = 0 := by omega
                         exact ⟨M, h⟩
  | m + 1, M, h, i, hi => by
    by_cases e : i = m + 1
    · subst e; exact ⟨M, h⟩
    · obtain ⟨X, hX, _⟩ := Option.bind_eq_some_iff.mp h
      exact openRounds_pre hX i (by omega)
theorem openRounds_len {k : Nat} {ws : List S55} {n : Nat} : ∀ {m : Nat} {M : List Bool}, openRounds k ws n m = some M → M.length = n
  | 0, M, h => by obtain rfl := Option.some.inj h; simp
  | m + 1, M, h => by
    obtain ⟨X, hX, h⟩ := Option.bind_eq_some_iff.mp h
    rw [openRound_len h, openRounds_len hX]
theorem bools_C {w : World} {g : Nat} {l : List Bool} (h : Bools w g l) (hm : l.length ≤ 1000000) : Kd.C Kd.bool w (some ⟨g, 0, none⟩) l.length l := by
  refine ⟨rfl, by omega, fun _ => ⟨_, rfl, fun j p hj => ⟨[.bool p], rfl, rfl, fun i u hu => ?_⟩⟩⟩
  obtain ⟨hl, hp⟩ := List.getElem?_eq_some_iff.1 hj
  have h0 : i = 0 := by
    rcases i with _ | i
    · rfl
    · simp at hu
  subst h0
  have hu' : Value.bool p = u := by simpa using hu
  have hc := h.cell j hl
  rw [List.getD_eq_getElem?_getD, hj] at hc
  have e : (⟨g, 0, none⟩ : Addr).add (j * Kd.bool.sz + 0) = ⟨g, j, none⟩ := by
    show (⟨g, 0, none⟩ : Addr).add (j * 1 + 0) = ⟨g, j, none⟩
    rw [Nat.mul_one, Nat.add_zero]
    unfold Addr.add; split <;> simp_all
  rw [e, ← hu']
  exact hc
def marked (n i : Nat) : List Bool := List.replicate i true ++ List.replicate (n - i) false
theorem marked_len {n i : Nat} (h : i ≤ n) : (marked n i).length = n := by simp [marked]; omega
theorem marked_set {n i : Nat} (h : i < n) : (marked n i).set i true = marked n (i + 1) := by
  unfold marked
  apply List.ext_getElem
  · simp; omega
  · intro j h1 h2
    simp only [List.length_set, List.length_append, List.length_replicate] at h1
    rw [List.getElem_set]
    by_cases e : i = j
    · subst e; simp
    · rw [if_neg e]
      simp only [List.getElem_append, List.length_replicate, List.getElem_replicate]
      split <;> split <;> first | rfl | omega
set_option maxHeartbeats 4000000 in
set_option maxRecDepth 100000 in
theorem isOpen_walk (k : Nat) (A0 : Option Addr) (c0 : Nat) (l0 : List Int) (A1 : Option Addr) (c1 : Nat) (l1 : List S55) (n : Nat) (hn0 : l0.length = n) (hn : n ≤ 1000000) (M : List Bool) (b : Bool) (w : World)
    (hr1 : Kd.C k55 w A1 l1.length l1) (hc1 : l1.length ≤ c1) (hM : openRounds k l1 n n = some M) (hb : slices_Contains_bool_bool.f k M true = some b) :
    Calls Try.prog 54 #[.agg #[.slice A0 l0.length c0, .slice A1 l1.length c1]] w fun e w' => e = .returned (.bool (!b)) ∧ Below w.heap.size w w' := by
  have HR1 := Aside0.mk hr1
  have HC1 := Aside0.mk hc1
  have HM := Aside0.mk hM
  have Hb := Aside0.mk hb
  clear hr1 hc1 hM hb
  have HB := Aside0.mk (Below.refl w.heap.size w)
  rw [hn0]
  clear hn0
  go_enter Try.func54, Try.ntmps54
  go_wp2_with (first
    | ((with_reducible refine gate_dst (N := 1) rfl ?_); refine box_event ?hg (N := 1) ?hd (cs := #[.slice A0 n c0, .slice A1 l1.length c1]) (t := 36) ?hr ?_; (case hd => rfl); (case hg => rfl); (case hr => first | (go_simp; done) | (go_simp; rfl)); intro g1 hg wn hbox hb; have GE1 := Aside0.mk (by rw [hg]; exact below_size HB.out : w.heap.size ≤ g1); clear hg; have BK10 := Aside0.mk hbox; clear hbox; have n0_ := Aside0.mk (below_step HB.out hb); clear HB  hb; have HB := n0_; clear n0_ ; have BK1 := BK10; clear BK10; have c1_0 : wn.cell? ⟨g1, 0, none⟩ = some (.slice A0 n c0) := (blk_cell BK1.out 0).trans rfl; have c1_1 : wn.cell? ⟨g1, 1, none⟩ = some (.slice A1 l1.length c1) := (blk_cell BK1.out 1).trans rfl)
    | ((with_reducible refine gate_dst (N := 10) rfl ?_); refine make_bools ?hg (N := 10) ?hd 99 4 (.tmp 9) (.tmp 9) ?ho n rfl rfl Try.underlying99 info4b rfl (by omega) ?_; (case hd => rfl); (case hg => rfl); (case ho => rfl); intro gL wn hgL hL hb; have GL := Aside0.mk (by rw [hgL]; exact below_size HB.out : w.heap.size ≤ gL); have NE1_L := Aside0.mk (show g1 ≠ gL by have := blk_lt BK1.out; omega); clear hgL; have BL0 := Aside0.mk hL; clear hL; have n0_ := Aside0.mk (below_step HB.out hb); have m1_ := Aside0.mk (blk_below BK1.out hb); clear HB BK1 hb; have HB := n0_; have BK1 := m1_; clear n0_ m1_; have c1_0 : wn.cell? ⟨g1, 0, none⟩ = some (.slice A0 n c0) := (blk_cell BK1.out 0).trans rfl; have c1_1 : wn.cell? ⟨g1, 1, none⟩ = some (.slice A1 l1.length c1) := (blk_cell BK1.out 1).trans rfl; have BL := BL0; clear BL0)
    | ((with_reducible refine gate_dst (N := 3) rfl ?_); refine box_event ?hg (N := 3) ?hd (cs := #[.slice none 0 0]) (t := 99) ?hr ?_; (case hd => rfl); (case hg => rfl); (case hr => first | (go_simp; done) | (go_simp; rfl)); intro g3 hg wn hbox hb; have GE3 := Aside0.mk (by rw [hg]; exact below_size HB.out : w.heap.size ≤ g3); have NE1_3 := Aside0.mk (show g1 ≠ g3 by have := blk_lt BK1.out; omega); have NEL_3 := Aside0.mk (show gL ≠ g3 by have := blk_lt BL.out; omega); clear hg; have BK30 := Aside0.mk hbox; clear hbox; have nL_ := Aside0.mk (BL.out.below hb); clear BL; have BL := nL_; clear nL_; have n0_ := Aside0.mk (below_step HB.out hb); have m1_ := Aside0.mk (blk_below BK1.out hb); clear HB BK1 hb; have HB := n0_; have BK1 := m1_; clear n0_ m1_; have c1_0 : wn.cell? ⟨g1, 0, none⟩ = some (.slice A0 n c0) := (blk_cell BK1.out 0).trans rfl; have c1_1 : wn.cell? ⟨g1, 1, none⟩ = some (.slice A1 l1.length c1) := (blk_cell BK1.out 1).trans rfl; have BK3 := BK30; clear BK30; have z3_0 := blk_frozen BK3.out 0; have c3_0 : wn.cell? ⟨g3, 0, none⟩ = some (.slice none 0 0) := (blk_cell BK3.out 0).trans rfl))
  have p1 := Aside0.mk (blk_far BK1.out (p := ⟨g3, 0, none⟩) NE1_3.out (.slice (some ⟨gL, 0, none⟩) n n))
  have pL : Aside0 (Bools _ gL (List.replicate n false)) := ⟨blk_far BL.out (p := ⟨g3, 0, none⟩) NEL_3.out (.slice (some ⟨gL, 0, none⟩) n n)⟩
  have p3 := Aside0.mk (blk_put BK3.out 0 (.slice (some ⟨gL, 0, none⟩) n n) (cs' := #[.slice (some ⟨gL, 0, none⟩) n n]) rfl)
  have pb := Aside0.mk (below_set (j := 0) (v := .slice (some ⟨gL, 0, none⟩) n n) HB.out GE3.out)
  clear HB BK1 BK3 BL
  generalize wn.setCell ⟨g3, 0, none⟩ (.slice (some ⟨gL, 0, none⟩) n n) = W1 at p1 pL p3 pb ⊢
  clear z3_0 c3_0 c1_0 c1_1
  go_loopg [13] n (fun kq v13 w' => ∃ i : Nat, v13 = .int .i64 i ∧ Aside0 (i + kq = n) ∧ Aside0 (w'.heap[g1]? = some (.cells #[.slice A0 n c0, .slice A1 l1.length c1] 36 (0, 0))) ∧ Aside0 (w'.heap[g3]? = some (.cells #[.slice (some ⟨gL, 0, none⟩) n n] 99 (0, 0))) ∧ Aside0 (Bools w' gL (marked n i)) ∧ Aside0 (Below w.heap.size w w'))
  case atStart => exact ⟨0, by first | rfl | simp, ⟨by omega⟩, p1, p3, ⟨by simpa [marked] using pL.out⟩, pb⟩
  case round =>
    clear p1 pL p3 pb
    obtain ⟨i, rfl, HE, Q1, Q3, QL, QB⟩ := hrel
    have c3 : wr.cell? ⟨g3, 0, none⟩ = some (.slice (some ⟨gL, 0, none⟩) n n) := (blk_cell Q3.out 0).trans rfl
    by_cases hlt : i < n
    · cases gk with
      | zero => have := HE.out; omega
      | succ gq =>
      have zL := QL.out.frozen i
      have cL := QL.out.cell i (by rw [marked_len]; omega; omega)
      go_wp2
      go_roundg gq
      case measure => omega
      case rel => exact ⟨i + 1, by go_num, ⟨by have := HE.out; omega⟩, ⟨blk_far Q1.out (p := ⟨gL, i, none⟩) NE1_L.out _⟩, ⟨blk_far Q3.out (p := ⟨gL, i, none⟩) (Ne.symm NEL_3.out) _⟩, ⟨by rw [← marked_set hlt]; exact QL.out.put i true⟩, ⟨QB.out.setCell GL.out _⟩⟩
    · have e : i = n := by have := HE.out; omega
      subst e
      clear hlt HE
      go_wp2
      obtain ⟨wo, rfl⟩ : ∃ wo : World, wo = wr := ⟨_, rfl⟩
      go_loopg [22] i (fun kq v22 w' => ∃ (m : Nat) (X : List Bool), v22 = .int .i64 m ∧ Aside0 (m + kq = i) ∧ Aside0 (openRounds k l1 i m = some X) ∧ Aside0 (w'.heap[g1]? = some (.cells #[.slice A0 i c0, .slice A1 l1.length c1] 36 (0, 0))) ∧ Aside0 (w'.heap[g3]? = some (.cells #[.slice (some ⟨gL, 0, none⟩) i i] 99 (0, 0))) ∧ Aside0 (Bools w' gL X) ∧ Aside0 (Below w.heap.size w w'))
      case atStart => exact ⟨0, _, by first | rfl | simp, ⟨by omega⟩, ⟨rfl⟩, Q1, Q3, ⟨by simpa [marked] using QL.out⟩, QB⟩
      case round =>
        clear Q1 Q3 QL QB c3
        obtain ⟨m, X, rfl, HE, HX, Q1, Q3, QL, QB⟩ := hrel
        have c3 : wr.cell? ⟨g3, 0, none⟩ = some (.slice (some ⟨gL, 0, none⟩) i i) := (blk_cell Q3.out 0).trans rfl
        by_cases hlt : m < i
        · cases gk with
          | zero => have := HE.out; omega
          | succ gq =>
          obtain ⟨X', hX'⟩ := openRounds_pre HM.out (m + 1) (by omega)
          obtain ⟨X0, hX0, hXr⟩ := Option.bind_eq_some_iff.mp hX'
          obtain rfl := Option.some.inj (HX.out.symm.trans hX0)
          have HX' := Aside0.mk hX'
          have HXr := Aside0.mk hXr
          have HXl := Aside0.mk (openRounds_len HX.out)
          clear hX' hX0 hXr
          go_wp2
          obtain ⟨wo2, rfl⟩ : ∃ wo2 : World, wo2 = wr := ⟨_, rfl⟩
          go_loopg [26] i (fun kq v26 w' => ∃ (j : Nat) (Y : List Bool), v26 = .int .i64 j ∧ Aside0 (j + kq = i) ∧ Aside0 (openRound k l1 j X = some Y) ∧ Aside0 (w'.heap[g1]? = some (.cells #[.slice A0 i c0, .slice A1 l1.length c1] 36 (0, 0))) ∧ Aside0 (w'.heap[g3]? = some (.cells #[.slice (some ⟨gL, 0, none⟩) i i] 99 (0, 0))) ∧ Aside0 (Bools w' gL Y) ∧ Aside0 (Below w.heap.size w w'))
          case atStart => exact ⟨0, X, by first | rfl | simp, ⟨by omega⟩, ⟨rfl⟩, Q1, Q3, QL, QB⟩
          case round =>
            clear Q1 Q3 QL QB c3
            obtain ⟨j, Y, rfl, HJ, HY, Q1, Q3, QL, QB⟩ := hrel
            have c1_0 : wr.cell? ⟨g1, 0, none⟩ = some (.slice A0 i c0) := (blk_cell Q1.out 0).trans rfl
            have c1_1 : wr.cell? ⟨g1, 1, none⟩ = some (.slice A1 l1.length c1) := (blk_cell Q1.out 1).trans rfl
            have c3 : wr.cell? ⟨g3, 0, none⟩ = some (.slice (some ⟨gL, 0, none⟩) i i) := (blk_cell Q3.out 0).trans rfl
            by_cases hlj : j < i
            · cases gk with
              | zero => have := HJ.out; omega
              | succ gq2 =>
              obtain ⟨Y', hY'⟩ := openRound_pre HXr.out (j + 1) (by omega)
              obtain ⟨Y0, hY0, hYs⟩ := Option.bind_eq_some_iff.mp hY'
              obtain rfl := Option.some.inj (HY.out.symm.trans hY0)
              have HYl := Aside0.mk ((openRound_len HY.out).trans HXl.out)
              have hYs' := hYs
              obtain ⟨r, hr, hYe⟩ := Option.bind_eq_some_iff.mp hYs'
              have HYe := Aside0.mk (Option.some.inj hYe)
              have HR := Aside0.mk hr
              have HY' := Aside0.mk hY'
              clear hY0 hYs hYs' hr hYe hY'
              go_wp2_with (first
                | ((with_reducible refine gate_dst (N := 5) rfl ?_); refine box_event ?hg (N := 5) ?hd (cs := #[.int .i64 0]) (t := 3) ?hr ?_; (case hd => rfl); (case hg => rfl); (case hr => first | (go_simp; done) | (go_simp; rfl)); intro g5 hg wn hbox hb; have GE5 := Aside0.mk (by rw [hg]; exact below_size QB.out : w.heap.size ≤ g5); have NE1_5 := Aside0.mk (show g1 ≠ g5 by have := blk_lt Q1.out; omega); have NE3_5 := Aside0.mk (show g3 ≠ g5 by have := blk_lt Q3.out; omega); have NEL_5 := Aside0.mk (show gL ≠ g5 by have := blk_lt QL.out; omega); clear hg; have B5 := Aside0.mk hbox; clear hbox; have n0_ := Aside0.mk (below_step QB.out hb); have n1_ := Aside0.mk (blk_below Q1.out hb); have n3_ := Aside0.mk (blk_below Q3.out hb); have nL_ := Aside0.mk (QL.out.below hb); clear QB Q1 Q3 QL hb c3 c1_0 c1_1; have QB := n0_; have Q1 := n1_; have Q3 := n3_; have QL := nL_; clear n0_ n1_ n3_ nL_; have z5 := blk_frozen B5.out 0; have c5 : wn.cell? ⟨g5, 0, none⟩ = some (.int .i64 0) := (blk_cell B5.out 0).trans rfl; have c1s0 : ∀ v, (wn.setCell ⟨g5, 0, none⟩ v).cell? ⟨g1, 0, none⟩ = some (.slice A0 i c0) := fun v => (blk_cell (blk_far Q1.out (p := ⟨g5, 0, none⟩) NE1_5.out v) 0).trans rfl; have c1s1 : ∀ v, (wn.setCell ⟨g5, 0, none⟩ v).cell? ⟨g1, 1, none⟩ = some (.slice A1 l1.length c1) := fun v => (blk_cell (blk_far Q1.out (p := ⟨g5, 0, none⟩) NE1_5.out v) 1).trans rfl)
                | (go_at_call 83; have q1 := Aside0.mk (blk_far Q1.out (p := ⟨g5, 0, none⟩) NE1_5.out (.int .i64 (j : Int))); have q3 := Aside0.mk (blk_far Q3.out (p := ⟨g5, 0, none⟩) NE3_5.out (.int .i64 (j : Int))); have qL : Aside0 (Bools _ gL Y) := ⟨blk_far QL.out (p := ⟨g5, 0, none⟩) NEL_5.out (.int .i64 (j : Int))⟩; have q5 := Aside0.mk (blk_put B5.out 0 (.int .i64 (j : Int)) (cs' := #[.int .i64 (j : Int)]) rfl); have qb := Aside0.mk (below_set (j := 0) (v := .int .i64 (j : Int)) QB.out GE5.out); clear QB Q1 Q3 QL B5 c5 z5 c1s0 c1s1; refine (@has83 (leadC Y j) k A1 c1 l1 r 85 Try.f85 #[.pointer (some ⟨g5, 0, none⟩), .pointer (some ⟨g3, 0, none⟩)] ⟨Try.func85, rfl, by kernel_rfl⟩ _ (OpenCl j i g5 g3 gL Y _ hn HYl.out q5.out q3.out qL.out) (Kd.C_below HR1.out qb.out) HC1.out HR.out).mono ?_; rintro e wz ⟨rfl, hb⟩; have n0_ := Aside0.mk (below_step qb.out hb); have n1_ := Aside0.mk (blk_below q1.out hb); have n3_ := Aside0.mk (blk_below q3.out hb); have n5_ := Aside0.mk (blk_below q5.out hb); have nL_ := Aside0.mk (qL.out.below hb); clear qb q1 q3 q5 qL hb; have QB := n0_; have Q1 := n1_; have Q3 := n3_; have B5 := n5_; have QL := nL_; clear n0_ n1_ n3_ n5_ nL_; have c3 : wz.cell? ⟨g3, 0, none⟩ = some (.slice (some ⟨gL, 0, none⟩) i i) := (blk_cell Q3.out 0).trans rfl; have c5 : wz.cell? ⟨g5, 0, none⟩ = some (.int .i64 (j : Int)) := (blk_cell B5.out 0).trans rfl; have zL := QL.out.frozen j))
              have cL := QL.out.cell j (by rw [HYl.out]; exact hlj)
              have HYe2 := HYe
              cases hy : Y.getD j false with
              | false =>
                rw [hy] at cL HYe2
                have HYe3 : Aside0 (Y.set j false = Y') := ⟨by simpa using HYe2.out⟩
                clear hy HYe HYe2
                go_region
                go_wp2
                go_roundg gq2
                case measure => omega
                case rel => exact ⟨j + 1, Y', by go_num, ⟨by have := HJ.out; omega⟩, HY', ⟨blk_far Q1.out (p := ⟨gL, j, none⟩) NE1_L.out _⟩, ⟨blk_far Q3.out (p := ⟨gL, j, none⟩) (Ne.symm NEL_3.out) _⟩, ⟨by rw [← HYe3.out]; exact QL.out.put j false⟩, ⟨by first | exact below_drew1 (QB.out.setCell GL.out _) | exact QB.out.setCell GL.out _⟩⟩
              | true =>
                rw [hy] at cL HYe2
                have HYe3 : Aside0 (Y.set j (decide (r ≥ 0)) = Y') := ⟨by simpa using HYe2.out⟩
                clear hy HYe HYe2
                go_region
                go_wp2
                go_roundg gq2
                case measure => omega
                case rel => exact ⟨j + 1, Y', by go_num, ⟨by have := HJ.out; omega⟩, HY', ⟨blk_far Q1.out (p := ⟨gL, j, none⟩) NE1_L.out _⟩, ⟨blk_far Q3.out (p := ⟨gL, j, none⟩) (Ne.symm NEL_3.out) _⟩, ⟨by rw [← HYe3.out]; exact QL.out.put j (decide (r ≥ 0))⟩, ⟨by first | exact below_drew1 (QB.out.setCell GL.out _) | exact QB.out.setCell GL.out _⟩⟩
            · have e : j = i := by have := HJ.out; omega
              have HYY : Aside0 (Y = X') := ⟨by have h1 := HY.out; rw [e] at h1; exact Option.some.inj (h1.symm.trans HXr.out)⟩
              have f1 : decide ((j : Int) < (i : Int)) = false := decide_eq_false (by omega)
              have f2 : decide (j < i) = false := decide_eq_false hlj
              clear hlj e
              go_wp2
              go_roundg gq
              case measure => omega
              case rel => exact ⟨m + 1, X', by go_num, ⟨by have := HE.out; omega⟩, HX', Q1, Q3, ⟨by rw [← HYY.out]; exact QL.out⟩, QB⟩
        · have e : m = i := by have := HE.out; omega
          have HXM : Aside0 (X = M) := ⟨by have h1 := HX.out; rw [e] at h1; exact Option.some.inj (h1.symm.trans HM.out)⟩
          have HML : Aside0 (M.length = i) := ⟨openRounds_len HM.out⟩
          have f1 : decide ((m : Int) < (i : Int)) = false := decide_eq_false (by omega)
          have f2 : decide (m < i) = false := decide_eq_false hlt
          clear hlt e
          have QM : Aside0 (Bools wr gL M) := ⟨by rw [← HXM.out]; exact QL.out⟩
          have T := Aside0.mk (slices_Contains_bool_bool.calls k (some ⟨gL, 0, none⟩) i M true b wr (bools_C QM.out (by rw [HML.out]; exact hn)) (by rw [HML.out]; exact Nat.le_refl _) Hb.out)
          rw [HML.out] at T
          go_wp2_with (first | (go_at_call 86; refine T.out.mono ?_; rintro e wz ⟨rfl, hb0⟩))
          go_ret
          exact ⟨rfl, by obtain ⟨m0, rfl⟩ := hb0; exact pw_below_drewN QB.out _⟩
theorem openStep_mono (k : Nat) (ws : List S55) (i : Nat) (L : List Bool) : LeO (openStep k ws i L) (openStep (k + 1) ws i L) := LeO.bind (@impl_Wire_102.mono (leadC L i) ws 0 k) (fun _ => LeO.refl _)
theorem openRound_mono (k : Nat) (ws : List S55) : ∀ (i : Nat) (L : List Bool), LeO (openRound k ws i L) (openRound (k + 1) ws i L)
  | 0, _ => LeO.refl _
  | i + 1, L => LeO.bind (openRound_mono k ws i L) (fun M => openStep_mono k ws i M)
theorem openRounds_mono (k : Nat) (ws : List S55) (n : Nat) : ∀ m, LeO (openRounds k ws n m) (openRounds (k + 1) ws n m)
  | 0 => LeO.refl _
  | m + 1 => LeO.bind (openRounds_mono k ws n m) (fun M => openRound_mono k ws n M)
def impl_Flow_isOpen.f (k : Nat) (l0 : List Int) (l1 : List S55) : Option Bool :=
  if l0.length ≤ 1000000 then (openRounds k l1 l0.length l0.length).bind fun M => (slices_Contains_bool_bool.f k M true).bind fun b => some (!b) else none
theorem impl_Flow_isOpen.mono : ∀ a0 a1 k, LeO (impl_Flow_isOpen.f k a0 a1) (impl_Flow_isOpen.f (k + 1) a0 a1) := by
  intro l0 l1 k
  unfold impl_Flow_isOpen.f
  split
  · exact LeO.bind (openRounds_mono k l1 l0.length l0.length) (fun M => LeO.bind (slices_Contains_bool_bool.mono M true k) (fun _ => LeO.refl _))
  · exact LeO.refl _
theorem impl_Flow_isOpen.calls (k : Nat) (A0_0 : Option Addr) (c0_0 : Nat) (l0_0 : List Int) (A0_1 : Option Addr) (c0_1 : Nat) (l0_1 : List (S55)) (r : Bool) (w : World) (hr0_0 : Kd.C (Kd.int .i64) w A0_0 l0_0.length l0_0) (hc0_0 : l0_0.length ≤ c0_0) (hr0_1 : Kd.C k55 w A0_1 l0_1.length l0_1) (hc0_1 : l0_1.length ≤ c0_1) (h : impl_Flow_isOpen.f k l0_0 l0_1 = some r) :
    Calls Try.prog 54 #[.agg #[.slice A0_0 l0_0.length c0_0, .slice A0_1 l0_1.length c0_1]] w fun e w' => e = .returned (.bool r) ∧ Below w.heap.size w w' := by
  unfold impl_Flow_isOpen.f at h
  by_cases hn : l0_0.length ≤ 1000000
  · rw [if_pos hn] at h
    obtain ⟨M, hM, h⟩ := Option.bind_eq_some_iff.mp h
    obtain ⟨b, hb, h⟩ := Option.bind_eq_some_iff.mp h
    obtain rfl := Option.some.inj h
    exact isOpen_walk k A0_0 c0_0 l0_0 A0_1 c0_1 l0_1 l0_0.length rfl hn M b w hr0_1 hc0_1 hM hb
  · rw [if_neg hn] at h
    exact absurd h (by simp)
end Go.Proofs.Ytojpibpjieanhaa.X

-- Written by a program of this session out of the kit's print of the loaded functions: a plain function of a Go function, and its contract.
namespace Go.Proofs.Ytojpibpjieanhaa.X
open Go.RowKit Go.Proofs.YtojpibpjieanhaaW.PrintWords Go.Proofs.YtojpibpjieanhaaW.PrintLast Go.Proofs.YtojpibpjieanhaaW.PrintMore
attribute [local go_sem] max2_int min2_int max_two min_two max_three min_three max_four min_four   -- for this text's walks alone
set_option linter.unusedVariables false
set_option linter.unusedSimpArgs false

/-! ### spec_l08Is: function 51 -/
def spec_l08Is.l0 : Nat → Int → List Int → List (S55) → Option (Bool)
  | 0, _, _, _ => none
  | k + 1, x3, x1000, x1001 => if x3 < (x1000.length : Int) then ((spec_l08Open.f k x1000 x1001 x3).bind fun t222 => (if t222 = true then (some false) else (spec_l08Is.l0 k (wrap64 (x3 + 1)) x1000 x1001))) else (some true)
def spec_l08Is.f (k : Nat) (s0_0 : List Int) (s0_1 : List (S55)) : Option (Bool) := (spec_l08Form.f k s0_0 s0_1).bind fun t221 => (if t221 = true then (spec_l08Is.l0 k 0 s0_0 s0_1) else (some false))
theorem spec_l08Is.mono_l : ∀ k, (∀ y0 y1 y2, LeO (spec_l08Is.l0 k y0 y1 y2) (spec_l08Is.l0 (k + 1) y0 y1 y2))
  | 0 => fun _ _ _ r h => by simp [spec_l08Is.l0] at h
  | k + 1 => by
    have ih0 := spec_l08Is.mono_l k
    · intro y0 y1 y2
      unfold spec_l08Is.l0
      repeat' first
      | (with_reducible exact ih0 _ _ _)
      | (with_reducible exact spec_l08Form.mono _ _ _)
      | (with_reducible exact spec_l08Open.mono _ _ _ _)
      | (with_reducible exact LeO.refl _)
      | (with_reducible exact LeO.none _)
      | (with_reducible refine LeO.ite ?_ ?_)
      | (with_reducible refine LeO.bind ?_ (fun _ => ?_))
      | exact ih0 _ _ _
      | exact spec_l08Form.mono _ _ _
      | exact spec_l08Open.mono _ _ _ _
      | exact LeO.none _
      | refine LeO.ite ?_ ?_
      | refine LeO.bind ?_ (fun _ => ?_)
theorem spec_l08Is.mono : ∀ a0 a1 k, LeO (spec_l08Is.f k a0 a1) (spec_l08Is.f (k + 1) a0 a1) := by
  intro a0 a1 k
  have ih0 := spec_l08Is.mono_l k
  unfold spec_l08Is.f
  repeat' first
      | (with_reducible exact ih0 _ _ _)
      | (with_reducible exact spec_l08Form.mono _ _ _)
      | (with_reducible exact spec_l08Open.mono _ _ _ _)
      | (with_reducible exact LeO.refl _)
      | (with_reducible exact LeO.none _)
      | (with_reducible refine LeO.ite ?_ ?_)
      | (with_reducible refine LeO.bind ?_ (fun _ => ?_))
      | exact ih0 _ _ _
      | exact spec_l08Form.mono _ _ _
      | exact spec_l08Open.mono _ _ _ _
      | exact LeO.none _
      | refine LeO.ite ?_ ?_
      | refine LeO.bind ?_ (fun _ => ?_)
set_option maxHeartbeats 8000000 in
set_option maxRecDepth 100000 in
theorem spec_l08Is.calls (k : Nat) (g : Nat) (s0_0 : List Int) (s0_1 : List (S55)) (r : Bool) (w0 w : World) (hI : IsS36 w0 w g s0_0 s0_1) (hB : Below w0.heap.size w0 w) (h : spec_l08Is.f k s0_0 s0_1 = some r) :
    Calls Try.prog 51 #[.pointer (some ⟨g, 0, none⟩)] w fun e w' => e = .returned (.bool r) ∧ IsS36 w0 w' g s0_0 s0_1 ∧ Below w0.heap.size w0 w' ∧ KeepBut w w' g none := by
  have HI0 := Aside0.mk hI
  have HK := Aside0.mk (KeepBut.refl w g none)
  have HL := Aside0.mk hB.size
  clear hI
  have HW0 := Aside0.mk hB.size
  have HB := Aside0.mk hB
  clear hB
  have H : ((spec_l08Form.f k s0_0 s0_1).bind fun t221 => (if t221 = true then (spec_l08Is.l0 k 0 s0_0 s0_1) else (some false))) = some r := h
  clear h
  replace H := Option.bind_eq_some_iff.mp H
  obtain ⟨t221, A20, H⟩ := H
  replace H : (if t221 = true then (spec_l08Is.l0 k 0 s0_0 s0_1) else (some false)) = some r := H
  have A2 := Aside0.mk A20
  clear A20
  by_cases c3 : t221 = true
  · subst c3
    have H1 : (spec_l08Is.l0 k 0 s0_0 s0_1) = some r := by rw [if_pos rfl] at H; exact H
    clear H
    have H := H1
    clear H1
    have H' := Aside0.mk H
    clear H
    go_enter Try.func51, Try.ntmps51
    go_wp2_with (first | ((with_reducible refine gate_callee (f := 78) rfl ?_); refine goesL_ (some 5) rfl rfl Try.func78 (by kernel_rfl) rfl #[.pointer (some ⟨g, 0, none⟩)] rfl (by (try simp only [List.map_toArray, List.map_cons, List.map_nil]); first | done | rfl | (simp only [List.length_drop, List.length_take]; rfl)) ?_; (with_reducible refine (spec_l08Form.calls k g s0_0 s0_1 true w0 _ ?side1 ?side2 A2.out).mono ?_); (case side1 => repeat (first | (with_reducible first | exact HI0.out | apply IsS36.alloc | apply IsS36.drewN | apply IsS36.drew) | exact HI0.out)); (case side2 => repeat (first | (with_reducible first | exact HB.out | apply below_alloc | apply pw_below_drewN | apply below_drew1 | refine below_set ?_ (IsS36.ge HI0.out)) | exact HB.out)); rintro e w4 ⟨rfl, hi, hb, hk⟩; refine ⟨_, rfl, ?_⟩; have n0_ := Aside0.mk (KeepBut.trans (by repeat (first | (with_reducible first | exact HK.out | apply KeepBut.set_ | apply keep_drewN | apply keep_drew | apply keep_alloc) | exact HK.out)) hk (.inl rfl)); have n1_ := Aside0.mk (hb); have n2_ := Aside0.mk (hi); clear HK; clear HB; clear HI0; have HK := n0_; have HB := n1_; have HI0 := n2_; clear n0_ n1_ n2_; (try clear hb); (try clear hb2); (try clear hk); (try clear hi)))
    go_loopg [3] k (fun kq v3 w' => ∃ (x3_1 : Int), v3 = .int .i64 x3_1 ∧ Aside0 (spec_l08Is.l0 kq x3_1 s0_0 s0_1 = some r) ∧ Aside0 (kq ≤ k) ∧ Aside0 (IsS36 w0 w' g s0_0 s0_1) ∧ Aside0 (KeepBut w w' g none) ∧ Aside0 (Below w0.heap.size w0 w'))
    case atStart => exact ⟨(0), (by first | rfl | (simp; done) | (simp [*]; done)), H', ⟨Nat.le_refl _⟩, ⟨by repeat (first | (with_reducible first | exact HI0.out | apply IsS36.alloc | apply IsS36.drewN | apply IsS36.drew) | exact HI0.out)⟩, ⟨by repeat (first | (with_reducible first | exact HK.out | apply KeepBut.set_ | apply keep_drewN | apply keep_drew | apply keep_alloc) | exact HK.out)⟩, ⟨by repeat (first | (with_reducible first | exact HB.out | apply below_alloc | apply pw_below_drewN | apply below_drew1 | refine below_set ?_ (IsS36.ge HI0.out)) | exact HB.out)⟩⟩
    case round =>
      clear H'
      try clear p2
      try clear c3
      obtain ⟨x3_1, rfl, HA, HK1, HI0, HK, HB⟩ := hrel
      cases gk with
      | zero => exact absurd HA.out (by simp [spec_l08Is.l0])
      | succ k1 =>
        have H := HA.out
        clear HA
        simp only [spec_l08Is.l0] at H
        by_cases c5 : x3_1 < (s0_0.length : Int)
        · rw [if_pos c5] at H
          have c5b0 : decide (x3_1 < (s0_0.length : Int)) = true := decide_eq_true c5
          clear c5
          replace H := Option.bind_eq_some_iff.mp H
          obtain ⟨t222, A60, H⟩ := H
          replace H : (if t222 = true then (some false) else (spec_l08Is.l0 k1 (wrap64 (x3_1 + 1)) s0_0 s0_1)) = some r := H
          have A6 := Aside0.mk A60
          clear A60
          by_cases c7 : t222 = true
          · subst c7
            have H1 : (some false) = some r := by rw [if_pos rfl] at H; exact H
            clear H
            have H := H1
            clear H1
            obtain rfl := Option.some.inj H
            obtain ⟨ASz8_0, cSz8_0, ASz8_1, cSz8_1, HGz8, hgz8, HSz8_0, HSz8_1⟩ := HI0.out
            have hcz8_0 := cellS36_0 HGz8
            have hcz8_1 := cellS36_1 HGz8
            clear HGz8 hgz8
            go_wp2_with (first | ((with_reducible refine gate_callee (f := 79) rfl ?_); refine goesL_ (some 18) rfl rfl Try.func79 (by kernel_rfl) rfl #[.pointer (some ⟨g, 0, none⟩), .int .i64 x3_1] rfl (by (try simp only [List.map_toArray, List.map_cons, List.map_nil]); first | done | rfl | (simp only [List.length_drop, List.length_take]; rfl)) ?_; (with_reducible refine (spec_l08Open.calls k1 g s0_0 s0_1 x3_1 true w0 _ ?side1 ?side2 A6.out).mono ?_); (case side1 => repeat (first | (with_reducible first | exact HI0.out | apply IsS36.alloc | apply IsS36.drewN | apply IsS36.drew) | exact HI0.out)); (case side2 => repeat (first | (with_reducible first | exact HB.out | apply below_alloc | apply pw_below_drewN | apply below_drew1 | refine below_set ?_ (IsS36.ge HI0.out)) | exact HB.out)); rintro e w9 ⟨rfl, hi, hb, hk⟩; refine ⟨_, rfl, ?_⟩; have n0_ := Aside0.mk (KeepBut.trans (by repeat (first | (with_reducible first | exact HK.out | apply KeepBut.set_ | apply keep_drewN | apply keep_drew | apply keep_alloc) | exact HK.out)) hk (.inl rfl)); have n1_ := Aside0.mk (hb); have n2_ := Aside0.mk (hi); clear HK; clear HB; clear HI0; have HK := n0_; have HB := n1_; have HI0 := n2_; clear n0_ n1_ n2_; (try clear hb); (try clear hb2); (try clear hk); (try clear hi)))
            go_ret
            exact ⟨by first | rfl | (simp [errW_none, errW_some] <;> rfl) | (simp [*, errW_none, errW_some] <;> rfl), by repeat (first | (with_reducible first | exact HI0.out | apply IsS36.alloc | apply IsS36.drewN | apply IsS36.drew) | exact HI0.out), by repeat (first | (with_reducible first | exact HB.out | apply below_alloc | apply pw_below_drewN | apply below_drew1 | refine below_set ?_ (IsS36.ge HI0.out)) | exact HB.out), by repeat (first | (with_reducible first | exact HK.out | apply KeepBut.set_ | apply keep_drewN | apply keep_drew | apply keep_alloc) | exact HK.out)⟩
          · replace c7 := Bool.eq_false_iff.mpr c7
            subst c7
            have H1 : (spec_l08Is.l0 k1 (wrap64 (x3_1 + 1)) s0_0 s0_1) = some r := by rw [if_neg (show ¬ (false = true) by decide)] at H; exact H
            clear H
            have H := H1
            clear H1
            have H' := Aside0.mk H
            clear H
            obtain ⟨ASz10_0, cSz10_0, ASz10_1, cSz10_1, HGz10, hgz10, HSz10_0, HSz10_1⟩ := HI0.out
            have hcz10_0 := cellS36_0 HGz10
            have hcz10_1 := cellS36_1 HGz10
            clear HGz10 hgz10
            go_wp2_with (first | ((with_reducible refine gate_callee (f := 79) rfl ?_); refine goesL_ (some 18) rfl rfl Try.func79 (by kernel_rfl) rfl #[.pointer (some ⟨g, 0, none⟩), .int .i64 x3_1] rfl (by (try simp only [List.map_toArray, List.map_cons, List.map_nil]); first | done | rfl | (simp only [List.length_drop, List.length_take]; rfl)) ?_; (with_reducible refine (spec_l08Open.calls k1 g s0_0 s0_1 x3_1 false w0 _ ?side1 ?side2 A6.out).mono ?_); (case side1 => repeat (first | (with_reducible first | exact HI0.out | apply IsS36.alloc | apply IsS36.drewN | apply IsS36.drew) | exact HI0.out)); (case side2 => repeat (first | (with_reducible first | exact HB.out | apply below_alloc | apply pw_below_drewN | apply below_drew1 | refine below_set ?_ (IsS36.ge HI0.out)) | exact HB.out)); rintro e w11 ⟨rfl, hi, hb, hk⟩; refine ⟨_, rfl, ?_⟩; have n0_ := Aside0.mk (KeepBut.trans (by repeat (first | (with_reducible first | exact HK.out | apply KeepBut.set_ | apply keep_drewN | apply keep_drew | apply keep_alloc) | exact HK.out)) hk (.inl rfl)); have n1_ := Aside0.mk (hb); have n2_ := Aside0.mk (hi); clear HK; clear HB; clear HI0; have HK := n0_; have HB := n1_; have HI0 := n2_; clear n0_ n1_ n2_; (try clear hb); (try clear hb2); (try clear hk); (try clear hi)))
            go_roundg k1
            case measure => have := HK1.out; omega
            case rel => exact ⟨(wrap64 (x3_1 + 1)), (by first | rfl | (simp; done) | (simp [*]; done)), H', ⟨by have := HK1.out; omega⟩, ⟨by repeat (first | (with_reducible first | exact HI0.out | apply IsS36.alloc | apply IsS36.drewN | apply IsS36.drew) | exact HI0.out)⟩, ⟨by repeat (first | (with_reducible first | exact HK.out | apply KeepBut.set_ | apply keep_drewN | apply keep_drew | apply keep_alloc) | exact HK.out)⟩, ⟨by repeat (first | (with_reducible first | exact HB.out | apply below_alloc | apply pw_below_drewN | apply below_drew1 | refine below_set ?_ (IsS36.ge HI0.out)) | exact HB.out)⟩⟩
        · rw [if_neg c5] at H
          have c5b0 : decide (x3_1 < (s0_0.length : Int)) = false := decide_eq_false c5
          clear c5
          obtain rfl := Option.some.inj H
          obtain ⟨ASz12_0, cSz12_0, ASz12_1, cSz12_1, HGz12, hgz12, HSz12_0, HSz12_1⟩ := HI0.out
          have hcz12_0 := cellS36_0 HGz12
          have hcz12_1 := cellS36_1 HGz12
          clear HGz12 hgz12
          go_wp2
          go_ret
          exact ⟨by first | rfl | (simp [errW_none, errW_some] <;> rfl) | (simp [*, errW_none, errW_some] <;> rfl), by repeat (first | (with_reducible first | exact HI0.out | apply IsS36.alloc | apply IsS36.drewN | apply IsS36.drew) | exact HI0.out), by repeat (first | (with_reducible first | exact HB.out | apply below_alloc | apply pw_below_drewN | apply below_drew1 | refine below_set ?_ (IsS36.ge HI0.out)) | exact HB.out), by repeat (first | (with_reducible first | exact HK.out | apply KeepBut.set_ | apply keep_drewN | apply keep_drew | apply keep_alloc) | exact HK.out)⟩
  · replace c3 := Bool.eq_false_iff.mpr c3
    subst c3
    have H1 : (some false) = some r := by rw [if_neg (show ¬ (false = true) by decide)] at H; exact H
    clear H
    have H := H1
    clear H1
    obtain rfl := Option.some.inj H
    go_enter Try.func51, Try.ntmps51
    go_wp2_with (first | ((with_reducible refine gate_callee (f := 78) rfl ?_); refine goesL_ (some 5) rfl rfl Try.func78 (by kernel_rfl) rfl #[.pointer (some ⟨g, 0, none⟩)] rfl (by (try simp only [List.map_toArray, List.map_cons, List.map_nil]); first | done | rfl | (simp only [List.length_drop, List.length_take]; rfl)) ?_; (with_reducible refine (spec_l08Form.calls k g s0_0 s0_1 false w0 _ ?side1 ?side2 A2.out).mono ?_); (case side1 => repeat (first | (with_reducible first | exact HI0.out | apply IsS36.alloc | apply IsS36.drewN | apply IsS36.drew) | exact HI0.out)); (case side2 => repeat (first | (with_reducible first | exact HB.out | apply below_alloc | apply pw_below_drewN | apply below_drew1 | refine below_set ?_ (IsS36.ge HI0.out)) | exact HB.out)); rintro e w13 ⟨rfl, hi, hb, hk⟩; refine ⟨_, rfl, ?_⟩; have n0_ := Aside0.mk (KeepBut.trans (by repeat (first | (with_reducible first | exact HK.out | apply KeepBut.set_ | apply keep_drewN | apply keep_drew | apply keep_alloc) | exact HK.out)) hk (.inl rfl)); have n1_ := Aside0.mk (hb); have n2_ := Aside0.mk (hi); clear HK; clear HB; clear HI0; have HK := n0_; have HB := n1_; have HI0 := n2_; clear n0_ n1_ n2_; (try clear hb); (try clear hb2); (try clear hk); (try clear hi)))
    go_ret
    exact ⟨by first | rfl | (simp [errW_none, errW_some] <;> rfl) | (simp [*, errW_none, errW_some] <;> rfl), by repeat (first | (with_reducible first | exact HI0.out | apply IsS36.alloc | apply IsS36.drewN | apply IsS36.drew) | exact HI0.out), by repeat (first | (with_reducible first | exact HB.out | apply below_alloc | apply pw_below_drewN | apply below_drew1 | refine below_set ?_ (IsS36.ge HI0.out)) | exact HB.out), by repeat (first | (with_reducible first | exact HK.out | apply KeepBut.set_ | apply keep_drewN | apply keep_drew | apply keep_alloc) | exact HK.out)⟩

end Go.Proofs.Ytojpibpjieanhaa.X

-- Written by a program of this session out of the kit's print of the loaded functions: a plain function of a Go function, and its contract.
namespace Go.Proofs.Ytojpibpjieanhaa.X
open Go.RowKit Go.Proofs.YtojpibpjieanhaaW.PrintWords Go.Proofs.YtojpibpjieanhaaW.PrintLast Go.Proofs.YtojpibpjieanhaaW.PrintMore
attribute [local go_sem] max2_int min2_int max_two min_two max_three min_three max_four min_four   -- for this text's walks alone
set_option linter.unusedVariables false
set_option linter.unusedSimpArgs false

/-! ### impl_ValidFlow: function 23 -/
def impl_ValidFlow.f (k : Nat) (l0_0 : List Int) (l0_1 : List (S55)) : Option (Bool) := (impl_isFlow.f k l0_0 l0_1).bind fun t248 => (if t248 = true then ((impl_Flow_isOpen.f k l0_0 l0_1).bind fun t249 => (some t249)) else (some false))
theorem impl_ValidFlow.mono : ∀ a0 a1 k, LeO (impl_ValidFlow.f k a0 a1) (impl_ValidFlow.f (k + 1) a0 a1) := by
  intro a0 a1 k
  unfold impl_ValidFlow.f
  repeat' first
      | (with_reducible exact impl_Flow_isOpen.mono _ _ _)
      | (with_reducible exact impl_isFlow.mono _ _ _)
      | (with_reducible exact LeO.refl _)
      | (with_reducible exact LeO.none _)
      | (with_reducible refine LeO.ite ?_ ?_)
      | (with_reducible refine LeO.bind ?_ (fun _ => ?_))
      | exact impl_Flow_isOpen.mono _ _ _
      | exact impl_isFlow.mono _ _ _
      | exact LeO.none _
      | refine LeO.ite ?_ ?_
      | refine LeO.bind ?_ (fun _ => ?_)
set_option maxHeartbeats 8000000 in
set_option maxRecDepth 100000 in
theorem impl_ValidFlow.calls (k : Nat) (A0_0 : Option Addr) (c0_0 : Nat) (l0_0 : List Int) (A0_1 : Option Addr) (c0_1 : Nat) (l0_1 : List (S55)) (r : Bool) (w : World) (hr0_0 : Kd.C (Kd.int .i64) w A0_0 l0_0.length l0_0) (hc0_0 : l0_0.length ≤ c0_0) (hr0_1 : Kd.C k55 w A0_1 l0_1.length l0_1) (hc0_1 : l0_1.length ≤ c0_1) (h : impl_ValidFlow.f k l0_0 l0_1 = some r) :
    Calls Try.prog 23 #[.agg #[.slice A0_0 l0_0.length c0_0, .slice A0_1 l0_1.length c0_1]] w fun e w' => e = .returned (.bool r) ∧ Below w.heap.size w w' := by
  have hu36 := Try.underlying36
  have HR0_0 := Aside0.mk hr0_0
  have HC0_0 := Aside0.mk hc0_0
  clear hr0_0 hc0_0
  have HR0_1 := Aside0.mk hr0_1
  have HC0_1 := Aside0.mk hc0_1
  clear hr0_1 hc0_1
  have HB := Aside0.mk (Below.refl w.heap.size w)
  have H : ((impl_isFlow.f k l0_0 l0_1).bind fun t248 => (if t248 = true then ((impl_Flow_isOpen.f k l0_0 l0_1).bind fun t249 => (some t249)) else (some false))) = some r := h
  clear h
  replace H := Option.bind_eq_some_iff.mp H
  obtain ⟨t248, A20, H⟩ := H
  replace H : (if t248 = true then ((impl_Flow_isOpen.f k l0_0 l0_1).bind fun t249 => (some t249)) else (some false)) = some r := H
  have A2 := Aside0.mk A20
  clear A20
  by_cases c3 : t248 = true
  · subst c3
    have H1 : ((impl_Flow_isOpen.f k l0_0 l0_1).bind fun t249 => (some t249)) = some r := by rw [if_pos rfl] at H; exact H
    clear H
    have H := H1
    clear H1
    replace H := Option.bind_eq_some_iff.mp H
    obtain ⟨t249, A40, H⟩ := H
    replace H : (some t249) = some r := H
    have A4 := Aside0.mk A40
    clear A40
    obtain rfl := Option.some.inj H
    go_enter Try.func23, Try.ntmps23
    go_wp2_with (first | ((with_reducible refine gate_dst (N := 1) rfl ?_); refine box_event ?hg (N := 1) ?hd (cs := #[.slice A0_0 l0_0.length c0_0, .slice A0_1 l0_1.length c0_1]) (t := 36) ?hr ?_; (case hd => rfl); (case hg => rfl); (case hr => first | (go_simp; done) | (go_simp; rfl)); intro gb247 hg w5 hbox hb; have n0_ := Aside0.mk (below_step (by repeat (first | (with_reducible first | exact HB.out | apply below_alloc | apply pw_below_drewN | apply below_drew1) | exact HB.out)) hb); have n1_ := Aside0.mk (hbox); have n2_ := Aside0.mk ((by rw [hg]; exact (below_size (by repeat (first | (with_reducible first | exact HB.out | apply below_alloc | apply pw_below_drewN | apply below_drew1) | exact HB.out))) : w.heap.size ≤ gb247)); have n3_ := Aside0.mk ((by rw [hg]; exact (below_size (by repeat (first | (with_reducible first | exact HB.out | apply below_alloc | apply pw_below_drewN | apply below_drew1) | exact HB.out))) : w.heap.size ≤ gb247)); clear HB; have HB := n0_; have BK247 := n1_; have GW247 := n2_; have GE247 := n3_; clear n0_ n1_ n2_ n3_; clear hb hbox hg; have hcz6_0 : w5.cell? ⟨gb247, 0, none⟩ = some (.slice A0_0 l0_0.length c0_0) := (blk_cell BK247.out 0).trans rfl; have hcz6_1 : w5.cell? ⟨gb247, 1, none⟩ = some (.slice A0_1 l0_1.length c0_1) := (blk_cell BK247.out 1).trans rfl; have hfz6_0 := blk_frozen BK247.out 0; have hfz6_1 := blk_frozen BK247.out 1) | ((with_reducible refine gate_callee (f := 53) rfl ?_); refine goesL_ (some 4) rfl rfl Try.func53 (by kernel_rfl) rfl #[.agg #[.slice A0_0 l0_0.length c0_0, .slice A0_1 l0_1.length c0_1]] rfl (by (try simp only [List.map_toArray, List.map_cons, List.map_nil]); first | done | rfl | (simp only [List.length_drop, List.length_take]; rfl)) ?_; (with_reducible refine (impl_isFlow.calls k _ _ l0_0 _ _ l0_1 true _ ?side1 ?side2 ?side3 ?side4 A2.out).mono ?_); (case side1 => repeat (first | exact (Kd.C_below HR0_0.out HB.out) | (with_reducible refine Kd.C_alloc ?_ _) | (with_reducible refine Kd.C_drewN ?_ _) | (with_reducible refine Kd.C_drew ?_))); (case side2 => first | exact trivial | (exact HC0_0.out)); (case side3 => repeat (first | exact (Kd.C_below HR0_1.out HB.out) | (with_reducible refine Kd.C_alloc ?_ _) | (with_reducible refine Kd.C_drewN ?_ _) | (with_reducible refine Kd.C_drew ?_))); (case side4 => first | exact trivial | (exact HC0_1.out)); rintro e w7 ⟨rfl, hb⟩; refine ⟨_, rfl, ?_⟩; have n0_ := Aside0.mk (blk_below (g := gb247) (o := .cells #[.slice A0_0 l0_0.length c0_0, .slice A0_1 l0_1.length c0_1] 36 (0, 0)) (by (with_reducible repeat (first | refine blk_drewN ?_ _ | refine blk_drew ?_ | refine blk_alloc ?_ _)); exact BK247.out) hb); have n1_ := Aside0.mk (below_step (by repeat (first | (with_reducible first | exact HB.out | apply below_alloc | apply pw_below_drewN | apply below_drew1 | refine below_set ?_ GE247.out) | exact HB.out)) hb); clear BK247; clear HB; have BK247 := n0_; have HB := n1_; clear n0_ n1_; (try clear hb); (try clear hb2); (try clear hk); (try clear hi); have hcz8_0 : w7.cell? ⟨gb247, 0, none⟩ = some (.slice A0_0 l0_0.length c0_0) := (blk_cell BK247.out 0).trans rfl; have hcz8_1 : w7.cell? ⟨gb247, 1, none⟩ = some (.slice A0_1 l0_1.length c0_1) := (blk_cell BK247.out 1).trans rfl; have hfz8_0 := blk_frozen BK247.out 0; have hfz8_1 := blk_frozen BK247.out 1) | (go_at_call 54; (with_reducible refine (impl_Flow_isOpen.calls k _ _ l0_0 _ _ l0_1 t249 _ ?side1 ?side2 ?side3 ?side4 A4.out).mono ?_); (case side1 => repeat (first | exact (Kd.C_below HR0_0.out HB.out) | (with_reducible refine Kd.C_alloc ?_ _) | (with_reducible refine Kd.C_drewN ?_ _) | (with_reducible refine Kd.C_drew ?_))); (case side2 => first | exact trivial | (exact HC0_0.out)); (case side3 => repeat (first | exact (Kd.C_below HR0_1.out HB.out) | (with_reducible refine Kd.C_alloc ?_ _) | (with_reducible refine Kd.C_drewN ?_ _) | (with_reducible refine Kd.C_drew ?_))); (case side4 => first | exact trivial | (exact HC0_1.out)); rintro e w9 ⟨rfl, hb⟩; have n0_ := Aside0.mk (blk_below (g := gb247) (o := .cells #[.slice A0_0 l0_0.length c0_0, .slice A0_1 l0_1.length c0_1] 36 (0, 0)) (by (with_reducible repeat (first | refine blk_drewN ?_ _ | refine blk_drew ?_ | refine blk_alloc ?_ _)); exact BK247.out) hb); have n1_ := Aside0.mk (below_step (by repeat (first | (with_reducible first | exact HB.out | apply below_alloc | apply pw_below_drewN | apply below_drew1 | refine below_set ?_ GE247.out) | exact HB.out)) hb); clear BK247; clear HB; have BK247 := n0_; have HB := n1_; clear n0_ n1_; (try clear hb); (try clear hb2); (try clear hk); (try clear hi)))
    go_ret
    exact ⟨by first | rfl | (simp [errW_none, errW_some] <;> rfl) | (simp [*, errW_none, errW_some] <;> rfl), by repeat (first | (with_reducible first | exact HB.out | apply below_alloc | apply pw_below_drewN | apply below_drew1 | refine below_set ?_ GE247.out) | exact HB.out)⟩
  · replace c3 := Bool.eq_false_iff.mpr c3
    subst c3
    have H1 : (some false) = some r := by rw [if_neg (show ¬ (false = true) by decide)] at H; exact H
    clear H
    have H := H1
    clear H1
    obtain rfl := Option.some.inj H
    go_enter Try.func23, Try.ntmps23
    go_wp2_with (first | ((with_reducible refine gate_dst (N := 1) rfl ?_); refine box_event ?hg (N := 1) ?hd (cs := #[.slice A0_0 l0_0.length c0_0, .slice A0_1 l0_1.length c0_1]) (t := 36) ?hr ?_; (case hd => rfl); (case hg => rfl); (case hr => first | (go_simp; done) | (go_simp; rfl)); intro gb247 hg w10 hbox hb; have n0_ := Aside0.mk (below_step (by repeat (first | (with_reducible first | exact HB.out | apply below_alloc | apply pw_below_drewN | apply below_drew1) | exact HB.out)) hb); have n1_ := Aside0.mk (hbox); have n2_ := Aside0.mk ((by rw [hg]; exact (below_size (by repeat (first | (with_reducible first | exact HB.out | apply below_alloc | apply pw_below_drewN | apply below_drew1) | exact HB.out))) : w.heap.size ≤ gb247)); have n3_ := Aside0.mk ((by rw [hg]; exact (below_size (by repeat (first | (with_reducible first | exact HB.out | apply below_alloc | apply pw_below_drewN | apply below_drew1) | exact HB.out))) : w.heap.size ≤ gb247)); clear HB; have HB := n0_; have BK247 := n1_; have GW247 := n2_; have GE247 := n3_; clear n0_ n1_ n2_ n3_; clear hb hbox hg; have hcz11_0 : w10.cell? ⟨gb247, 0, none⟩ = some (.slice A0_0 l0_0.length c0_0) := (blk_cell BK247.out 0).trans rfl; have hcz11_1 : w10.cell? ⟨gb247, 1, none⟩ = some (.slice A0_1 l0_1.length c0_1) := (blk_cell BK247.out 1).trans rfl; have hfz11_0 := blk_frozen BK247.out 0; have hfz11_1 := blk_frozen BK247.out 1) | ((with_reducible refine gate_callee (f := 53) rfl ?_); refine goesL_ (some 4) rfl rfl Try.func53 (by kernel_rfl) rfl #[.agg #[.slice A0_0 l0_0.length c0_0, .slice A0_1 l0_1.length c0_1]] rfl (by (try simp only [List.map_toArray, List.map_cons, List.map_nil]); first | done | rfl | (simp only [List.length_drop, List.length_take]; rfl)) ?_; (with_reducible refine (impl_isFlow.calls k _ _ l0_0 _ _ l0_1 false _ ?side1 ?side2 ?side3 ?side4 A2.out).mono ?_); (case side1 => repeat (first | exact (Kd.C_below HR0_0.out HB.out) | (with_reducible refine Kd.C_alloc ?_ _) | (with_reducible refine Kd.C_drewN ?_ _) | (with_reducible refine Kd.C_drew ?_))); (case side2 => first | exact trivial | (exact HC0_0.out)); (case side3 => repeat (first | exact (Kd.C_below HR0_1.out HB.out) | (with_reducible refine Kd.C_alloc ?_ _) | (with_reducible refine Kd.C_drewN ?_ _) | (with_reducible refine Kd.C_drew ?_))); (case side4 => first | exact trivial | (exact HC0_1.out)); rintro e w12 ⟨rfl, hb⟩; refine ⟨_, rfl, ?_⟩; have n0_ := Aside0.mk (blk_below (g := gb247) (o := .cells #[.slice A0_0 l0_0.length c0_0, .slice A0_1 l0_1.length c0_1] 36 (0, 0)) (by (with_reducible repeat (first | refine blk_drewN ?_ _ | refine blk_drew ?_ | refine blk_alloc ?_ _)); exact BK247.out) hb); have n1_ := Aside0.mk (below_step (by repeat (first | (with_reducible first | exact HB.out | apply below_alloc | apply pw_below_drewN | apply below_drew1 | refine below_set ?_ GE247.out) | exact HB.out)) hb); clear BK247; clear HB; have BK247 := n0_; have HB := n1_; clear n0_ n1_; (try clear hb); (try clear hb2); (try clear hk); (try clear hi)))
    go_ret
    exact ⟨by first | rfl | (simp [errW_none, errW_some] <;> rfl) | (simp [*, errW_none, errW_some] <;> rfl), by repeat (first | (with_reducible first | exact HB.out | apply below_alloc | apply pw_below_drewN | apply below_drew1 | refine below_set ?_ GE247.out) | exact HB.out)⟩

end Go.Proofs.Ytojpibpjieanhaa.X

/- Valid flows: both ways tell the same. Conditions: as each lemma says. -/
namespace Go.Proofs.Ytojpibpjieanhaa.X
open Go.RowKit Go.Proofs.YtojpibpjieanhaaW.PrintWords Go.Proofs.YtojpibpjieanhaaW.PrintLast Go.Proofs.YtojpibpjieanhaaW.PrintMore Go.Proofs.Ytojpibpjieanhaa.FlowMath
set_option linter.unusedVariables false
set_option linter.unusedSimpArgs false
theorem idx_int [C_slices_IndexFunc_int64_int64] (l : List Int) (p : Int → Bool) (hp : ∀ x, x ∈ l → C_slices_IndexFunc_int64_int64.f x = some (p x)) (hl : l.length ≤ 1000) : ∀ (d i k : Nat), i + d = l.length → d < k →
    ∃ r, slices_IndexFunc_int64_int64.l0 k l (l.length : Int) (i : Int) = some r ∧ decide (r ≥ 0) = (l.drop i).any p
  | 0, i, k, hi, hk => by
    cases k with
    | zero => omega
    | succ k => exact ⟨-1, by rw [slices_IndexFunc_int64_int64.l0, if_neg (by omega)], by rw [List.drop_of_length_le (by omega)]; rfl⟩
  | d + 1, i, k, hi, hk => by
    cases k with
    | zero => omega
    | succ k =>
      have hlt : i < l.length := by omega
      rw [slices_IndexFunc_int64_int64.l0, if_pos (by omega), if_pos (by omega), if_pos (by omega), rd_at l i hlt, hp _ (List.getElem_mem hlt), Option.bind_some, List.drop_eq_getElem_cons hlt, List.any_cons]
      cases hb : p l[i] with
      | true => exact ⟨i, by rw [if_pos rfl], by simp⟩
      | false =>
        obtain ⟨r, h1, h2⟩ := idx_int l p hp hl d (i + 1) k (by omega) (by omega)
        refine ⟨r, ?_, by rw [h2]; simp⟩
        rw [if_neg (by decide), w64 (by omega) (by omega)]
        rw [Int.natCast_add, Int.natCast_one] at h1
        exact h1
theorem idx_wire [C_impl_Wire_102] (l : List S55) (p : S55 → Bool) (hp : ∀ w, w ∈ l → C_impl_Wire_102.f w.f0 w.f1 w.f2 = some (p w)) (hl : l.length ≤ 1000) : ∀ (d i k : Nat), i + d = l.length → d < k →
    ∃ r, impl_Wire_102.l0 k l (l.length : Int) (i : Int) = some r ∧ decide (r ≥ 0) = (l.drop i).any p
  | 0, i, k, hi, hk => by
    cases k with
    | zero => omega
    | succ k => exact ⟨-1, by rw [impl_Wire_102.l0, if_neg (by omega)], by rw [List.drop_of_length_le (by omega)]; rfl⟩
  | d + 1, i, k, hi, hk => by
    cases k with
    | zero => omega
    | succ k =>
      have hlt : i < l.length := by omega
      rw [impl_Wire_102.l0, if_pos (by omega), if_pos (by omega), if_pos (by omega), rdT_at l i hlt, hp _ (List.getElem_mem hlt), Option.bind_some, List.drop_eq_getElem_cons hlt, List.any_cons]
      cases hb : p l[i] with
      | true => exact ⟨i, by rw [if_pos rfl], by simp⟩
      | false =>
        obtain ⟨r, h1, h2⟩ := idx_wire l p hp hl d (i + 1) k (by omega) (by omega)
        refine ⟨r, ?_, by rw [h2]; simp⟩
        rw [if_neg (by decide), w64 (by omega) (by omega)]
        rw [Int.natCast_add, Int.natCast_one] at h1
        exact h1
def inB (a b c : Int) : Bool := decide (b ≤ a) && decide (a ≤ c)
theorem l00In_w (a b c : Int) : spec_l00In.f a b c = some (inB a b c) := by
  unfold spec_l00In.f inB; by_cases h : a ≥ b <;> simp [h] <;> omega
def formB (l0 : List Int) (ws : List S55) : Bool := decide (1 ≤ l0.length ∧ l0.length ≤ 8) && (decide (ws.length ≤ 16) && (!(l0.any fun d => !inB d 0 100) && !(ws.any fun w => badWire l0.length w.f0 w.f1 w.f2)))
theorem sform_wires (ws : List S55) (l0 : List Int) (n : Nat) (hn : 1 ≤ n) (hn8 : n ≤ 8) (hm : ws.length ≤ 16) : ∀ (d i k : Nat), i + d = ws.length → d < k → spec_l08Form.l1 k n i l0 ws = some (!((ws.drop i).any fun w => badWire n w.f0 w.f1 w.f2))
  | 0, i, k, hi, hk => by
    cases k with
    | zero => omega
    | succ k => rw [spec_l08Form.l1, if_neg (by omega), List.drop_of_length_le (by omega)]; rfl
  | d + 1, i, k, hi, hk => by
    cases k with
    | zero => omega
    | succ k =>
      have ih := sform_wires ws l0 n hn hn8 hm d (i + 1) k (by omega) (by omega)
      have hlt : i < ws.length := by omega
      rw [Int.natCast_add, Int.natCast_one] at ih
      rw [spec_l08Form.l1, if_pos (by omega), if_pos (by omega), rdT_at ws i hlt, w64 (n := (n : Int) - 1) (by omega) (by omega), w64 (n := (i : Int) + 1) (by omega) (by omega), l00In_w, l00In_w, l00In_w, ih, List.drop_eq_getElem_cons hlt, List.any_cons]
      simp only [Option.bind_some, badWire]
      cases h1 : inB ws[i].f0 0 ((n : Int) - 1) <;> cases h2 : inB ws[i].f1 0 ((n : Int) - 1) <;> cases h3 : inB ws[i].f2 0 20 <;> (unfold inB at h1 h2 h3; simp [h1, h2, h3])
theorem sform_delays (ws : List S55) (l0 : List Int) (hn : 1 ≤ l0.length) (hn8 : l0.length ≤ 8) (hm : ws.length ≤ 16) : ∀ (d i k : Nat), i + d = l0.length → d + 20 < k → spec_l08Form.l0 k (l0.length : Int) i l0 ws = some (!((l0.drop i).any fun d => !inB d 0 100) && !(ws.any fun w => badWire l0.length w.f0 w.f1 w.f2))
  | 0, i, k, hi, hk => by
    cases k with
    | zero => omega
    | succ k =>
      rw [spec_l08Form.l0, if_neg (by omega), List.drop_of_length_le (by omega)]
      have := sform_wires ws l0 l0.length hn hn8 hm ws.length 0 k (by omega) (by omega)
      rw [List.drop_zero] at this
      rw [show ((0 : Nat) : Int) = 0 from rfl] at this
      rw [this]; rfl
  | d + 1, i, k, hi, hk => by
    cases k with
    | zero => omega
    | succ k =>
      have ih := sform_delays ws l0 hn hn8 hm d (i + 1) k (by omega) (by omega)
      have hlt : i < l0.length := by omega
      rw [Int.natCast_add, Int.natCast_one] at ih
      rw [spec_l08Form.l0, if_pos (by omega), if_pos (by omega), rd_at l0 i hlt, w64 (n := (i : Int) + 1) (by omega) (by omega), l00In_w, Option.bind_some, ih, List.drop_eq_getElem_cons hlt, List.any_cons]
      cases h1 : inB l0[i] 0 100 <;> simp
theorem sform_eq (k : Nat) (l0 : List Int) (ws : List S55) (h0 : l0.length ≤ 9223372036854775807) (h1 : ws.length ≤ 9223372036854775807) (hk : 100 < k) : spec_l08Form.f k l0 ws = some (formB l0 ws) := by
  unfold spec_l08Form.f formB
  rw [l00In_w, Option.bind_some]
  cases k with
  | zero => omega
  | succ k =>
    by_cases hn : 1 ≤ l0.length ∧ l0.length ≤ 8
    · have e1 : inB (l0.length : Int) 1 8 = true := by unfold inB; simp; omega
      rw [e1, if_pos rfl, decide_eq_true hn]
      by_cases hm : ws.length ≤ 16
      · have e2 : decide ((ws.length : Int) > 16) = false := decide_eq_false (by omega)
        rw [e2, spec_l08Form.j0, if_neg (by decide), decide_eq_true hm]
        have := sform_delays ws l0 hn.1 hn.2 hm l0.length 0 k (by omega) (by omega)
        rw [List.drop_zero] at this
        rw [show ((0 : Nat) : Int) = 0 from rfl] at this
        rw [this]; rfl
      · have e2 : decide ((ws.length : Int) > 16) = true := decide_eq_true (by omega)
        rw [e2, spec_l08Form.j0, if_pos rfl, decide_eq_false hm]; rfl
    · have e1 : inB (l0.length : Int) 1 8 = false := by unfold inB; simp; omega
      rw [e1, if_neg (by decide), spec_l08Form.j0, if_pos rfl, decide_eq_false hn]; rfl
theorem isDelay_w (d : Int) : impl_isDelay.f d = some (inB d 0 100) := by unfold impl_isDelay.f inB; rw [within_w]; rfl
theorem iform_eq (k : Nat) (l0 : List Int) (ws : List S55) (hk : 100 < k) : impl_isFlow.f k l0 ws = some (formB l0 ws) := by
  unfold impl_isFlow.f formB
  by_cases hn : 1 ≤ l0.length ∧ l0.length ≤ 8
  · have hn' : 1 ≤ (l0.length : Int) ∧ (l0.length : Int) ≤ 8 := by omega
    rw [if_pos hn', decide_eq_true hn]
    by_cases hm : ws.length ≤ 16
    · rw [if_neg (by omega), decide_eq_true hm]
      obtain ⟨r, h1, h2⟩ := @idx_int isDelC l0 (fun d => !inB d 0 100) (fun x _ => by show (impl_isDelay.f x).bind _ = _; rw [isDelay_w]; rfl) (by omega) l0.length 0 k (by omega) (by omega)
      obtain ⟨q, h3, h4⟩ := @idx_wire (wireC l0.length) ws (fun w => badWire l0.length w.f0 w.f1 w.f2) (fun w _ => rfl) (by omega) ws.length 0 k (by omega) (by omega)
      rw [List.drop_zero] at h2 h4
      unfold slices_IndexFunc_int64_int64.f impl_Wire_102.f
      rw [show ((0 : Nat) : Int) = 0 from rfl] at h1 h3
      rw [h1, h3, Option.bind_some, Option.bind_some, ← h2, ← h4]
      by_cases hr : r ≥ 0
      · simp [hr]
      · simp [hr]
    · rw [if_pos (by omega), decide_eq_false hm]; rfl
  · rw [if_neg (by omega), decide_eq_false hn]; rfl
theorem form_ok {l0 : List Int} {ws : List S55} (h : formB l0 ws = true) : (1 ≤ l0.length ∧ l0.length ≤ 8) ∧ ws.length ≤ 16 ∧ (∀ d, d ∈ l0 → 0 ≤ d ∧ d ≤ 100) ∧ ∀ w, w ∈ ws → WireOk l0.length w := by
  unfold formB at h
  simp only [Bool.and_eq_true, decide_eq_true_eq, Bool.not_eq_true', List.any_eq_false, inB, badWire] at h
  obtain ⟨h1, h2, h3, h4⟩ := h
  refine ⟨h1, h2, fun d hd => ?_, fun w hw => ?_⟩
  · have := h3 d hd; simp at this; exact this
  · have := h4 w hw
    simp at this
    unfold WireOk
    omega
end Go.Proofs.Ytojpibpjieanhaa.X

/- No ring without registers: both ways tell the same. Conditions: as each lemma says. -/
namespace Go.Proofs.Ytojpibpjieanhaa.X
open Go.RowKit Go.Proofs.YtojpibpjieanhaaW.PrintWords Go.Proofs.YtojpibpjieanhaaW.PrintLast Go.Proofs.YtojpibpjieanhaaW.PrintMore Go.Proofs.Ytojpibpjieanhaa.FlowMath
set_option linter.unusedVariables false
set_option linter.unusedSimpArgs false
def led (L : List Bool) (i : Nat) (w : S55) : Bool := (w.f2 == 0) && ((w.f1 == (i : Int)) && L.getD w.f0.toNat false)
def kStep (ws : List S55) (i : Nat) (L : List Bool) : List Bool := L.set i (L.getD i false && ws.any (led L i))
def kRound (ws : List S55) : Nat → List Bool → List Bool
  | 0, L => L
  | i + 1, L => kStep ws i (kRound ws i L)
def kRounds (ws : List S55) (n : Nat) : Nat → List Bool
  | 0 => List.replicate n true
  | m + 1 => kRound ws n (kRounds ws n m)
theorem kRound_len (ws : List S55) : ∀ (i : Nat) (L : List Bool), (kRound ws i L).length = L.length
  | 0, _ => rfl
  | i + 1, L => by rw [kRound, kStep, List.length_set, kRound_len ws i L]
theorem kRounds_len (ws : List S55) (n : Nat) : ∀ m, (kRounds ws n m).length = n
  | 0 => by simp [kRounds]
  | m + 1 => by rw [kRounds, kRound_len, kRounds_len ws n m]
theorem openStep_eq (k : Nat) (ws : List S55) (n i : Nat) (L : List Bool) (hL : L.length = n) (hm : ws.length ≤ 16) (hw : ∀ w, w ∈ ws → WireOk n w) (hk : 100 < k) : openStep k ws i L = some (kStep ws i L) := by
  unfold openStep kStep
  obtain ⟨r, h1, h2⟩ := @idx_wire (leadC L i) ws (led L i) (fun w hw' => by
    show leads L i w.f0 w.f1 w.f2 = some (led L i w)
    obtain ⟨o1, o2, o3, o4, o5, o6⟩ := hw w hw'
    unfold leads led
    cases h1 : (w.f2 == 0)
    · simp
    · cases h2 : (w.f1 == (i : Int))
      · simp
      · rw [if_pos rfl, if_pos rfl, if_pos (by omega)]; rfl) (by omega) ws.length 0 k (by omega) (by omega)
  rw [List.drop_zero] at h2
  rw [show ((0 : Nat) : Int) = 0 from rfl] at h1
  unfold impl_Wire_102.f
  rw [h1, Option.bind_some, h2]
theorem openRound_eq (k : Nat) (ws : List S55) (n : Nat) (hm : ws.length ≤ 16) (hw : ∀ w, w ∈ ws → WireOk n w) (hk : 100 < k) : ∀ (i : Nat) (L : List Bool), L.length = n → openRound k ws i L = some (kRound ws i L)
  | 0, _, _ => rfl
  | i + 1, L, hL => by
    rw [openRound, openRound_eq k ws n hm hw hk i L hL, Option.bind_some, openStep_eq k ws n i _ (by rw [kRound_len]; exact hL) hm hw hk]; rfl
theorem openRounds_eq (k : Nat) (ws : List S55) (n : Nat) (hm : ws.length ≤ 16) (hw : ∀ w, w ∈ ws → WireOk n w) (hk : 100 < k) : ∀ (m : Nat), openRounds k ws n m = some (kRounds ws n m)
  | 0 => rfl
  | m + 1 => by rw [openRounds, openRounds_eq k ws n hm hw hk m, Option.bind_some, openRound_eq k ws n hm hw hk n _ (kRounds_len ws n m)]; rfl
/-- A vertex that is left. -/
def Left (L : List Bool) (v : Nat) : Prop := L.getD v false = true
theorem getD_set (L : List Bool) (i v : Nat) (b : Bool) (hi : i < L.length) : (L.set i b).getD v false = if v = i then b else L.getD v false := by
  rw [List.getD_eq_getElem?_getD, List.getD_eq_getElem?_getD, List.getElem?_set]
  by_cases e : i = v
  · subst e; simp [hi]
  · rw [if_neg e, if_neg (fun h => e h.symm)]
theorem led_edge {ws : List S55} {n : Nat} (hw : ∀ w, w ∈ ws → WireOk n w) {L : List Bool} {i : Nat} : ws.any (led L i) = true ↔ ∃ u, Edge ws u i ∧ Left L u := by
  rw [List.any_eq_true]
  constructor
  · rintro ⟨w, h1, h2⟩
    unfold led at h2
    simp only [Bool.and_eq_true, beq_iff_eq] at h2
    obtain ⟨o1, _⟩ := hw w h1
    exact ⟨w.f0.toNat, ⟨w, h1, h2.1, by omega, h2.2.1⟩, h2.2.2⟩
  · rintro ⟨u, ⟨w, h1, h2, h3, h4⟩, h5⟩
    refine ⟨w, h1, ?_⟩
    unfold led
    simp only [Bool.and_eq_true, beq_iff_eq]
    refine ⟨h2, h4, ?_⟩
    rw [h3, Int.toNat_natCast]; exact h5
theorem round_sub (ws : List S55) (L : List Bool) : ∀ (i v : Nat), i ≤ L.length → Left (kRound ws i L) v → Left L v
  | 0, _, _, h => h
  | i + 1, v, hi, h => by
    have hi' : i < (kRound ws i L).length := by rw [kRound_len]; omega
    unfold Left at h
    rw [kRound, kStep, getD_set _ _ _ _ hi'] at h
    by_cases e : v = i
    · rw [if_pos e, Bool.and_eq_true] at h
      subst e
      exact round_sub ws L v v (by omega) h.1
    · rw [if_neg e] at h
      exact round_sub ws L i v (by omega) h
theorem round_led (ws : List S55) (n : Nat) (hw : ∀ w, w ∈ ws → WireOk n w) (L : List Bool) : ∀ (i v : Nat), i ≤ L.length → v < i → Left (kRound ws i L) v → ∃ u, Left L u ∧ Edge ws u v
  | 0, _, _, h, _ => absurd h (Nat.not_lt_zero _)
  | i + 1, v, hi, hv, h => by
    have hi' : i < (kRound ws i L).length := by rw [kRound_len]; omega
    unfold Left at h
    rw [kRound, kStep, getD_set _ _ _ _ hi'] at h
    by_cases e : v = i
    · rw [if_pos e, Bool.and_eq_true] at h
      obtain ⟨u, h1, h2⟩ := (led_edge hw).1 h.2
      subst e
      exact ⟨u, round_sub ws L v u (by omega) h2, h1⟩
    · rw [if_neg e] at h
      exact round_led ws n hw L i v (by omega) (by omega) h
theorem round_keep (ws : List S55) (n : Nat) (hw : ∀ w, w ∈ ws → WireOk n w) (L : List Bool) (C : Nat → Prop) (hC : ∀ v, C v → Left L v) (hp : ∀ v, C v → ∃ u, C u ∧ Edge ws u v) : ∀ (i v : Nat), i ≤ L.length → C v → Left (kRound ws i L) v
  | 0, v, _, h => hC v h
  | i + 1, v, hi, h => by
    have hi' : i < (kRound ws i L).length := by rw [kRound_len]; omega
    have ih := round_keep ws n hw L C hC hp i
    unfold Left
    rw [kRound, kStep, getD_set _ _ _ _ hi']
    by_cases e : v = i
    · rw [if_pos e, Bool.and_eq_true]
      subst e
      obtain ⟨u, h1, h2⟩ := hp v h
      exact ⟨ih v (by omega) h, (led_edge hw).2 ⟨u, h2, ih u (by omega) h1⟩⟩
    · rw [if_neg e]
      exact ih v (by omega) h
theorem left_lt {L : List Bool} {v : Nat} (h : Left L v) : v < L.length := by
  unfold Left at h
  rw [List.getD_eq_getElem?_getD] at h
  rcases Nat.lt_or_ge v L.length with h' | h'
  · exact h'
  · rw [List.getElem?_eq_none h'] at h; simp at h
theorem kahn_ws (ws : List S55) (n : Nat) (hw : ∀ w, w ∈ ws → WireOk n w) : (∃ v, Left (kRounds ws n n) v) ↔ ∃ v, Plus (Edge ws) v v := by
  refine kahn (Edge ws) n (fun a b h => h.lt hw) (fun m v => Left (kRounds ws n m) v) (fun v hv => ?_) (fun m v h => ?_) (fun m v h => ?_) (fun m v h => ?_) (fun m C hC hp v hv => ?_)
  · show (List.replicate n true).getD v false = true
    rw [List.getD_eq_getElem?_getD, List.getElem?_replicate, if_pos hv]; rfl
  · have := left_lt h; rw [kRounds_len] at this; exact this
  · exact round_sub ws _ n v (by rw [kRounds_len]; exact Nat.le_refl _) h
  · have hv := left_lt h
    rw [kRounds_len] at hv
    exact round_led ws n hw _ n v (by rw [kRounds_len]; exact Nat.le_refl _) hv h
  · exact round_keep ws n hw _ C hC hp n v (by rw [kRounds_len]; exact Nat.le_refl _) hv
theorem has_true (l : List Bool) (hl : l.length ≤ 1000) : ∀ (d i k : Nat), i + d = l.length → d < k → ∃ r, slices_Index_bool_bool.l0 k l true (l.length : Int) (i : Int) = some r ∧ decide (r ≥ 0) = (l.drop i).any id
  | 0, i, k, hi, hk => by
    cases k with
    | zero => omega
    | succ k => exact ⟨-1, by rw [slices_Index_bool_bool.l0, if_neg (by omega)], by rw [List.drop_of_length_le (by omega)]; rfl⟩
  | d + 1, i, k, hi, hk => by
    cases k with
    | zero => omega
    | succ k =>
      have hlt : i < l.length := by omega
      obtain ⟨r, h1, h2⟩ := has_true l hl d (i + 1) k (by omega) (by omega)
      rw [Int.natCast_add, Int.natCast_one] at h1
      have hrd : rdOf false l (i : Int) = l[i] := by unfold rdOf; simp [hlt]
      rw [slices_Index_bool_bool.l0, if_pos (by omega), if_pos (by omega), if_pos (by omega), hrd, List.drop_eq_getElem_cons hlt, List.any_cons]
      cases hb : l[i] with
      | true => exact ⟨i, by rw [if_pos (by rfl)], by simp⟩
      | false =>
        refine ⟨r, ?_, by rw [h2]; simp⟩
        rw [if_neg (by decide), w64 (by omega) (by omega)]
        exact h1
theorem isOpen_eq (k : Nat) (l0 : List Int) (ws : List S55) (hn : l0.length ≤ 8) (hm : ws.length ≤ 16) (hw : ∀ w, w ∈ ws → WireOk l0.length w) (hk : 100 < k) : impl_Flow_isOpen.f k l0 ws = some (open Classical in !decide (∃ v, Plus (Edge ws) v v)) := by
  unfold impl_Flow_isOpen.f
  rw [if_pos (by omega), openRounds_eq k ws l0.length hm hw hk, Option.bind_some]
  obtain ⟨r, h1, h2⟩ := has_true (kRounds ws l0.length l0.length) (by rw [kRounds_len]; omega) (kRounds ws l0.length l0.length).length 0 k (by omega) (by rw [kRounds_len]; omega)
  unfold slices_Contains_bool_bool.f slices_Index_bool_bool.f
  rw [show ((0 : Nat) : Int) = 0 from rfl] at h1
  rw [h1, Option.bind_some, Option.bind_some, h2, List.drop_zero]
  congr 2
  have key := kahn_ws ws l0.length hw
  have : (kRounds ws l0.length l0.length).any id = true ↔ ∃ v, Left (kRounds ws l0.length l0.length) v := by
    rw [List.any_eq_true]
    constructor
    · rintro ⟨b, hb, hb2⟩
      obtain ⟨v, hv, rfl⟩ := List.mem_iff_getElem.mp hb
      refine ⟨v, ?_⟩
      unfold Left
      rw [List.getD_eq_getElem?_getD, List.getElem?_eq_getElem hv]; exact hb2
    · rintro ⟨v, hv⟩
      have hl := left_lt hv
      unfold Left at hv
      rw [List.getD_eq_getElem?_getD, List.getElem?_eq_getElem hl] at hv
      exact ⟨_, List.getElem_mem hl, hv⟩
  rw [Bool.eq_iff_iff, this, key, @decide_eq_true_iff _ (Classical.propDecidable _)]
theorem is_loop (k0 : Nat) (l0 : List Int) (ws : List S55) (hn : l0.length ≤ 8) (hm : ws.length ≤ 16) (hw : ∀ w, w ∈ ws → WireOk l0.length w) : ∀ (d i k : Nat), i + d = l0.length → d + 1001 < k →
    ((∃ v, i ≤ v ∧ v < l0.length ∧ ringB ws v = true) → spec_l08Is.l0 k i l0 ws = some false) ∧ ((∀ v, i ≤ v → v < l0.length → ringB ws v = false) → spec_l08Is.l0 k i l0 ws = some true)
  | 0, i, k, hi, hk => by
    cases k with
    | zero => omega
    | succ k =>
      rw [spec_l08Is.l0, if_neg (by omega)]
      exact ⟨fun ⟨v, h1, h2, _⟩ => by omega, fun _ => rfl⟩
  | d + 1, i, k, hi, hk => by
    cases k with
    | zero => omega
    | succ k =>
      obtain ⟨ih1, ih2⟩ := is_loop k0 l0 ws hn hm hw d (i + 1) k (by omega) (by omega)
      rw [Int.natCast_add, Int.natCast_one] at ih1 ih2
      rw [spec_l08Is.l0, if_pos (by omega), open_eq ws l0 l0.length i (by omega) hn hm hw k (by omega), Option.bind_some, w64 (by omega) (by omega)]
      cases hb : ringB ws i with
      | true => exact ⟨fun _ => by rw [if_pos rfl], fun h => by have := h i (by omega) (by omega); rw [hb] at this; simp at this⟩
      | false =>
        refine ⟨fun ⟨v, h1, h2, h3⟩ => ?_, fun h => ?_⟩
        · rw [if_neg (by decide)]
          refine ih1 ⟨v, ?_, h2, h3⟩
          by_cases e : v = i
          · subst e; rw [hb] at h3; simp at h3
          · omega
        · rw [if_neg (by decide)]
          exact ih2 fun v h1 h2 => h v (by omega) h2
noncomputable def validB (l0 : List Int) (ws : List S55) : Bool := formB l0 ws && (open Classical in !decide (∃ v, Plus (Edge ws) v v))
theorem spec_is (k : Nat) (l0 : List Int) (ws : List S55) (h0 : l0.length ≤ 9223372036854775807) (h1 : ws.length ≤ 9223372036854775807) (hk : 2000 < k) : spec_l08Is.f k l0 ws = some (validB l0 ws) := by
  unfold spec_l08Is.f validB
  rw [sform_eq k l0 ws h0 h1 (by omega), Option.bind_some]
  cases hf : formB l0 ws with
  | false => rfl
  | true =>
    obtain ⟨hn, hm, _, hw⟩ := form_ok hf
    rw [if_pos rfl, Bool.true_and]
    obtain ⟨i1, i2⟩ := is_loop k l0 ws hn.2 hm hw l0.length 0 k (by omega) (by omega)
    rw [show ((0 : Nat) : Int) = 0 from rfl] at i1 i2
    by_cases hr : ∃ v, Plus (Edge ws) v v
    · obtain ⟨v, hv⟩ := hr
      obtain ⟨u, _, hu⟩ := ring_back hv
      rw [i1 ⟨v, Nat.zero_le _, (hu.lt hw).2, ringB_true hv⟩, @decide_eq_true _ (Classical.propDecidable _) ⟨v, hv⟩]; rfl
    · rw [i2 fun v _ _ => ringB_false fun h => hr ⟨v, h⟩, @decide_eq_false _ (Classical.propDecidable _) hr]; rfl
theorem impl_valid (k : Nat) (l0 : List Int) (ws : List S55) (hk : 2000 < k) : impl_ValidFlow.f k l0 ws = some (validB l0 ws) := by
  unfold impl_ValidFlow.f validB
  rw [iform_eq k l0 ws (by omega), Option.bind_some]
  cases hf : formB l0 ws with
  | false => rfl
  | true =>
    obtain ⟨hn, hm, _, hw⟩ := form_ok hf
    rw [if_pos rfl, isOpen_eq k l0 ws hn.2 hm hw (by omega)]; rfl
end Go.Proofs.Ytojpibpjieanhaa.X

-- Written by a program of this session out of the kit's print of the loaded functions: a plain function of a Go function, and its contract.
namespace Go.Proofs.Ytojpibpjieanhaa.X
open Go.RowKit Go.Proofs.YtojpibpjieanhaaW.PrintWords Go.Proofs.YtojpibpjieanhaaW.PrintLast Go.Proofs.YtojpibpjieanhaaW.PrintMore
attribute [local go_sem] max2_int min2_int max_two min_two max_three min_three max_four min_four   -- for this text's walks alone
set_option linter.unusedVariables false
set_option linter.unusedSimpArgs false

/-! ### laws_szInt64S: function 49 -/
def laws_szInt64S.f (l0 : List Int) (a1 : Int) : Option (Int) := if (wrap64 (a1 - (l0.length : Int))) < 0 then (some (-1)) else (some (wrap64 (a1 - (l0.length : Int))))
set_option maxHeartbeats 8000000 in
set_option maxRecDepth 100000 in
theorem laws_szInt64S.calls (A0 : Option Addr) (c0 : Nat) (l0 : List Int) (a1 : Int) (r : Int) (w : World) (hr0 : Kd.C (Kd.int .i64) w A0 l0.length l0) (hc0 : l0.length ≤ c0) (h : laws_szInt64S.f l0 a1 = some r) :
    Calls Try.prog 49 #[.slice A0 l0.length c0, .int .i64 a1] w fun e w' => e = .returned (.int .i64 r) ∧ Drawn0 w w' := by
  have HR0 := Aside0.mk hr0
  have HC0 := Aside0.mk hc0
  clear hr0 hc0
  have H : (if (wrap64 (a1 - (l0.length : Int))) < 0 then (some (-1)) else (some (wrap64 (a1 - (l0.length : Int))))) = some r := h
  clear h
  by_cases c3 : (wrap64 (a1 - (l0.length : Int))) < 0
  · rw [if_pos c3] at H
    have c3b0 : decide ((wrap64 (a1 - (l0.length : Int))) < 0) = true := decide_eq_true c3
    clear c3
    obtain rfl := Option.some.inj H
    go_enter Try.func49, Try.ntmps49
    go_wp2
    go_ret
    exact ⟨by first | rfl | (simp; done) | (simp [*]; done), by repeat (first | exact Drawn0.refl _ | apply Drawn0.step)⟩
  · rw [if_neg c3] at H
    have c3b0 : decide ((wrap64 (a1 - (l0.length : Int))) < 0) = false := decide_eq_false c3
    clear c3
    obtain rfl := Option.some.inj H
    go_enter Try.func49, Try.ntmps49
    go_wp2
    go_ret
    exact ⟨by first | rfl | (simp; done) | (simp [*]; done), by repeat (first | exact Drawn0.refl _ | apply Drawn0.step)⟩

end Go.Proofs.Ytojpibpjieanhaa.X

-- Written by a program of this session out of the kit's print of the loaded functions: a plain function of a Go function, and its contract.
namespace Go.Proofs.Ytojpibpjieanhaa.X
open Go.RowKit Go.Proofs.YtojpibpjieanhaaW.PrintWords Go.Proofs.YtojpibpjieanhaaW.PrintLast Go.Proofs.YtojpibpjieanhaaW.PrintMore
attribute [local go_sem] max2_int min2_int max_two min_two max_three min_three max_four min_four   -- for this text's walks alone
set_option linter.unusedVariables false
set_option linter.unusedSimpArgs false

/-! ### laws_szWireS: function 50 -/
def laws_szWireS.f (l0 : List (S96)) (a1 : Int) : Option (Int) := if (wrap64 (a1 - (l0.length : Int))) < 0 then (some (-1)) else (some (wrap64 (a1 - (l0.length : Int))))
set_option maxHeartbeats 8000000 in
set_option maxRecDepth 100000 in
theorem laws_szWireS.calls (A0 : Option Addr) (c0 : Nat) (l0 : List (S96)) (a1 : Int) (r : Int) (w : World) (hr0 : Kd.C k96 w A0 l0.length l0) (hc0 : l0.length ≤ c0) (h : laws_szWireS.f l0 a1 = some r) :
    Calls Try.prog 50 #[.slice A0 l0.length c0, .int .i64 a1] w fun e w' => e = .returned (.int .i64 r) ∧ Drawn0 w w' := by
  have HR0 := Aside0.mk hr0
  have HC0 := Aside0.mk hc0
  clear hr0 hc0
  have H : (if (wrap64 (a1 - (l0.length : Int))) < 0 then (some (-1)) else (some (wrap64 (a1 - (l0.length : Int))))) = some r := h
  clear h
  by_cases c3 : (wrap64 (a1 - (l0.length : Int))) < 0
  · rw [if_pos c3] at H
    have c3b0 : decide ((wrap64 (a1 - (l0.length : Int))) < 0) = true := decide_eq_true c3
    clear c3
    obtain rfl := Option.some.inj H
    go_enter Try.func50, Try.ntmps50
    go_wp2
    go_ret
    exact ⟨by first | rfl | (simp; done) | (simp [*]; done), by repeat (first | exact Drawn0.refl _ | apply Drawn0.step)⟩
  · rw [if_neg c3] at H
    have c3b0 : decide ((wrap64 (a1 - (l0.length : Int))) < 0) = false := decide_eq_false c3
    clear c3
    obtain rfl := Option.some.inj H
    go_enter Try.func50, Try.ntmps50
    go_wp2
    go_ret
    exact ⟨by first | rfl | (simp; done) | (simp [*]; done), by repeat (first | exact Drawn0.refl _ | apply Drawn0.step)⟩

end Go.Proofs.Ytojpibpjieanhaa.X

