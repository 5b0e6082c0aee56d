/- My own texts of this seat, merged: XSample, Xp3, CGcd, CTimes, CSample. Conditions: as each lemma says. -/
import Derived.Test.YtcpfkfaiakpfjaaG2
import Derived.RegionTactic
import Derived.BigRegion
import Derived.Test.YtcpfkfaiakpfjaaG0
import Derived.Laws.BitsLemmas
/- The program's SampleUps: what it answers. Conditions: none. -/
namespace Go.Proofs.Ytcpfkfaiakpfjaa.X
open Go.RowKit Go.Proofs.YtcpfkfaiakpfjaaW.PrintWords Go.Proofs.YtcpfkfaiakpfjaaW.PrintLast Go.Proofs.YtcpfkfaiakpfjaaW.PrintMore
set_option linter.unusedVariables false
set_option linter.unusedSimpArgs false
set_option maxHeartbeats 4000000 in
set_option maxRecDepth 100000 in
theorem SampleUps_no1 (k : Nat) (p0 p1 q0 q1 n : Int) (w : World) (h1 : impl_isSmallFraction.f k p0 p1 = some false) :
    Calls Try.prog 6 #[.agg #[.int .i64 p0, .int .i64 p1], .agg #[.int .i64 q0, .int .i64 q1], .int .i64 n] w fun e w' => e = .returned (.tuple #[.string ⟨#[]⟩, .bool false]) ∧ Below w.heap.size w w' := by
  have Hh1 := Aside0.mk h1
  clear h1
  have HB := Aside0.mk (Below.refl w.heap.size w)
  go_enter Try.func6, Try.ntmps6
  go_wp2_with (first
    | ((with_reducible refine gate_dst (N := 3) rfl ?_); refine box_event ?hg (N := 3) ?hd (cs := #[.int .i64 p0, .int .i64 p1]) (t := 26) ?hr ?_; (case hd => rfl); (case hg => rfl); (case hr => first | (go_simp; done) | (go_simp; rfl)); intro g3 hg wn hbox hb; have GE3 := Aside0.mk (by rw [hg]; exact below_size HB.out : w.heap.size ≤ g3); clear hg; have BK30 := Aside0.mk hbox; clear hbox; have n0_ := Aside0.mk (below_step HB.out hb); clear HB  hb; have HB := n0_; clear n0_ ; have BK3 := BK30; clear BK30; have c3_0 : wn.cell? ⟨g3, 0, none⟩ = some (.int .i64 p0) := (blk_cell BK3.out 0).trans rfl; have c3_1 : wn.cell? ⟨g3, 1, none⟩ = some (.int .i64 p1) := (blk_cell BK3.out 1).trans rfl)
    | ((with_reducible refine gate_dst (N := 4) rfl ?_); refine box_event ?hg (N := 4) ?hd (cs := #[.int .i64 q0, .int .i64 q1]) (t := 26) ?hr ?_; (case hd => rfl); (case hg => rfl); (case hr => first | (go_simp; done) | (go_simp; rfl)); intro g4 hg wn hbox hb; have GE4 := Aside0.mk (by rw [hg]; exact below_size HB.out : w.heap.size ≤ g4); have NE3_4 := Aside0.mk (show g3 ≠ g4 by have := blk_lt BK3.out; omega); clear hg; have BK40 := Aside0.mk hbox; clear hbox; have n0_ := Aside0.mk (below_step HB.out hb); have m3_ := Aside0.mk (blk_below BK3.out hb); clear HB BK3 hb; have HB := n0_; have BK3 := m3_; clear n0_ m3_; have c3_0 : wn.cell? ⟨g3, 0, none⟩ = some (.int .i64 p0) := (blk_cell BK3.out 0).trans rfl; have c3_1 : wn.cell? ⟨g3, 1, none⟩ = some (.int .i64 p1) := (blk_cell BK3.out 1).trans rfl; have BK4 := BK40; clear BK40; have c4_0 : wn.cell? ⟨g4, 0, none⟩ = some (.int .i64 q0) := (blk_cell BK4.out 0).trans rfl; have c4_1 : wn.cell? ⟨g4, 1, none⟩ = some (.int .i64 q1) := (blk_cell BK4.out 1).trans rfl)
    | (go_at_call 10; (with_reducible refine (impl_isSmallFraction.calls k p0 p1 false _ Hh1.out).mono ?_); rintro e wn ⟨rfl, hb0⟩; (first | have hb := to_below_d hb0 | have hb := to_below_b hb0); clear hb0; have n0_ := Aside0.mk (below_step HB.out hb); have m3_ := Aside0.mk (blk_below BK3.out hb); have m4_ := Aside0.mk (blk_below BK4.out hb); clear HB BK3 BK4 hb; have HB := n0_; have BK3 := m3_; have BK4 := m4_; clear n0_ m3_ m4_; have c3_0 : wn.cell? ⟨g3, 0, none⟩ = some (.int .i64 p0) := (blk_cell BK3.out 0).trans rfl; have c3_1 : wn.cell? ⟨g3, 1, none⟩ = some (.int .i64 p1) := (blk_cell BK3.out 1).trans rfl; have c4_0 : wn.cell? ⟨g4, 0, none⟩ = some (.int .i64 q0) := (blk_cell BK4.out 0).trans rfl; have c4_1 : wn.cell? ⟨g4, 1, none⟩ = some (.int .i64 q1) := (blk_cell BK4.out 1).trans rfl))
  go_ret2
  exact ⟨rfl, HB.out⟩
set_option maxHeartbeats 4000000 in
set_option maxRecDepth 100000 in
theorem SampleUps_no2 (k : Nat) (p0 p1 q0 q1 n : Int) (w : World) (h1 : impl_isSmallFraction.f k p0 p1 = some true) (h2 : impl_isSmallFraction.f k q0 q1 = some false) :
    Calls Try.prog 6 #[.agg #[.int .i64 p0, .int .i64 p1], .agg #[.int .i64 q0, .int .i64 q1], .int .i64 n] w fun e w' => e = .returned (.tuple #[.string ⟨#[]⟩, .bool false]) ∧ Below w.heap.size w w' := by
  have Hh1 := Aside0.mk h1
  have Hh2 := Aside0.mk h2
  clear h1 h2
  have HB := Aside0.mk (Below.refl w.heap.size w)
  go_enter Try.func6, Try.ntmps6
  go_wp2_with (first
    | ((with_reducible refine gate_dst (N := 3) rfl ?_); refine box_event ?hg (N := 3) ?hd (cs := #[.int .i64 p0, .int .i64 p1]) (t := 26) ?hr ?_; (case hd => rfl); (case hg => rfl); (case hr => first | (go_simp; done) | (go_simp; rfl)); intro g3 hg wn hbox hb; have GE3 := Aside0.mk (by rw [hg]; exact below_size HB.out : w.heap.size ≤ g3); clear hg; have BK30 := Aside0.mk hbox; clear hbox; have n0_ := Aside0.mk (below_step HB.out hb); clear HB  hb; have HB := n0_; clear n0_ ; have BK3 := BK30; clear BK30; have c3_0 : wn.cell? ⟨g3, 0, none⟩ = some (.int .i64 p0) := (blk_cell BK3.out 0).trans rfl; have c3_1 : wn.cell? ⟨g3, 1, none⟩ = some (.int .i64 p1) := (blk_cell BK3.out 1).trans rfl)
    | ((with_reducible refine gate_dst (N := 4) rfl ?_); refine box_event ?hg (N := 4) ?hd (cs := #[.int .i64 q0, .int .i64 q1]) (t := 26) ?hr ?_; (case hd => rfl); (case hg => rfl); (case hr => first | (go_simp; done) | (go_simp; rfl)); intro g4 hg wn hbox hb; have GE4 := Aside0.mk (by rw [hg]; exact below_size HB.out : w.heap.size ≤ g4); have NE3_4 := Aside0.mk (show g3 ≠ g4 by have := blk_lt BK3.out; omega); clear hg; have BK40 := Aside0.mk hbox; clear hbox; have n0_ := Aside0.mk (below_step HB.out hb); have m3_ := Aside0.mk (blk_below BK3.out hb); clear HB BK3 hb; have HB := n0_; have BK3 := m3_; clear n0_ m3_; have c3_0 : wn.cell? ⟨g3, 0, none⟩ = some (.int .i64 p0) := (blk_cell BK3.out 0).trans rfl; have c3_1 : wn.cell? ⟨g3, 1, none⟩ = some (.int .i64 p1) := (blk_cell BK3.out 1).trans rfl; have BK4 := BK40; clear BK40; have c4_0 : wn.cell? ⟨g4, 0, none⟩ = some (.int .i64 q0) := (blk_cell BK4.out 0).trans rfl; have c4_1 : wn.cell? ⟨g4, 1, none⟩ = some (.int .i64 q1) := (blk_cell BK4.out 1).trans rfl)
    | (go_at_call 10; (with_reducible refine (impl_isSmallFraction.calls k p0 p1 true _ Hh1.out).mono ?_); rintro e wn ⟨rfl, hb0⟩; (first | have hb := to_below_d hb0 | have hb := to_below_b hb0); clear hb0; have n0_ := Aside0.mk (below_step HB.out hb); have m3_ := Aside0.mk (blk_below BK3.out hb); have m4_ := Aside0.mk (blk_below BK4.out hb); clear HB BK3 BK4 hb; have HB := n0_; have BK3 := m3_; have BK4 := m4_; clear n0_ m3_ m4_; have c3_0 : wn.cell? ⟨g3, 0, none⟩ = some (.int .i64 p0) := (blk_cell BK3.out 0).trans rfl; have c3_1 : wn.cell? ⟨g3, 1, none⟩ = some (.int .i64 p1) := (blk_cell BK3.out 1).trans rfl; have c4_0 : wn.cell? ⟨g4, 0, none⟩ = some (.int .i64 q0) := (blk_cell BK4.out 0).trans rfl; have c4_1 : wn.cell? ⟨g4, 1, none⟩ = some (.int .i64 q1) := (blk_cell BK4.out 1).trans rfl)
    | (go_at_call 10; (with_reducible refine (impl_isSmallFraction.calls k q0 q1 false _ Hh2.out).mono ?_); rintro e wn ⟨rfl, hb0⟩; (first | have hb := to_below_d hb0 | have hb := to_below_b hb0); clear hb0; have n0_ := Aside0.mk (below_step HB.out hb); have m3_ := Aside0.mk (blk_below BK3.out hb); have m4_ := Aside0.mk (blk_below BK4.out hb); clear HB BK3 BK4 hb; have HB := n0_; have BK3 := m3_; have BK4 := m4_; clear n0_ m3_ m4_; have c3_0 : wn.cell? ⟨g3, 0, none⟩ = some (.int .i64 p0) := (blk_cell BK3.out 0).trans rfl; have c3_1 : wn.cell? ⟨g3, 1, none⟩ = some (.int .i64 p1) := (blk_cell BK3.out 1).trans rfl; have c4_0 : wn.cell? ⟨g4, 0, none⟩ = some (.int .i64 q0) := (blk_cell BK4.out 0).trans rfl; have c4_1 : wn.cell? ⟨g4, 1, none⟩ = some (.int .i64 q1) := (blk_cell BK4.out 1).trans rfl))
  go_ret2
  exact ⟨rfl, HB.out⟩
set_option maxHeartbeats 4000000 in
set_option maxRecDepth 100000 in
theorem SampleUps_no3 (k : Nat) (p0 p1 q0 q1 n : Int) (f1 : decide (p0 < p1) = true) (w : World) (h1 : impl_isSmallFraction.f k p0 p1 = some true) (h2 : impl_isSmallFraction.f k q0 q1 = some true) :
    Calls Try.prog 6 #[.agg #[.int .i64 p0, .int .i64 p1], .agg #[.int .i64 q0, .int .i64 q1], .int .i64 n] w fun e w' => e = .returned (.tuple #[.string ⟨#[]⟩, .bool false]) ∧ Below w.heap.size w w' := by
  have Hh1 := Aside0.mk h1
  have Hh2 := Aside0.mk h2
  clear h1 h2
  have HB := Aside0.mk (Below.refl w.heap.size w)
  go_enter Try.func6, Try.ntmps6
  go_wp2_with (first
    | ((with_reducible refine gate_dst (N := 3) rfl ?_); refine box_event ?hg (N := 3) ?hd (cs := #[.int .i64 p0, .int .i64 p1]) (t := 26) ?hr ?_; (case hd => rfl); (case hg => rfl); (case hr => first | (go_simp; done) | (go_simp; rfl)); intro g3 hg wn hbox hb; have GE3 := Aside0.mk (by rw [hg]; exact below_size HB.out : w.heap.size ≤ g3); clear hg; have BK30 := Aside0.mk hbox; clear hbox; have n0_ := Aside0.mk (below_step HB.out hb); clear HB  hb; have HB := n0_; clear n0_ ; have BK3 := BK30; clear BK30; have c3_0 : wn.cell? ⟨g3, 0, none⟩ = some (.int .i64 p0) := (blk_cell BK3.out 0).trans rfl; have c3_1 : wn.cell? ⟨g3, 1, none⟩ = some (.int .i64 p1) := (blk_cell BK3.out 1).trans rfl)
    | ((with_reducible refine gate_dst (N := 4) rfl ?_); refine box_event ?hg (N := 4) ?hd (cs := #[.int .i64 q0, .int .i64 q1]) (t := 26) ?hr ?_; (case hd => rfl); (case hg => rfl); (case hr => first | (go_simp; done) | (go_simp; rfl)); intro g4 hg wn hbox hb; have GE4 := Aside0.mk (by rw [hg]; exact below_size HB.out : w.heap.size ≤ g4); have NE3_4 := Aside0.mk (show g3 ≠ g4 by have := blk_lt BK3.out; omega); clear hg; have BK40 := Aside0.mk hbox; clear hbox; have n0_ := Aside0.mk (below_step HB.out hb); have m3_ := Aside0.mk (blk_below BK3.out hb); clear HB BK3 hb; have HB := n0_; have BK3 := m3_; clear n0_ m3_; have c3_0 : wn.cell? ⟨g3, 0, none⟩ = some (.int .i64 p0) := (blk_cell BK3.out 0).trans rfl; have c3_1 : wn.cell? ⟨g3, 1, none⟩ = some (.int .i64 p1) := (blk_cell BK3.out 1).trans rfl; have BK4 := BK40; clear BK40; have c4_0 : wn.cell? ⟨g4, 0, none⟩ = some (.int .i64 q0) := (blk_cell BK4.out 0).trans rfl; have c4_1 : wn.cell? ⟨g4, 1, none⟩ = some (.int .i64 q1) := (blk_cell BK4.out 1).trans rfl)
    | (go_at_call 10; (with_reducible refine (impl_isSmallFraction.calls k p0 p1 true _ Hh1.out).mono ?_); rintro e wn ⟨rfl, hb0⟩; (first | have hb := to_below_d hb0 | have hb := to_below_b hb0); clear hb0; have n0_ := Aside0.mk (below_step HB.out hb); have m3_ := Aside0.mk (blk_below BK3.out hb); have m4_ := Aside0.mk (blk_below BK4.out hb); clear HB BK3 BK4 hb; have HB := n0_; have BK3 := m3_; have BK4 := m4_; clear n0_ m3_ m4_; have c3_0 : wn.cell? ⟨g3, 0, none⟩ = some (.int .i64 p0) := (blk_cell BK3.out 0).trans rfl; have c3_1 : wn.cell? ⟨g3, 1, none⟩ = some (.int .i64 p1) := (blk_cell BK3.out 1).trans rfl; have c4_0 : wn.cell? ⟨g4, 0, none⟩ = some (.int .i64 q0) := (blk_cell BK4.out 0).trans rfl; have c4_1 : wn.cell? ⟨g4, 1, none⟩ = some (.int .i64 q1) := (blk_cell BK4.out 1).trans rfl)
    | (go_at_call 10; (with_reducible refine (impl_isSmallFraction.calls k q0 q1 true _ Hh2.out).mono ?_); rintro e wn ⟨rfl, hb0⟩; (first | have hb := to_below_d hb0 | have hb := to_below_b hb0); clear hb0; have n0_ := Aside0.mk (below_step HB.out hb); have m3_ := Aside0.mk (blk_below BK3.out hb); have m4_ := Aside0.mk (blk_below BK4.out hb); clear HB BK3 BK4 hb; have HB := n0_; have BK3 := m3_; have BK4 := m4_; clear n0_ m3_ m4_; have c3_0 : wn.cell? ⟨g3, 0, none⟩ = some (.int .i64 p0) := (blk_cell BK3.out 0).trans rfl; have c3_1 : wn.cell? ⟨g3, 1, none⟩ = some (.int .i64 p1) := (blk_cell BK3.out 1).trans rfl; have c4_0 : wn.cell? ⟨g4, 0, none⟩ = some (.int .i64 q0) := (blk_cell BK4.out 0).trans rfl; have c4_1 : wn.cell? ⟨g4, 1, none⟩ = some (.int .i64 q1) := (blk_cell BK4.out 1).trans rfl))
  go_ret2
  exact ⟨rfl, HB.out⟩
set_option maxHeartbeats 4000000 in
set_option maxRecDepth 100000 in
theorem SampleUps_no4 (k : Nat) (p0 p1 q0 q1 n : Int) (f1 : decide (p0 < p1) = false) (f2 : decide (q0 < 0) = true) (w : World) (h1 : impl_isSmallFraction.f k p0 p1 = some true) (h2 : impl_isSmallFraction.f k q0 q1 = some true) :
    Calls Try.prog 6 #[.agg #[.int .i64 p0, .int .i64 p1], .agg #[.int .i64 q0, .int .i64 q1], .int .i64 n] w fun e w' => e = .returned (.tuple #[.string ⟨#[]⟩, .bool false]) ∧ Below w.heap.size w w' := by
  have Hh1 := Aside0.mk h1
  have Hh2 := Aside0.mk h2
  clear h1 h2
  have HB := Aside0.mk (Below.refl w.heap.size w)
  go_enter Try.func6, Try.ntmps6
  go_wp2_with (first
    | ((with_reducible refine gate_dst (N := 3) rfl ?_); refine box_event ?hg (N := 3) ?hd (cs := #[.int .i64 p0, .int .i64 p1]) (t := 26) ?hr ?_; (case hd => rfl); (case hg => rfl); (case hr => first | (go_simp; done) | (go_simp; rfl)); intro g3 hg wn hbox hb; have GE3 := Aside0.mk (by rw [hg]; exact below_size HB.out : w.heap.size ≤ g3); clear hg; have BK30 := Aside0.mk hbox; clear hbox; have n0_ := Aside0.mk (below_step HB.out hb); clear HB  hb; have HB := n0_; clear n0_ ; have BK3 := BK30; clear BK30; have c3_0 : wn.cell? ⟨g3, 0, none⟩ = some (.int .i64 p0) := (blk_cell BK3.out 0).trans rfl; have c3_1 : wn.cell? ⟨g3, 1, none⟩ = some (.int .i64 p1) := (blk_cell BK3.out 1).trans rfl)
    | ((with_reducible refine gate_dst (N := 4) rfl ?_); refine box_event ?hg (N := 4) ?hd (cs := #[.int .i64 q0, .int .i64 q1]) (t := 26) ?hr ?_; (case hd => rfl); (case hg => rfl); (case hr => first | (go_simp; done) | (go_simp; rfl)); intro g4 hg wn hbox hb; have GE4 := Aside0.mk (by rw [hg]; exact below_size HB.out : w.heap.size ≤ g4); have NE3_4 := Aside0.mk (show g3 ≠ g4 by have := blk_lt BK3.out; omega); clear hg; have BK40 := Aside0.mk hbox; clear hbox; have n0_ := Aside0.mk (below_step HB.out hb); have m3_ := Aside0.mk (blk_below BK3.out hb); clear HB BK3 hb; have HB := n0_; have BK3 := m3_; clear n0_ m3_; have c3_0 : wn.cell? ⟨g3, 0, none⟩ = some (.int .i64 p0) := (blk_cell BK3.out 0).trans rfl; have c3_1 : wn.cell? ⟨g3, 1, none⟩ = some (.int .i64 p1) := (blk_cell BK3.out 1).trans rfl; have BK4 := BK40; clear BK40; have c4_0 : wn.cell? ⟨g4, 0, none⟩ = some (.int .i64 q0) := (blk_cell BK4.out 0).trans rfl; have c4_1 : wn.cell? ⟨g4, 1, none⟩ = some (.int .i64 q1) := (blk_cell BK4.out 1).trans rfl)
    | (go_at_call 10; (with_reducible refine (impl_isSmallFraction.calls k p0 p1 true _ Hh1.out).mono ?_); rintro e wn ⟨rfl, hb0⟩; (first | have hb := to_below_d hb0 | have hb := to_below_b hb0); clear hb0; have n0_ := Aside0.mk (below_step HB.out hb); have m3_ := Aside0.mk (blk_below BK3.out hb); have m4_ := Aside0.mk (blk_below BK4.out hb); clear HB BK3 BK4 hb; have HB := n0_; have BK3 := m3_; have BK4 := m4_; clear n0_ m3_ m4_; have c3_0 : wn.cell? ⟨g3, 0, none⟩ = some (.int .i64 p0) := (blk_cell BK3.out 0).trans rfl; have c3_1 : wn.cell? ⟨g3, 1, none⟩ = some (.int .i64 p1) := (blk_cell BK3.out 1).trans rfl; have c4_0 : wn.cell? ⟨g4, 0, none⟩ = some (.int .i64 q0) := (blk_cell BK4.out 0).trans rfl; have c4_1 : wn.cell? ⟨g4, 1, none⟩ = some (.int .i64 q1) := (blk_cell BK4.out 1).trans rfl)
    | (go_at_call 10; (with_reducible refine (impl_isSmallFraction.calls k q0 q1 true _ Hh2.out).mono ?_); rintro e wn ⟨rfl, hb0⟩; (first | have hb := to_below_d hb0 | have hb := to_below_b hb0); clear hb0; have n0_ := Aside0.mk (below_step HB.out hb); have m3_ := Aside0.mk (blk_below BK3.out hb); have m4_ := Aside0.mk (blk_below BK4.out hb); clear HB BK3 BK4 hb; have HB := n0_; have BK3 := m3_; have BK4 := m4_; clear n0_ m3_ m4_; have c3_0 : wn.cell? ⟨g3, 0, none⟩ = some (.int .i64 p0) := (blk_cell BK3.out 0).trans rfl; have c3_1 : wn.cell? ⟨g3, 1, none⟩ = some (.int .i64 p1) := (blk_cell BK3.out 1).trans rfl; have c4_0 : wn.cell? ⟨g4, 0, none⟩ = some (.int .i64 q0) := (blk_cell BK4.out 0).trans rfl; have c4_1 : wn.cell? ⟨g4, 1, none⟩ = some (.int .i64 q1) := (blk_cell BK4.out 1).trans rfl))
  go_ret2
  exact ⟨rfl, HB.out⟩
set_option maxHeartbeats 4000000 in
set_option maxRecDepth 100000 in
theorem SampleUps_no5 (k : Nat) (p0 p1 q0 q1 n : Int) (f1 : decide (p0 < p1) = false) (f2 : decide (q0 < 0) = false) (w : World) (h1 : impl_isSmallFraction.f k p0 p1 = some true) (h2 : impl_isSmallFraction.f k q0 q1 = some true) (h3 : impl_isTicks.f n = some false) :
    Calls Try.prog 6 #[.agg #[.int .i64 p0, .int .i64 p1], .agg #[.int .i64 q0, .int .i64 q1], .int .i64 n] w fun e w' => e = .returned (.tuple #[.string ⟨#[]⟩, .bool false]) ∧ Below w.heap.size w w' := by
  have Hh1 := Aside0.mk h1
  have Hh2 := Aside0.mk h2
  have Hh3 := Aside0.mk h3
  clear h1 h2 h3
  have HB := Aside0.mk (Below.refl w.heap.size w)
  go_enter Try.func6, Try.ntmps6
  go_wp2_with (first
    | ((with_reducible refine gate_dst (N := 3) rfl ?_); refine box_event ?hg (N := 3) ?hd (cs := #[.int .i64 p0, .int .i64 p1]) (t := 26) ?hr ?_; (case hd => rfl); (case hg => rfl); (case hr => first | (go_simp; done) | (go_simp; rfl)); intro g3 hg wn hbox hb; have GE3 := Aside0.mk (by rw [hg]; exact below_size HB.out : w.heap.size ≤ g3); clear hg; have BK30 := Aside0.mk hbox; clear hbox; have n0_ := Aside0.mk (below_step HB.out hb); clear HB  hb; have HB := n0_; clear n0_ ; have BK3 := BK30; clear BK30; have c3_0 : wn.cell? ⟨g3, 0, none⟩ = some (.int .i64 p0) := (blk_cell BK3.out 0).trans rfl; have c3_1 : wn.cell? ⟨g3, 1, none⟩ = some (.int .i64 p1) := (blk_cell BK3.out 1).trans rfl)
    | ((with_reducible refine gate_dst (N := 4) rfl ?_); refine box_event ?hg (N := 4) ?hd (cs := #[.int .i64 q0, .int .i64 q1]) (t := 26) ?hr ?_; (case hd => rfl); (case hg => rfl); (case hr => first | (go_simp; done) | (go_simp; rfl)); intro g4 hg wn hbox hb; have GE4 := Aside0.mk (by rw [hg]; exact below_size HB.out : w.heap.size ≤ g4); have NE3_4 := Aside0.mk (show g3 ≠ g4 by have := blk_lt BK3.out; omega); clear hg; have BK40 := Aside0.mk hbox; clear hbox; have n0_ := Aside0.mk (below_step HB.out hb); have m3_ := Aside0.mk (blk_below BK3.out hb); clear HB BK3 hb; have HB := n0_; have BK3 := m3_; clear n0_ m3_; have c3_0 : wn.cell? ⟨g3, 0, none⟩ = some (.int .i64 p0) := (blk_cell BK3.out 0).trans rfl; have c3_1 : wn.cell? ⟨g3, 1, none⟩ = some (.int .i64 p1) := (blk_cell BK3.out 1).trans rfl; have BK4 := BK40; clear BK40; have c4_0 : wn.cell? ⟨g4, 0, none⟩ = some (.int .i64 q0) := (blk_cell BK4.out 0).trans rfl; have c4_1 : wn.cell? ⟨g4, 1, none⟩ = some (.int .i64 q1) := (blk_cell BK4.out 1).trans rfl)
    | (go_at_call 10; (with_reducible refine (impl_isSmallFraction.calls k p0 p1 true _ Hh1.out).mono ?_); rintro e wn ⟨rfl, hb0⟩; (first | have hb := to_below_d hb0 | have hb := to_below_b hb0); clear hb0; have n0_ := Aside0.mk (below_step HB.out hb); have m3_ := Aside0.mk (blk_below BK3.out hb); have m4_ := Aside0.mk (blk_below BK4.out hb); clear HB BK3 BK4 hb; have HB := n0_; have BK3 := m3_; have BK4 := m4_; clear n0_ m3_ m4_; have c3_0 : wn.cell? ⟨g3, 0, none⟩ = some (.int .i64 p0) := (blk_cell BK3.out 0).trans rfl; have c3_1 : wn.cell? ⟨g3, 1, none⟩ = some (.int .i64 p1) := (blk_cell BK3.out 1).trans rfl; have c4_0 : wn.cell? ⟨g4, 0, none⟩ = some (.int .i64 q0) := (blk_cell BK4.out 0).trans rfl; have c4_1 : wn.cell? ⟨g4, 1, none⟩ = some (.int .i64 q1) := (blk_cell BK4.out 1).trans rfl)
    | (go_at_call 10; (with_reducible refine (impl_isSmallFraction.calls k q0 q1 true _ Hh2.out).mono ?_); rintro e wn ⟨rfl, hb0⟩; (first | have hb := to_below_d hb0 | have hb := to_below_b hb0); clear hb0; have n0_ := Aside0.mk (below_step HB.out hb); have m3_ := Aside0.mk (blk_below BK3.out hb); have m4_ := Aside0.mk (blk_below BK4.out hb); clear HB BK3 BK4 hb; have HB := n0_; have BK3 := m3_; have BK4 := m4_; clear n0_ m3_ m4_; have c3_0 : wn.cell? ⟨g3, 0, none⟩ = some (.int .i64 p0) := (blk_cell BK3.out 0).trans rfl; have c3_1 : wn.cell? ⟨g3, 1, none⟩ = some (.int .i64 p1) := (blk_cell BK3.out 1).trans rfl; have c4_0 : wn.cell? ⟨g4, 0, none⟩ = some (.int .i64 q0) := (blk_cell BK4.out 0).trans rfl; have c4_1 : wn.cell? ⟨g4, 1, none⟩ = some (.int .i64 q1) := (blk_cell BK4.out 1).trans rfl)
    | (go_at_call 11; (with_reducible refine (impl_isTicks.calls n false _ Hh3.out).mono ?_); rintro e wn ⟨rfl, hb0⟩; (first | have hb := to_below_d hb0 | have hb := to_below_b hb0); clear hb0; have n0_ := Aside0.mk (below_step HB.out hb); have m3_ := Aside0.mk (blk_below BK3.out hb); have m4_ := Aside0.mk (blk_below BK4.out hb); clear HB BK3 BK4 hb; have HB := n0_; have BK3 := m3_; have BK4 := m4_; clear n0_ m3_ m4_; have c3_0 : wn.cell? ⟨g3, 0, none⟩ = some (.int .i64 p0) := (blk_cell BK3.out 0).trans rfl; have c3_1 : wn.cell? ⟨g3, 1, none⟩ = some (.int .i64 p1) := (blk_cell BK3.out 1).trans rfl; have c4_0 : wn.cell? ⟨g4, 0, none⟩ = some (.int .i64 q0) := (blk_cell BK4.out 0).trans rfl; have c4_1 : wn.cell? ⟨g4, 1, none⟩ = some (.int .i64 q1) := (blk_cell BK4.out 1).trans rfl))
  go_ret2
  exact ⟨rfl, HB.out⟩
theorem mul_in (a b : Int) (ha : 0 ≤ a) (ha2 : a ≤ 1000000) (hb : 0 ≤ b) (hb2 : b ≤ 1000000) : IntKind.i64.wrap (a * b) = a * b := by
  have h0 : 0 ≤ a * b := Int.mul_nonneg ha hb
  have h1 : a * b ≤ 1000000 * 1000000 := Int.mul_le_mul ha2 hb2 hb (by omega)
  exact IntWalk.i64_in _ ⟨by omega, by omega⟩
set_option maxHeartbeats 4000000 in
set_option maxRecDepth 100000 in
theorem SampleUps_no6 (k : Nat) (p0 p1 q0 q1 n : Int) (f1 : decide (p0 < p1) = false) (f2 : decide (q0 < 0) = false) (f3 : decide (p0 * q1 ≤ q0 * p1) = true) (b0 : 0 ≤ p0) (b1 : p0 ≤ 1000000) (b2 : 1 ≤ p1) (b3 : p1 ≤ 1000000) (b4 : 0 ≤ q0) (b5 : q0 ≤ 1000000) (b6 : 1 ≤ q1) (b7 : q1 ≤ 1000000) (w : World) (h1 : impl_isSmallFraction.f k p0 p1 = some true) (h2 : impl_isSmallFraction.f k q0 q1 = some true) (h3 : impl_isTicks.f n = some true) :
    Calls Try.prog 6 #[.agg #[.int .i64 p0, .int .i64 p1], .agg #[.int .i64 q0, .int .i64 q1], .int .i64 n] w fun e w' => e = .returned (.tuple #[.string ⟨#[]⟩, .bool false]) ∧ Below w.heap.size w w' := by
  have Hh1 := Aside0.mk h1
  have Hh2 := Aside0.mk h2
  have Hh3 := Aside0.mk h3
  clear h1 h2 h3
  have HB := Aside0.mk (Below.refl w.heap.size w)
  have w1 : IntKind.i64.wrap (q0 * p1) = q0 * p1 := mul_in q0 p1 b4 b5 (by omega) b3
  have w2 : IntKind.i64.wrap (p0 * q1) = p0 * q1 := mul_in p0 q1 b0 b1 (by omega) b7
  have w3 : IntKind.i64.wrap (p1 * q1) = p1 * q1 := mul_in p1 q1 (by omega) b3 (by omega) b7
  go_enter Try.func6, Try.ntmps6
  go_wp2_with (first
    | ((with_reducible refine gate_dst (N := 3) rfl ?_); refine box_event ?hg (N := 3) ?hd (cs := #[.int .i64 p0, .int .i64 p1]) (t := 26) ?hr ?_; (case hd => rfl); (case hg => rfl); (case hr => first | (go_simp; done) | (go_simp; rfl)); intro g3 hg wn hbox hb; have GE3 := Aside0.mk (by rw [hg]; exact below_size HB.out : w.heap.size ≤ g3); clear hg; have BK30 := Aside0.mk hbox; clear hbox; have n0_ := Aside0.mk (below_step HB.out hb); clear HB  hb; have HB := n0_; clear n0_ ; have BK3 := BK30; clear BK30; have c3_0 : wn.cell? ⟨g3, 0, none⟩ = some (.int .i64 p0) := (blk_cell BK3.out 0).trans rfl; have c3_1 : wn.cell? ⟨g3, 1, none⟩ = some (.int .i64 p1) := (blk_cell BK3.out 1).trans rfl)
    | ((with_reducible refine gate_dst (N := 4) rfl ?_); refine box_event ?hg (N := 4) ?hd (cs := #[.int .i64 q0, .int .i64 q1]) (t := 26) ?hr ?_; (case hd => rfl); (case hg => rfl); (case hr => first | (go_simp; done) | (go_simp; rfl)); intro g4 hg wn hbox hb; have GE4 := Aside0.mk (by rw [hg]; exact below_size HB.out : w.heap.size ≤ g4); have NE3_4 := Aside0.mk (show g3 ≠ g4 by have := blk_lt BK3.out; omega); clear hg; have BK40 := Aside0.mk hbox; clear hbox; have n0_ := Aside0.mk (below_step HB.out hb); have m3_ := Aside0.mk (blk_below BK3.out hb); clear HB BK3 hb; have HB := n0_; have BK3 := m3_; clear n0_ m3_; have c3_0 : wn.cell? ⟨g3, 0, none⟩ = some (.int .i64 p0) := (blk_cell BK3.out 0).trans rfl; have c3_1 : wn.cell? ⟨g3, 1, none⟩ = some (.int .i64 p1) := (blk_cell BK3.out 1).trans rfl; have BK4 := BK40; clear BK40; have c4_0 : wn.cell? ⟨g4, 0, none⟩ = some (.int .i64 q0) := (blk_cell BK4.out 0).trans rfl; have c4_1 : wn.cell? ⟨g4, 1, none⟩ = some (.int .i64 q1) := (blk_cell BK4.out 1).trans rfl)
    | (go_at_call 10; (with_reducible refine (impl_isSmallFraction.calls k p0 p1 true _ Hh1.out).mono ?_); rintro e wn ⟨rfl, hb0⟩; (first | have hb := to_below_d hb0 | have hb := to_below_b hb0); clear hb0; have n0_ := Aside0.mk (below_step HB.out hb); have m3_ := Aside0.mk (blk_below BK3.out hb); have m4_ := Aside0.mk (blk_below BK4.out hb); clear HB BK3 BK4 hb; have HB := n0_; have BK3 := m3_; have BK4 := m4_; clear n0_ m3_ m4_; have c3_0 : wn.cell? ⟨g3, 0, none⟩ = some (.int .i64 p0) := (blk_cell BK3.out 0).trans rfl; have c3_1 : wn.cell? ⟨g3, 1, none⟩ = some (.int .i64 p1) := (blk_cell BK3.out 1).trans rfl; have c4_0 : wn.cell? ⟨g4, 0, none⟩ = some (.int .i64 q0) := (blk_cell BK4.out 0).trans rfl; have c4_1 : wn.cell? ⟨g4, 1, none⟩ = some (.int .i64 q1) := (blk_cell BK4.out 1).trans rfl)
    | (go_at_call 10; (with_reducible refine (impl_isSmallFraction.calls k q0 q1 true _ Hh2.out).mono ?_); rintro e wn ⟨rfl, hb0⟩; (first | have hb := to_below_d hb0 | have hb := to_below_b hb0); clear hb0; have n0_ := Aside0.mk (below_step HB.out hb); have m3_ := Aside0.mk (blk_below BK3.out hb); have m4_ := Aside0.mk (blk_below BK4.out hb); clear HB BK3 BK4 hb; have HB := n0_; have BK3 := m3_; have BK4 := m4_; clear n0_ m3_ m4_; have c3_0 : wn.cell? ⟨g3, 0, none⟩ = some (.int .i64 p0) := (blk_cell BK3.out 0).trans rfl; have c3_1 : wn.cell? ⟨g3, 1, none⟩ = some (.int .i64 p1) := (blk_cell BK3.out 1).trans rfl; have c4_0 : wn.cell? ⟨g4, 0, none⟩ = some (.int .i64 q0) := (blk_cell BK4.out 0).trans rfl; have c4_1 : wn.cell? ⟨g4, 1, none⟩ = some (.int .i64 q1) := (blk_cell BK4.out 1).trans rfl)
    | (go_at_call 11; (with_reducible refine (impl_isTicks.calls n true _ Hh3.out).mono ?_); rintro e wn ⟨rfl, hb0⟩; (first | have hb := to_below_d hb0 | have hb := to_below_b hb0); clear hb0; have n0_ := Aside0.mk (below_step HB.out hb); have m3_ := Aside0.mk (blk_below BK3.out hb); have m4_ := Aside0.mk (blk_below BK4.out hb); clear HB BK3 BK4 hb; have HB := n0_; have BK3 := m3_; have BK4 := m4_; clear n0_ m3_ m4_; have c3_0 : wn.cell? ⟨g3, 0, none⟩ = some (.int .i64 p0) := (blk_cell BK3.out 0).trans rfl; have c3_1 : wn.cell? ⟨g3, 1, none⟩ = some (.int .i64 p1) := (blk_cell BK3.out 1).trans rfl; have c4_0 : wn.cell? ⟨g4, 0, none⟩ = some (.int .i64 q0) := (blk_cell BK4.out 0).trans rfl; have c4_1 : wn.cell? ⟨g4, 1, none⟩ = some (.int .i64 q1) := (blk_cell BK4.out 1).trans rfl))
  go_ret2
  exact ⟨rfl, HB.out⟩
set_option maxHeartbeats 4000000 in
set_option maxRecDepth 100000 in
theorem SampleUps_yes (k : Nat) (p0 p1 q0 q1 : Int) (m : Nat) (f1 : decide (p0 < p1) = false) (f2 : decide (q0 < 0) = false) (f3 : decide (p0 * q1 ≤ q0 * p1) = false) (b0 : 0 ≤ p0) (b1 : p0 ≤ 1000000) (b2 : 1 ≤ p1) (b3 : p1 ≤ 1000000) (b4 : 0 ≤ q0) (b5 : q0 ≤ 1000000) (b6 : 1 ≤ q1) (b7 : q1 ≤ 1000000) (hm : m ≤ 400) (w : World) (h1 : impl_isSmallFraction.f k p0 p1 = some true) (h2 : impl_isSmallFraction.f k q0 q1 = some true) (h3 : impl_isTicks.f (m : Int) = some true) :
    Calls Try.prog 6 #[.agg #[.int .i64 p0, .int .i64 p1], .agg #[.int .i64 q0, .int .i64 q1], .int .i64 m] w fun e w' => e = .returned (.tuple #[.string (strOfNums (lvs (slv (p1 * q1) (p0 * q1) (q0 * p1)) m)), .bool true]) ∧ Below w.heap.size w w' := by
  have Hh1 := Aside0.mk h1
  have Hh2 := Aside0.mk h2
  have Hh3 := Aside0.mk h3
  clear h1 h2 h3
  have HB := Aside0.mk (Below.refl w.heap.size w)
  have m0 : Aside0 (0 ≤ q0 * p1) := ⟨Int.mul_nonneg b4 (by omega)⟩
  have f1' : p1 ≤ p0 := by have := of_decide_eq_false f1; omega
  have m1 : Aside0 (q0 * p1 ≤ p0 * q1) := ⟨by have := of_decide_eq_false f3; omega⟩
  have m2 : Aside0 (p1 * q1 ≤ p0 * q1) := ⟨Int.mul_le_mul_of_nonneg_right f1' (by omega)⟩
  have m3 : Aside0 (1 ≤ p1 * q1) := ⟨by have := Int.mul_le_mul b2 b6 (by omega) (by omega : 0 ≤ p1); simpa using this⟩
  have m4 : Aside0 (p0 * q1 ≤ 1000000000000) := ⟨by have := Int.mul_le_mul b1 b7 (by omega) (by omega : (0 : Int) ≤ 1000000); omega⟩
  clear f1'
  have w1 : IntKind.i64.wrap (q0 * p1) = q0 * p1 := mul_in q0 p1 b4 b5 (by omega) b3
  have w2 : IntKind.i64.wrap (p0 * q1) = p0 * q1 := mul_in p0 q1 b0 b1 (by omega) b7
  have w3 : IntKind.i64.wrap (p1 * q1) = p1 * q1 := mul_in p1 q1 (by omega) b3 (by omega) b7
  go_enter Try.func6, Try.ntmps6
  go_wp2_with (first
    | ((with_reducible refine gate_dst (N := 3) rfl ?_); refine box_event ?hg (N := 3) ?hd (cs := #[.int .i64 p0, .int .i64 p1]) (t := 26) ?hr ?_; (case hd => rfl); (case hg => rfl); (case hr => first | (go_simp; done) | (go_simp; rfl)); intro g3 hg wn hbox hb; have GE3 := Aside0.mk (by rw [hg]; exact below_size HB.out : w.heap.size ≤ g3); clear hg; have BK30 := Aside0.mk hbox; clear hbox; have n0_ := Aside0.mk (below_step HB.out hb); clear HB  hb; have HB := n0_; clear n0_ ; have BK3 := BK30; clear BK30; have c3_0 : wn.cell? ⟨g3, 0, none⟩ = some (.int .i64 p0) := (blk_cell BK3.out 0).trans rfl; have c3_1 : wn.cell? ⟨g3, 1, none⟩ = some (.int .i64 p1) := (blk_cell BK3.out 1).trans rfl)
    | ((with_reducible refine gate_dst (N := 4) rfl ?_); refine box_event ?hg (N := 4) ?hd (cs := #[.int .i64 q0, .int .i64 q1]) (t := 26) ?hr ?_; (case hd => rfl); (case hg => rfl); (case hr => first | (go_simp; done) | (go_simp; rfl)); intro g4 hg wn hbox hb; have GE4 := Aside0.mk (by rw [hg]; exact below_size HB.out : w.heap.size ≤ g4); have NE3_4 := Aside0.mk (show g3 ≠ g4 by have := blk_lt BK3.out; omega); clear hg; have BK40 := Aside0.mk hbox; clear hbox; have n0_ := Aside0.mk (below_step HB.out hb); have m3_ := Aside0.mk (blk_below BK3.out hb); clear HB BK3 hb; have HB := n0_; have BK3 := m3_; clear n0_ m3_; have c3_0 : wn.cell? ⟨g3, 0, none⟩ = some (.int .i64 p0) := (blk_cell BK3.out 0).trans rfl; have c3_1 : wn.cell? ⟨g3, 1, none⟩ = some (.int .i64 p1) := (blk_cell BK3.out 1).trans rfl; have BK4 := BK40; clear BK40; have c4_0 : wn.cell? ⟨g4, 0, none⟩ = some (.int .i64 q0) := (blk_cell BK4.out 0).trans rfl; have c4_1 : wn.cell? ⟨g4, 1, none⟩ = some (.int .i64 q1) := (blk_cell BK4.out 1).trans rfl)
    | (go_at_call 10; (with_reducible refine (impl_isSmallFraction.calls k p0 p1 true _ Hh1.out).mono ?_); rintro e wn ⟨rfl, hb0⟩; (first | have hb := to_below_d hb0 | have hb := to_below_b hb0); clear hb0; have n0_ := Aside0.mk (below_step HB.out hb); have m3_ := Aside0.mk (blk_below BK3.out hb); have m4_ := Aside0.mk (blk_below BK4.out hb); clear HB BK3 BK4 hb; have HB := n0_; have BK3 := m3_; have BK4 := m4_; clear n0_ m3_ m4_; have c3_0 : wn.cell? ⟨g3, 0, none⟩ = some (.int .i64 p0) := (blk_cell BK3.out 0).trans rfl; have c3_1 : wn.cell? ⟨g3, 1, none⟩ = some (.int .i64 p1) := (blk_cell BK3.out 1).trans rfl; have c4_0 : wn.cell? ⟨g4, 0, none⟩ = some (.int .i64 q0) := (blk_cell BK4.out 0).trans rfl; have c4_1 : wn.cell? ⟨g4, 1, none⟩ = some (.int .i64 q1) := (blk_cell BK4.out 1).trans rfl)
    | (go_at_call 10; (with_reducible refine (impl_isSmallFraction.calls k q0 q1 true _ Hh2.out).mono ?_); rintro e wn ⟨rfl, hb0⟩; (first | have hb := to_below_d hb0 | have hb := to_below_b hb0); clear hb0; have n0_ := Aside0.mk (below_step HB.out hb); have m3_ := Aside0.mk (blk_below BK3.out hb); have m4_ := Aside0.mk (blk_below BK4.out hb); clear HB BK3 BK4 hb; have HB := n0_; have BK3 := m3_; have BK4 := m4_; clear n0_ m3_ m4_; have c3_0 : wn.cell? ⟨g3, 0, none⟩ = some (.int .i64 p0) := (blk_cell BK3.out 0).trans rfl; have c3_1 : wn.cell? ⟨g3, 1, none⟩ = some (.int .i64 p1) := (blk_cell BK3.out 1).trans rfl; have c4_0 : wn.cell? ⟨g4, 0, none⟩ = some (.int .i64 q0) := (blk_cell BK4.out 0).trans rfl; have c4_1 : wn.cell? ⟨g4, 1, none⟩ = some (.int .i64 q1) := (blk_cell BK4.out 1).trans rfl)
    | (go_at_call 11; (with_reducible refine (impl_isTicks.calls (m : Int) true _ Hh3.out).mono ?_); rintro e wn ⟨rfl, hb0⟩; (first | have hb := to_below_d hb0 | have hb := to_below_b hb0); clear hb0; have n0_ := Aside0.mk (below_step HB.out hb); have m3_ := Aside0.mk (blk_below BK3.out hb); have m4_ := Aside0.mk (blk_below BK4.out hb); clear HB BK3 BK4 hb; have HB := n0_; have BK3 := m3_; have BK4 := m4_; clear n0_ m3_ m4_; have c3_0 : wn.cell? ⟨g3, 0, none⟩ = some (.int .i64 p0) := (blk_cell BK3.out 0).trans rfl; have c3_1 : wn.cell? ⟨g3, 1, none⟩ = some (.int .i64 p1) := (blk_cell BK3.out 1).trans rfl; have c4_0 : wn.cell? ⟨g4, 0, none⟩ = some (.int .i64 q0) := (blk_cell BK4.out 0).trans rfl; have c4_1 : wn.cell? ⟨g4, 1, none⟩ = some (.int .i64 q1) := (blk_cell BK4.out 1).trans rfl)
    | ((with_reducible refine gate_dst (N := 8) rfl ?_); refine box_event ?hg (N := 8) ?hd (cs := #[.int .i64 0]) (t := 2) ?hr ?_; (case hd => rfl); (case hg => rfl); (case hr => first | (go_simp; done) | (go_simp; rfl)); intro g8 hg wn hbox hb; have GE8 := Aside0.mk (by rw [hg]; exact below_size HB.out : w.heap.size ≤ g8); have NE3_8 := Aside0.mk (show g3 ≠ g8 by have := blk_lt BK3.out; omega); have NE4_8 := Aside0.mk (show g4 ≠ g8 by have := blk_lt BK4.out; omega); clear hg; have BK80 := Aside0.mk hbox; clear hbox; have n0_ := Aside0.mk (below_step HB.out hb); have m3_ := Aside0.mk (blk_below BK3.out hb); have m4_ := Aside0.mk (blk_below BK4.out hb); clear HB BK3 BK4 hb; have HB := n0_; have BK3 := m3_; have BK4 := m4_; clear n0_ m3_ m4_; have c3_0 : wn.cell? ⟨g3, 0, none⟩ = some (.int .i64 p0) := (blk_cell BK3.out 0).trans rfl; have c3_1 : wn.cell? ⟨g3, 1, none⟩ = some (.int .i64 p1) := (blk_cell BK3.out 1).trans rfl; have c4_0 : wn.cell? ⟨g4, 0, none⟩ = some (.int .i64 q0) := (blk_cell BK4.out 0).trans rfl; have c4_1 : wn.cell? ⟨g4, 1, none⟩ = some (.int .i64 q1) := (blk_cell BK4.out 1).trans rfl; have BK8 := BK80; clear BK80; have c8_0 : wn.cell? ⟨g8, 0, none⟩ = some (.int .i64 0) := (blk_cell BK8.out 0).trans rfl; have z8_0 := blk_frozen BK8.out 0))
  have p3 := Aside0.mk (blk_far BK3.out (p := ⟨g8, 0, none⟩) NE3_8.out (.int .i64 (p1 * q1)))
  have p4 := Aside0.mk (blk_far BK4.out (p := ⟨g8, 0, none⟩) NE4_8.out (.int .i64 (p1 * q1)))
  have p8 := Aside0.mk (blk_put BK8.out 0 (.int .i64 (p1 * q1)) (cs' := #[.int .i64 (p1 * q1)]) rfl)
  have pb := Aside0.mk (below_set (j := 0) (v := .int .i64 (p1 * q1)) HB.out GE8.out)
  generalize wn.setCell ⟨g8, 0, none⟩ (.int .i64 (p1 * q1)) = W8 at p3 p4 p8 pb ⊢
  clear c3_0 c3_1 c4_0 c4_1 z8_0
  have d3_0 : W8.cell? ⟨g3, 0, none⟩ = some (.int .i64 p0) := (blk_cell p3.out 0).trans rfl
  have d3_1 : W8.cell? ⟨g3, 1, none⟩ = some (.int .i64 p1) := (blk_cell p3.out 1).trans rfl
  have d4_0 : W8.cell? ⟨g4, 0, none⟩ = some (.int .i64 q0) := (blk_cell p4.out 0).trans rfl
  have d4_1 : W8.cell? ⟨g4, 1, none⟩ = some (.int .i64 q1) := (blk_cell p4.out 1).trans rfl
  have l3 : g3 < W8.heap.size := blk_lt p3.out
  have l4 : g4 < W8.heap.size := blk_lt p4.out
  go_region
  all_goals have l8 : g8 < W8.heap.size := blk_lt p8.out
  · obtain ⟨t9, t10, tb⟩ := two_new W8 (.cells #[.int .i64 (p0 * q1)] 2 (0, 0)) (.cells #[.int .i64 (q0 * p1)] 2 (0, 0))
    have T := SampTail m hm (q0 * p1) (p1 * q1) (p0 * q1) (W8.heap.size + 1) g8 W8.heap.size w.heap.size _ t10 (blk_below p8.out tb) t9 (by omega) (by omega) (Nat.le_trans (below_size pb.out) (by omega)) m0.out m1.out m2.out m3.out m4.out
    go_wp2_with (go_at_call 12; refine T.mono ?_; rintro e wz ⟨rfl, hb⟩)
    go_ret2
    exact ⟨rfl, (below_step pb.out tb).trans hb⟩
  · obtain ⟨t10, t9, tb⟩ := two_new W8 (.cells #[.int .i64 (q0 * p1)] 2 (0, 0)) (.cells #[.int .i64 (p0 * q1)] 2 (0, 0))
    have T := SampTail m hm (q0 * p1) (p1 * q1) (p0 * q1) W8.heap.size g8 (W8.heap.size + 1) w.heap.size _ t10 (blk_below p8.out tb) t9 (by omega) (by omega) (below_size pb.out) m0.out m1.out m2.out m3.out m4.out
    go_wp2_with (go_at_call 12; refine T.mono ?_; rintro e wz ⟨rfl, hb⟩)
    go_ret2
    exact ⟨rfl, (below_step pb.out tb).trans hb⟩
def impl_SampleUps.f (k : Nat) (p0 p1 q0 q1 n : Int) : Option (ByteArray × Bool) :=
  (impl_isSmallFraction.f k p0 p1).bind fun a => if a = true then ((impl_isSmallFraction.f k q0 q1).bind fun b => if b = true then
    (if p0 < p1 then some (⟨#[]⟩, false) else if q0 < 0 then some (⟨#[]⟩, false) else (impl_isTicks.f n).bind fun c => if c = true then
      (if (0 ≤ p0 ∧ p0 ≤ 1000000 ∧ 1 ≤ p1 ∧ p1 ≤ 1000000) ∧ (0 ≤ q0 ∧ q0 ≤ 1000000 ∧ 1 ≤ q1 ∧ q1 ≤ 1000000) ∧ 0 ≤ n ∧ n ≤ 400 then
        (if p0 * q1 ≤ q0 * p1 then some (⟨#[]⟩, false) else some (strOfNums (lvs (slv (p1 * q1) (p0 * q1) (q0 * p1)) n.toNat), true)) else none)
      else some (⟨#[]⟩, false))
    else some (⟨#[]⟩, false)) else some (⟨#[]⟩, false)
theorem impl_SampleUps.mono : ∀ p0 p1 q0 q1 n k, LeO (impl_SampleUps.f k p0 p1 q0 q1 n) (impl_SampleUps.f (k + 1) p0 p1 q0 q1 n) := by
  intro p0 p1 q0 q1 n k
  unfold impl_SampleUps.f
  refine LeO.bind (impl_isSmallFraction.mono p0 p1 k) (fun a => ?_)
  split
  · refine LeO.bind (impl_isSmallFraction.mono q0 q1 k) (fun b => LeO.refl _)
  · exact LeO.refl _
theorem impl_SampleUps.calls (k : Nat) (p0 p1 q0 q1 n : Int) (r1 : ByteArray) (r2 : Bool) (w : World) (h : impl_SampleUps.f k p0 p1 q0 q1 n = some (r1, r2)) :
    Calls Try.prog 6 #[.agg #[.int .i64 p0, .int .i64 p1], .agg #[.int .i64 q0, .int .i64 q1], .int .i64 n] w fun e w' => e = .returned (.tuple #[.string r1, .bool r2]) ∧ Below w.heap.size w w' := by
  unfold impl_SampleUps.f at h
  obtain ⟨a, ha, h⟩ := Option.bind_eq_some_iff.mp h
  cases a with
  | false =>
    rw [if_neg (by simp)] at h
    simp only [Option.some.injEq, Prod.mk.injEq] at h
    obtain ⟨rfl, rfl⟩ := h
    exact SampleUps_no1 k p0 p1 q0 q1 n w ha
  | true =>
    rw [if_pos rfl] at h
    obtain ⟨b, hb, h⟩ := Option.bind_eq_some_iff.mp h
    cases b with
    | false =>
      rw [if_neg (by simp)] at h
      simp only [Option.some.injEq, Prod.mk.injEq] at h
      obtain ⟨rfl, rfl⟩ := h
      exact SampleUps_no2 k p0 p1 q0 q1 n w ha hb
    | true =>
      rw [if_pos rfl] at h
      by_cases h1 : p0 < p1
      · rw [if_pos h1] at h
        simp only [Option.some.injEq, Prod.mk.injEq] at h
        obtain ⟨rfl, rfl⟩ := h
        exact SampleUps_no3 k p0 p1 q0 q1 n (decide_eq_true h1) w ha hb
      · rw [if_neg h1] at h
        by_cases h2 : q0 < 0
        · rw [if_pos h2] at h
          simp only [Option.some.injEq, Prod.mk.injEq] at h
          obtain ⟨rfl, rfl⟩ := h
          exact SampleUps_no4 k p0 p1 q0 q1 n (decide_eq_false h1) (decide_eq_true h2) w ha hb
        · rw [if_neg h2] at h
          obtain ⟨c, hc, h⟩ := Option.bind_eq_some_iff.mp h
          cases c with
          | false =>
            rw [if_neg (by simp)] at h
            simp only [Option.some.injEq, Prod.mk.injEq] at h
            obtain ⟨rfl, rfl⟩ := h
            exact SampleUps_no5 k p0 p1 q0 q1 n (decide_eq_false h1) (decide_eq_false h2) w ha hb hc
          | true =>
            rw [if_pos rfl] at h
            by_cases hbd : (0 ≤ p0 ∧ p0 ≤ 1000000 ∧ 1 ≤ p1 ∧ p1 ≤ 1000000) ∧ (0 ≤ q0 ∧ q0 ≤ 1000000 ∧ 1 ≤ q1 ∧ q1 ≤ 1000000) ∧ 0 ≤ n ∧ n ≤ 400
            · rw [if_pos hbd] at h
              obtain ⟨⟨b0, b1, b2, b3⟩, ⟨b4, b5, b6, b7⟩, b8, b9⟩ := hbd
              by_cases h3 : p0 * q1 ≤ q0 * p1
              · rw [if_pos h3] at h
                simp only [Option.some.injEq, Prod.mk.injEq] at h
                obtain ⟨rfl, rfl⟩ := h
                exact SampleUps_no6 k p0 p1 q0 q1 n (decide_eq_false h1) (decide_eq_false h2) (decide_eq_true h3) b0 b1 b2 b3 b4 b5 b6 b7 w ha hb hc
              · rw [if_neg h3] at h
                simp only [Option.some.injEq, Prod.mk.injEq] at h
                obtain ⟨rfl, rfl⟩ := h
                obtain ⟨m, rfl⟩ := Int.eq_ofNat_of_zero_le b8
                exact SampleUps_yes k p0 p1 q0 q1 m (decide_eq_false h1) (decide_eq_false h2) (decide_eq_false h3) b0 b1 b2 b3 b4 b5 b6 b7 (by omega) w ha hb hc
            · rw [if_neg hbd] at h
              exact absurd h (by simp)
end Go.Proofs.Ytcpfkfaiakpfjaa.X

-- Written by a program of this session out of the kit's print of the loaded functions: a plain function of a Go function, and its contract.
namespace Go.Proofs.Ytcpfkfaiakpfjaa.X
open Go.RowKit Go.Proofs.YtcpfkfaiakpfjaaW.PrintWords Go.Proofs.YtcpfkfaiakpfjaaW.PrintLast Go.Proofs.YtcpfkfaiakpfjaaW.PrintMore
attribute [local go_sem] max2_int min2_int max_two min_two max_three min_three max_four min_four   -- for this text's walks alone
set_option linter.unusedVariables false
set_option linter.unusedSimpArgs false

/-! ### laws_FnExactSampleUps: function 3 -/
def laws_FnExactSampleUps.f (k : Nat) (a0_0 : Int) (a0_1 : Int) (a1_0 : Int) (a1_1 : Int) (a2 : Int) : Option (Bool) := (laws_toFraction.f a0_0 a0_1).bind fun bt151 => ((laws_toFraction.f a1_0 a1_1).bind fun bt153 => ((spec_SampleUps.f k bt151.1 bt151.2 bt153.1 bt153.2 a2).bind fun bt155 => ((laws_toFraction.f a0_0 a0_1).bind fun bt157 => ((laws_toFraction.f a1_0 a1_1).bind fun bt159 => ((impl_SampleUps.f k bt157.1 bt157.2 bt159.1 bt159.2 a2).bind fun bt161 => (if bt161.1.toList = bt155.1.toList then (if (bt161.2 != bt155.2) = true then (some false) else (some true)) else (some false)))))))
theorem laws_FnExactSampleUps.mono : ∀ a0 a1 a2 a3 a4 k, LeO (laws_FnExactSampleUps.f k a0 a1 a2 a3 a4) (laws_FnExactSampleUps.f (k + 1) a0 a1 a2 a3 a4) := by
  intro a0 a1 a2 a3 a4 k
  unfold laws_FnExactSampleUps.f
  repeat' first
      | (with_reducible exact impl_SampleUps.mono _ _ _ _ _ _)
      | (with_reducible exact spec_SampleUps.mono _ _ _ _ _ _)
      | (with_reducible exact LeO.refl _)
      | (with_reducible exact LeO.none _)
      | (with_reducible refine LeO.ite ?_ ?_)
      | (with_reducible refine LeO.bind ?_ (fun _ => ?_))
      | exact impl_SampleUps.mono _ _ _ _ _ _
      | exact spec_SampleUps.mono _ _ _ _ _ _
      | exact LeO.none _
      | refine LeO.ite ?_ ?_
      | refine LeO.bind ?_ (fun _ => ?_)
def laws_FnExactSampleUps.T1 : Bool × List (List Nat × List Nat) := (true, [([], []), ([0], [0]), ([], []), ([2, 1], [2]), ([], []), ([1, 3, 4, 3], [1, 3, 4]), ([5], [5]), ([6], [6]), ([6], [6]), ([7, 5, 0, 1, 2, 3, 4, 5, 6, 7], [7]), ([8, 9, 0, 1, 2, 3, 4, 5, 6, 7, 8, 9], [8])])
def laws_FnExactSampleUps.B1 : List Nat := [0, 1, 0, 7, 0, 31, 63, 127, 127, 255, 1023]
theorem laws_FnExactSampleUps.tab1 : rtab .any (opsOf Try.f3 1) = laws_FnExactSampleUps.T1 := by kernel_rfl
theorem laws_FnExactSampleUps.bits1 : waitsOk laws_FnExactSampleUps.T1.2 laws_FnExactSampleUps.B1 = true := by kernel_rfl
def laws_FnExactSampleUps.T2 : Bool × List (List Nat × List Nat) := (true, [([], []), ([0], [0]), ([], []), ([2, 1], [2]), ([], []), ([1, 3, 4, 3], [1, 3, 4]), ([5], [5]), ([6], [6]), ([6], [6]), ([7, 5, 0, 1, 2, 3, 4, 5, 6, 7], [7]), ([8, 9, 0, 1, 2, 3, 4, 5, 6, 7, 8, 9], [8])])
def laws_FnExactSampleUps.B2 : List Nat := [0, 1, 0, 7, 0, 31, 63, 127, 127, 255, 1023]
theorem laws_FnExactSampleUps.tab2 : rtab .any (opsOf Try.f3 2) = laws_FnExactSampleUps.T2 := by kernel_rfl
theorem laws_FnExactSampleUps.bits2 : waitsOk laws_FnExactSampleUps.T2.2 laws_FnExactSampleUps.B2 = true := by kernel_rfl
set_option maxHeartbeats 8000000 in
set_option maxRecDepth 100000 in
theorem laws_FnExactSampleUps.calls (k : Nat) (a0_0 : Int) (a0_1 : Int) (a1_0 : Int) (a1_1 : Int) (a2 : Int) (r : Bool) (w : World) (h : laws_FnExactSampleUps.f k a0_0 a0_1 a1_0 a1_1 a2 = some r) :
    Calls Try.prog 3 #[.agg #[.int .i64 a0_0, .int .i64 a0_1], .agg #[.int .i64 a1_0, .int .i64 a1_1], .int .i64 a2] w fun e w' => e = .returned (.bool r) ∧ Below w.heap.size w w' := by
  have hu23 := Try.underlying23
  have HB := Aside0.mk (Below.refl w.heap.size w)
  have H : ((laws_toFraction.f a0_0 a0_1).bind fun bt151 => ((laws_toFraction.f a1_0 a1_1).bind fun bt153 => ((spec_SampleUps.f k bt151.1 bt151.2 bt153.1 bt153.2 a2).bind fun bt155 => ((laws_toFraction.f a0_0 a0_1).bind fun bt157 => ((laws_toFraction.f a1_0 a1_1).bind fun bt159 => ((impl_SampleUps.f k bt157.1 bt157.2 bt159.1 bt159.2 a2).bind fun bt161 => (if bt161.1.toList = bt155.1.toList then (if (bt161.2 != bt155.2) = true then (some false) else (some true)) else (some false)))))))) = some r := h
  clear h
  replace H := Option.bind_eq_some_iff.mp H
  obtain ⟨⟨t151, t152⟩, A40, H⟩ := H
  replace H : ((laws_toFraction.f a1_0 a1_1).bind fun bt153 => ((spec_SampleUps.f k t151 t152 bt153.1 bt153.2 a2).bind fun bt155 => ((laws_toFraction.f a0_0 a0_1).bind fun bt157 => ((laws_toFraction.f a1_0 a1_1).bind fun bt159 => ((impl_SampleUps.f k bt157.1 bt157.2 bt159.1 bt159.2 a2).bind fun bt161 => (if bt161.1.toList = bt155.1.toList then (if (bt161.2 != bt155.2) = true then (some false) else (some true)) else (some false))))))) = some r := H
  have A4 := Aside0.mk A40
  clear A40
  replace H := Option.bind_eq_some_iff.mp H
  obtain ⟨⟨t153, t154⟩, A50, H⟩ := H
  replace H : ((spec_SampleUps.f k t151 t152 t153 t154 a2).bind fun bt155 => ((laws_toFraction.f a0_0 a0_1).bind fun bt157 => ((laws_toFraction.f a1_0 a1_1).bind fun bt159 => ((impl_SampleUps.f k bt157.1 bt157.2 bt159.1 bt159.2 a2).bind fun bt161 => (if bt161.1.toList = bt155.1.toList then (if (bt161.2 != bt155.2) = true then (some false) else (some true)) else (some false)))))) = some r := H
  have A5 := Aside0.mk A50
  clear A50
  replace H := Option.bind_eq_some_iff.mp H
  obtain ⟨⟨t155, t156⟩, A60, H⟩ := H
  replace H : ((laws_toFraction.f a0_0 a0_1).bind fun bt157 => ((laws_toFraction.f a1_0 a1_1).bind fun bt159 => ((impl_SampleUps.f k bt157.1 bt157.2 bt159.1 bt159.2 a2).bind fun bt161 => (if bt161.1.toList = t155.toList then (if (bt161.2 != t156) = true then (some false) else (some true)) else (some false))))) = some r := H
  have A6 := Aside0.mk A60
  clear A60
  replace H := Option.bind_eq_some_iff.mp H
  obtain ⟨⟨t157, t158⟩, A70, H⟩ := H
  replace H : ((laws_toFraction.f a1_0 a1_1).bind fun bt159 => ((impl_SampleUps.f k t157 t158 bt159.1 bt159.2 a2).bind fun bt161 => (if bt161.1.toList = t155.toList then (if (bt161.2 != t156) = true then (some false) else (some true)) else (some false)))) = some r := H
  have A7 := Aside0.mk A70
  clear A70
  replace H := Option.bind_eq_some_iff.mp H
  obtain ⟨⟨t159, t160⟩, A80, H⟩ := H
  replace H : ((impl_SampleUps.f k t157 t158 t159 t160 a2).bind fun bt161 => (if bt161.1.toList = t155.toList then (if (bt161.2 != t156) = true then (some false) else (some true)) else (some false))) = some r := H
  have A8 := Aside0.mk A80
  clear A80
  replace H := Option.bind_eq_some_iff.mp H
  obtain ⟨⟨t161, t162⟩, A90, H⟩ := H
  replace H : (if t161.toList = t155.toList then (if (t162 != t156) = true then (some false) else (some true)) else (some false)) = some r := H
  have A9 := Aside0.mk A90
  clear A90
  by_cases c10 : t161.toList = t155.toList
  · rw [if_pos c10] at H
    have c10b0 : (t161.toList == t155.toList) = true := beq_iff_eq.mpr c10
    have c10b1 : (t161.toList != t155.toList) = false := bne_eq_false_iff_eq.mpr c10
    clear c10
    by_cases c11 : (t162 != t156) = true
    · rw [if_pos c11] at H
      have c11b0 : (t162 != t156) = true := c11
      (try (have c11b1 : decide (t162 = t156) = false := by simpa using c11))
      (try (have c11b2 : (t162 == t156) = false := by simpa using c11))
      (try (have c11b3 : ¬ (t162 = t156) := by simpa using c11))
      clear c11
      obtain rfl := Option.some.inj H
      go_enter Try.func3, Try.ntmps3
      try go_wp2_with (first | ((with_reducible refine gate_dst (N := 3) rfl ?_); refine box_event ?hg (N := 3) ?hd (cs := #[.int .i64 a0_0, .int .i64 a0_1]) (t := 23) ?hr ?_; (case hd => rfl); (case hg => rfl); (case hr => first | (go_simp; done) | (go_simp; rfl)); intro gb149 hg w12 hbox hb; have n0_ := Aside0.mk (below_step (by repeat (first | (with_reducible first | exact HB.out | apply below_alloc | apply pw_below_drewN | apply below_drew1) | exact HB.out)) hb); have n1_ := Aside0.mk (hbox); have n2_ := Aside0.mk ((by rw [hg]; exact (below_size (by repeat (first | (with_reducible first | exact HB.out | apply below_alloc | apply pw_below_drewN | apply below_drew1) | exact HB.out))) : w.heap.size ≤ gb149)); have n3_ := Aside0.mk ((by rw [hg]; exact (below_size (by repeat (first | (with_reducible first | exact HB.out | apply below_alloc | apply pw_below_drewN | apply below_drew1) | exact HB.out))) : w.heap.size ≤ gb149)); clear HB; have HB := n0_; have BK149 := n1_; have GW149 := n2_; have GE149 := n3_; clear n0_ n1_ n2_ n3_; clear hb hbox hg) | ((with_reducible refine gate_dst (N := 4) rfl ?_); refine box_event ?hg (N := 4) ?hd (cs := #[.int .i64 a1_0, .int .i64 a1_1]) (t := 23) ?hr ?_; (case hd => rfl); (case hg => rfl); (case hr => first | (go_simp; done) | (go_simp; rfl)); intro gb150 hg w13 hbox hb; have n0_ := Aside0.mk (blk_below (g := gb149) (o := .cells #[.int .i64 a0_0, .int .i64 a0_1] 23 (0, 0)) (by (with_reducible repeat (first | refine blk_drewN ?_ _ | refine blk_drew ?_ | refine blk_alloc ?_ _)); exact BK149.out) hb); have n1_ := Aside0.mk (below_step (by repeat (first | (with_reducible first | exact HB.out | apply below_alloc | apply pw_below_drewN | apply below_drew1 | refine below_set ?_ GE149.out) | exact HB.out)) hb); have n2_ := Aside0.mk (hbox); have n3_ := Aside0.mk ((by rw [hg]; exact (below_size (by repeat (first | (with_reducible first | exact HB.out | apply below_alloc | apply pw_below_drewN | apply below_drew1 | refine below_set ?_ GE149.out) | exact HB.out))) : w.heap.size ≤ gb150)); have n4_ := Aside0.mk ((by rw [hg]; exact (below_size (by repeat (first | (with_reducible first | exact HB.out | apply below_alloc | apply pw_below_drewN | apply below_drew1 | refine below_set ?_ GE149.out) | exact HB.out))) : w.heap.size ≤ gb150)); have n5_ := Aside0.mk ((by rw [hg]; exact Nat.ne_of_lt (blk_lt (g := gb149) (o := .cells #[.int .i64 a0_0, .int .i64 a0_1] 23 (0, 0)) (by (with_reducible repeat (first | refine blk_drewN ?_ _ | refine blk_drew ?_ | refine blk_alloc ?_ _)); exact BK149.out)) : gb149 ≠ gb150)); have n6_ := Aside0.mk ((by rw [hg]; exact Nat.ne_of_gt (blk_lt (g := gb149) (o := .cells #[.int .i64 a0_0, .int .i64 a0_1] 23 (0, 0)) (by (with_reducible repeat (first | refine blk_drewN ?_ _ | refine blk_drew ?_ | refine blk_alloc ?_ _)); exact BK149.out)) : gb150 ≠ gb149)); clear BK149; clear HB; have BK149 := n0_; have HB := n1_; have BK150 := n2_; have GW150 := n3_; have GE150 := n4_; have NB149_150 := n5_; have NB150_149 := n6_; clear n0_ n1_ n2_ n3_ n4_ n5_ n6_; clear hb hbox hg))
      have n0_ := Aside0.mk (blk_drew BK149.out)
      have n1_ := Aside0.mk (blk_drew BK150.out)
      have n2_ := Aside0.mk (below_drew1 HB.out)
      clear BK149
      clear BK150
      clear HB
      have BK149 := n0_
      have BK150 := n1_
      have HB := n2_
      clear n0_ n1_ n2_
      refine start_ (n := 11) (S := fun w' => w'.cell? ⟨gb149, 0, none⟩ = some (.int .i64 a0_0) ∧ w'.cell? ⟨gb149, 1, none⟩ = some (.int .i64 a0_1) ∧ w'.cell? ⟨gb150, 0, none⟩ = some (.int .i64 a1_0) ∧ w'.cell? ⟨gb150, 1, none⟩ = some (.int .i64 a1_1)) (ds := []) #[false, false, false, false, false, false, false, false, false, false, false] (by kernel_rfl) rfl rfl ⟨(blk_cell BK149.out 0).trans rfl, (blk_cell BK149.out 1).trans rfl, (blk_cell BK150.out 0).trans rfl, (blk_cell BK150.out 1).trans rfl⟩ (fun hHeld => ?_); refine with_tabW laws_FnExactSampleUps.tab1 laws_FnExactSampleUps.bits1 (fun HT_ HW_ => ?_)
      generalize w13.drew = w14 at BK149 BK150 HB hHeld ⊢
      refine pure_ (i := 4) (N := some 16) (v := ?_) (a' := ?_) #[false, false, false, false, true, false, false, false, false, false, false] rfl rfl (any_of HT_.out (by kernel_rfl)) (fun _ _ _ h => h) (Or.inl ⟨by rfl, ?_⟩) ?_ ?_
      rotate_left
      · intro w'
        go_simp
        with_reducible rfl
      rotate_left
      · simp only [Act.put, List.setIfInBounds_toArray, List.set_cons_zero, List.set_cons_succ, i64_w, i32_w]
        rfl
      refine take_ (i := 0) (N := some 12) (v := ?_) (a' := ?_) #[true, false, false, false, true, false, false, false, false, false, false] rfl rfl (take_ofW HT_.out HW_.out (by kernel_rfl)) (fun _ _ _ h => h) (Or.inl ⟨by rfl, ?_⟩) hHeld ?_ ?_
      rotate_left
      · rintro w' ⟨s0, s1, s2, s3⟩
        go_simp
        with_reducible rfl
      rotate_left
      · simp only [Act.put, List.setIfInBounds_toArray, List.set_cons_zero, List.set_cons_succ, i64_w, i32_w]
        rfl
      refine take_ (i := 2) (N := some 14) (v := ?_) (a' := ?_) #[true, false, true, false, true, false, false, false, false, false, false] rfl rfl (take_ofW HT_.out HW_.out (by kernel_rfl)) (fun _ _ _ h => h) (Or.inl ⟨by rfl, ?_⟩) hHeld ?_ ?_
      rotate_left
      · rintro w' ⟨s0, s1, s2, s3⟩
        go_simp
        with_reducible rfl
      rotate_left
      · simp only [Act.put, List.setIfInBounds_toArray, List.set_cons_zero, List.set_cons_succ, i64_w, i32_w]
        rfl
      refine one_ (i := 1) (N := some 13) #[true, true, true, false, true, false, false, false, false, false, false] rfl rfl (one_of HT_.out (by kernel_rfl)) (by decide) (fun K hK => ?_)
      refine goes_ Try.func5 (by kernel_rfl) rfl #[.agg #[.int .i64 a0_0, .int .i64 a0_1]] (by rfl) rfl rfl (by (try simp only [List.map_toArray, List.map_cons, List.map_nil]); first | done | rfl | (simp only [List.length_drop, List.length_take]; rfl)) ?_
      with_reducible refine (laws_toFraction.calls a0_0 a0_1 t151 t152 _ A4.out).mono ?_
      rintro e w15 ⟨rfl, hb⟩
      refine ⟨_, rfl, ?_⟩
      have n0_ := Aside0.mk (blk_below (g := gb149) (o := .cells #[.int .i64 a0_0, .int .i64 a0_1] 23 (0, 0)) (by (with_reducible repeat (first | refine blk_drewN ?_ _ | refine blk_drew ?_ | refine blk_alloc ?_ _)); exact BK149.out) hb)
      have n1_ := Aside0.mk (blk_below (g := gb150) (o := .cells #[.int .i64 a1_0, .int .i64 a1_1] 23 (0, 0)) (by (with_reducible repeat (first | refine blk_drewN ?_ _ | refine blk_drew ?_ | refine blk_alloc ?_ _)); exact BK150.out) hb)
      have n2_ := Aside0.mk (below_step (by repeat (first | (with_reducible first | exact HB.out | apply below_alloc | apply pw_below_drewN | apply below_drew1 | refine below_set ?_ GE149.out | refine below_set ?_ GE150.out) | exact HB.out)) hb)
      clear BK149
      clear BK150
      clear HB
      have BK149 := n0_
      have BK150 := n1_
      have HB := n2_
      clear n0_ n1_ n2_
      (try clear hb)
      (try clear hb2)
      (try clear hk)
      (try clear hi)
      refine hK.out _ _ ⟨(blk_cell BK149.out 0).trans rfl, (blk_cell BK149.out 1).trans rfl, (blk_cell BK150.out 0).trans rfl, (blk_cell BK150.out 1).trans rfl⟩ (fun hHeld => ?_)
      clear hK K
      refine norm_ (a' := ?_) ?_ ?_
      rotate_left
      · show Act.put _ (some 13) _ = _
        simp only [Act.put, List.setIfInBounds_toArray, List.set_cons_zero, List.set_cons_succ, i64_w, i32_w]
        rfl
      refine one_ (i := 3) (N := some 15) #[true, true, true, true, true, false, false, false, false, false, false] rfl rfl (one_of HT_.out (by kernel_rfl)) (by decide) (fun K hK => ?_)
      refine goes_ Try.func5 (by kernel_rfl) rfl #[.agg #[.int .i64 a1_0, .int .i64 a1_1]] (by rfl) rfl rfl (by (try simp only [List.map_toArray, List.map_cons, List.map_nil]); first | done | rfl | (simp only [List.length_drop, List.length_take]; rfl)) ?_
      with_reducible refine (laws_toFraction.calls a1_0 a1_1 t153 t154 _ A5.out).mono ?_
      rintro e w16 ⟨rfl, hb⟩
      refine ⟨_, rfl, ?_⟩
      have n0_ := Aside0.mk (blk_below (g := gb149) (o := .cells #[.int .i64 a0_0, .int .i64 a0_1] 23 (0, 0)) (by (with_reducible repeat (first | refine blk_drewN ?_ _ | refine blk_drew ?_ | refine blk_alloc ?_ _)); exact BK149.out) hb)
      have n1_ := Aside0.mk (blk_below (g := gb150) (o := .cells #[.int .i64 a1_0, .int .i64 a1_1] 23 (0, 0)) (by (with_reducible repeat (first | refine blk_drewN ?_ _ | refine blk_drew ?_ | refine blk_alloc ?_ _)); exact BK150.out) hb)
      have n2_ := Aside0.mk (below_step (by repeat (first | (with_reducible first | exact HB.out | apply below_alloc | apply pw_below_drewN | apply below_drew1 | refine below_set ?_ GE149.out | refine below_set ?_ GE150.out) | exact HB.out)) hb)
      clear BK149
      clear BK150
      clear HB
      have BK149 := n0_
      have BK150 := n1_
      have HB := n2_
      clear n0_ n1_ n2_
      (try clear hb)
      (try clear hb2)
      (try clear hk)
      (try clear hi)
      refine hK.out _ _ ⟨(blk_cell BK149.out 0).trans rfl, (blk_cell BK149.out 1).trans rfl, (blk_cell BK150.out 0).trans rfl, (blk_cell BK150.out 1).trans rfl⟩ (fun hHeld => ?_)
      clear hK K
      refine norm_ (a' := ?_) ?_ ?_
      rotate_left
      · show Act.put _ (some 15) _ = _
        simp only [Act.put, List.setIfInBounds_toArray, List.set_cons_zero, List.set_cons_succ, i64_w, i32_w]
        rfl
      refine one_ (i := 5) (N := some 17) #[true, true, true, true, true, true, false, false, false, false, false] rfl rfl (one_of HT_.out (by kernel_rfl)) (by decide) (fun K hK => ?_)
      refine goes_ Try.func4 (by kernel_rfl) rfl #[.agg #[.int .i64 t151, .int .i64 t152], .agg #[.int .i64 t153, .int .i64 t154], .int .i64 a2] (by rfl) rfl rfl (by (try simp only [List.map_toArray, List.map_cons, List.map_nil]); first | done | rfl | (simp only [List.length_drop, List.length_take]; rfl)) ?_
      with_reducible refine (spec_SampleUps.calls k t151 t152 t153 t154 a2 t155 t156 _ A6.out).mono ?_
      rintro e w17 ⟨rfl, hb⟩
      refine ⟨_, rfl, ?_⟩
      have n0_ := Aside0.mk (blk_below (g := gb149) (o := .cells #[.int .i64 a0_0, .int .i64 a0_1] 23 (0, 0)) (by (with_reducible repeat (first | refine blk_drewN ?_ _ | refine blk_drew ?_ | refine blk_alloc ?_ _)); exact BK149.out) hb)
      have n1_ := Aside0.mk (blk_below (g := gb150) (o := .cells #[.int .i64 a1_0, .int .i64 a1_1] 23 (0, 0)) (by (with_reducible repeat (first | refine blk_drewN ?_ _ | refine blk_drew ?_ | refine blk_alloc ?_ _)); exact BK150.out) hb)
      have n2_ := Aside0.mk (below_step (by repeat (first | (with_reducible first | exact HB.out | apply below_alloc | apply pw_below_drewN | apply below_drew1 | refine below_set ?_ GE149.out | refine below_set ?_ GE150.out) | exact HB.out)) hb)
      clear BK149
      clear BK150
      clear HB
      have BK149 := n0_
      have BK150 := n1_
      have HB := n2_
      clear n0_ n1_ n2_
      (try clear hb)
      (try clear hb2)
      (try clear hk)
      (try clear hi)
      refine hK.out _ _ ⟨(blk_cell BK149.out 0).trans rfl, (blk_cell BK149.out 1).trans rfl, (blk_cell BK150.out 0).trans rfl, (blk_cell BK150.out 1).trans rfl⟩ (fun hHeld => ?_)
      clear hK K
      refine norm_ (a' := ?_) ?_ ?_
      rotate_left
      · show Act.put _ (some 17) _ = _
        simp only [Act.put, List.setIfInBounds_toArray, List.set_cons_zero, List.set_cons_succ, i64_w, i32_w]
        rfl
      refine pure_ (i := 6) (N := some 11) (v := ?_) (a' := ?_) #[true, true, true, true, true, true, true, false, false, false, false] rfl rfl (any_of HT_.out (by kernel_rfl)) (fun _ _ _ h => h) (Or.inl ⟨by rfl, ?_⟩) ?_ ?_
      rotate_left
      · intro w'
        go_simp
        with_reducible rfl
      rotate_left
      · simp only [Act.put, List.setIfInBounds_toArray, List.set_cons_zero, List.set_cons_succ, i64_w, i32_w]
        rfl
      refine pure_ (i := 7) (N := some 18) (v := ?_) (a' := ?_) #[true, true, true, true, true, true, true, true, false, false, false] rfl rfl (any_of HT_.out (by kernel_rfl)) (fun _ _ _ h => h) (Or.inl ⟨by rfl, ?_⟩) ?_ ?_
      rotate_left
      · intro w'
        go_simp
        with_reducible rfl
      rotate_left
      · simp only [Act.put, List.setIfInBounds_toArray, List.set_cons_zero, List.set_cons_succ, i64_w, i32_w]
        rfl
      refine pure_ (i := 8) (N := some 19) (v := ?_) (a' := ?_) #[true, true, true, true, true, true, true, true, true, false, false] rfl rfl (any_of HT_.out (by kernel_rfl)) (fun _ _ _ h => h) (Or.inl ⟨by rfl, ?_⟩) ?_ ?_
      rotate_left
      · intro w'
        go_simp
        with_reducible rfl
      rotate_left
      · simp only [Act.put, List.setIfInBounds_toArray, List.set_cons_zero, List.set_cons_succ, i64_w, i32_w]
        rfl
      refine pure_ (i := 9) (N := some 7) (v := ?_) (a' := ?_) #[true, true, true, true, true, true, true, true, true, true, false] rfl rfl (any_of HT_.out (by kernel_rfl)) (fun _ _ _ h => h) (Or.inl ⟨by rfl, ?_⟩) ?_ ?_
      rotate_left
      · intro w'
        go_simp
        with_reducible rfl
      rotate_left
      · simp only [Act.put, List.setIfInBounds_toArray, List.set_cons_zero, List.set_cons_succ, i64_w, i32_w]
        rfl
      refine pure_ (i := 10) (N := some 8) (v := ?_) (a' := ?_) #[true, true, true, true, true, true, true, true, true, true, true] rfl rfl (any_of HT_.out (by kernel_rfl)) (fun _ _ _ h => h) (Or.inl ⟨by rfl, ?_⟩) ?_ ?_
      rotate_left
      · intro w'
        go_simp
        with_reducible rfl
      rotate_left
      · simp only [Act.put, List.setIfInBounds_toArray, List.set_cons_zero, List.set_cons_succ, i64_w, i32_w]
        rfl
      refine done_ (done_of HT_.out (by kernel_rfl)) ?_
      try go_wp2
      have n0_ := Aside0.mk (blk_drew BK149.out)
      have n1_ := Aside0.mk (blk_drew BK150.out)
      have n2_ := Aside0.mk (below_drew1 HB.out)
      clear BK149
      clear BK150
      clear HB
      have BK149 := n0_
      have BK150 := n1_
      have HB := n2_
      clear n0_ n1_ n2_
      refine start_ (n := 11) (S := fun w' => w'.cell? ⟨gb149, 0, none⟩ = some (.int .i64 a0_0) ∧ w'.cell? ⟨gb149, 1, none⟩ = some (.int .i64 a0_1) ∧ w'.cell? ⟨gb150, 0, none⟩ = some (.int .i64 a1_0) ∧ w'.cell? ⟨gb150, 1, none⟩ = some (.int .i64 a1_1)) (ds := []) #[false, false, false, false, false, false, false, false, false, false, false] (by kernel_rfl) rfl rfl ⟨(blk_cell BK149.out 0).trans rfl, (blk_cell BK149.out 1).trans rfl, (blk_cell BK150.out 0).trans rfl, (blk_cell BK150.out 1).trans rfl⟩ (fun hHeld => ?_); refine with_tabW laws_FnExactSampleUps.tab2 laws_FnExactSampleUps.bits2 (fun HT_ HW_ => ?_)
      generalize w17.drew = w18 at BK149 BK150 HB hHeld ⊢
      refine pure_ (i := 4) (N := some 25) (v := ?_) (a' := ?_) #[false, false, false, false, true, false, false, false, false, false, false] rfl rfl (any_of HT_.out (by kernel_rfl)) (fun _ _ _ h => h) (Or.inl ⟨by rfl, ?_⟩) ?_ ?_
      rotate_left
      · intro w'
        go_simp
        with_reducible rfl
      rotate_left
      · simp only [Act.put, List.setIfInBounds_toArray, List.set_cons_zero, List.set_cons_succ, i64_w, i32_w]
        rfl
      refine take_ (i := 0) (N := some 21) (v := ?_) (a' := ?_) #[true, false, false, false, true, false, false, false, false, false, false] rfl rfl (take_ofW HT_.out HW_.out (by kernel_rfl)) (fun _ _ _ h => h) (Or.inl ⟨by rfl, ?_⟩) hHeld ?_ ?_
      rotate_left
      · rintro w' ⟨s0, s1, s2, s3⟩
        go_simp
        with_reducible rfl
      rotate_left
      · simp only [Act.put, List.setIfInBounds_toArray, List.set_cons_zero, List.set_cons_succ, i64_w, i32_w]
        rfl
      refine take_ (i := 2) (N := some 23) (v := ?_) (a' := ?_) #[true, false, true, false, true, false, false, false, false, false, false] rfl rfl (take_ofW HT_.out HW_.out (by kernel_rfl)) (fun _ _ _ h => h) (Or.inl ⟨by rfl, ?_⟩) hHeld ?_ ?_
      rotate_left
      · rintro w' ⟨s0, s1, s2, s3⟩
        go_simp
        with_reducible rfl
      rotate_left
      · simp only [Act.put, List.setIfInBounds_toArray, List.set_cons_zero, List.set_cons_succ, i64_w, i32_w]
        rfl
      refine one_ (i := 1) (N := some 22) #[true, true, true, false, true, false, false, false, false, false, false] rfl rfl (one_of HT_.out (by kernel_rfl)) (by decide) (fun K hK => ?_)
      refine goes_ Try.func5 (by kernel_rfl) rfl #[.agg #[.int .i64 a0_0, .int .i64 a0_1]] (by rfl) rfl rfl (by (try simp only [List.map_toArray, List.map_cons, List.map_nil]); first | done | rfl | (simp only [List.length_drop, List.length_take]; rfl)) ?_
      with_reducible refine (laws_toFraction.calls a0_0 a0_1 t157 t158 _ A7.out).mono ?_
      rintro e w19 ⟨rfl, hb⟩
      refine ⟨_, rfl, ?_⟩
      have n0_ := Aside0.mk (blk_below (g := gb149) (o := .cells #[.int .i64 a0_0, .int .i64 a0_1] 23 (0, 0)) (by (with_reducible repeat (first | refine blk_drewN ?_ _ | refine blk_drew ?_ | refine blk_alloc ?_ _)); exact BK149.out) hb)
      have n1_ := Aside0.mk (blk_below (g := gb150) (o := .cells #[.int .i64 a1_0, .int .i64 a1_1] 23 (0, 0)) (by (with_reducible repeat (first | refine blk_drewN ?_ _ | refine blk_drew ?_ | refine blk_alloc ?_ _)); exact BK150.out) hb)
      have n2_ := Aside0.mk (below_step (by repeat (first | (with_reducible first | exact HB.out | apply below_alloc | apply pw_below_drewN | apply below_drew1 | refine below_set ?_ GE149.out | refine below_set ?_ GE150.out) | exact HB.out)) hb)
      clear BK149
      clear BK150
      clear HB
      have BK149 := n0_
      have BK150 := n1_
      have HB := n2_
      clear n0_ n1_ n2_
      (try clear hb)
      (try clear hb2)
      (try clear hk)
      (try clear hi)
      refine hK.out _ _ ⟨(blk_cell BK149.out 0).trans rfl, (blk_cell BK149.out 1).trans rfl, (blk_cell BK150.out 0).trans rfl, (blk_cell BK150.out 1).trans rfl⟩ (fun hHeld => ?_)
      clear hK K
      refine norm_ (a' := ?_) ?_ ?_
      rotate_left
      · show Act.put _ (some 22) _ = _
        simp only [Act.put, List.setIfInBounds_toArray, List.set_cons_zero, List.set_cons_succ, i64_w, i32_w]
        rfl
      refine one_ (i := 3) (N := some 24) #[true, true, true, true, true, false, false, false, false, false, false] rfl rfl (one_of HT_.out (by kernel_rfl)) (by decide) (fun K hK => ?_)
      refine goes_ Try.func5 (by kernel_rfl) rfl #[.agg #[.int .i64 a1_0, .int .i64 a1_1]] (by rfl) rfl rfl (by (try simp only [List.map_toArray, List.map_cons, List.map_nil]); first | done | rfl | (simp only [List.length_drop, List.length_take]; rfl)) ?_
      with_reducible refine (laws_toFraction.calls a1_0 a1_1 t159 t160 _ A8.out).mono ?_
      rintro e w20 ⟨rfl, hb⟩
      refine ⟨_, rfl, ?_⟩
      have n0_ := Aside0.mk (blk_below (g := gb149) (o := .cells #[.int .i64 a0_0, .int .i64 a0_1] 23 (0, 0)) (by (with_reducible repeat (first | refine blk_drewN ?_ _ | refine blk_drew ?_ | refine blk_alloc ?_ _)); exact BK149.out) hb)
      have n1_ := Aside0.mk (blk_below (g := gb150) (o := .cells #[.int .i64 a1_0, .int .i64 a1_1] 23 (0, 0)) (by (with_reducible repeat (first | refine blk_drewN ?_ _ | refine blk_drew ?_ | refine blk_alloc ?_ _)); exact BK150.out) hb)
      have n2_ := Aside0.mk (below_step (by repeat (first | (with_reducible first | exact HB.out | apply below_alloc | apply pw_below_drewN | apply below_drew1 | refine below_set ?_ GE149.out | refine below_set ?_ GE150.out) | exact HB.out)) hb)
      clear BK149
      clear BK150
      clear HB
      have BK149 := n0_
      have BK150 := n1_
      have HB := n2_
      clear n0_ n1_ n2_
      (try clear hb)
      (try clear hb2)
      (try clear hk)
      (try clear hi)
      refine hK.out _ _ ⟨(blk_cell BK149.out 0).trans rfl, (blk_cell BK149.out 1).trans rfl, (blk_cell BK150.out 0).trans rfl, (blk_cell BK150.out 1).trans rfl⟩ (fun hHeld => ?_)
      clear hK K
      refine norm_ (a' := ?_) ?_ ?_
      rotate_left
      · show Act.put _ (some 24) _ = _
        simp only [Act.put, List.setIfInBounds_toArray, List.set_cons_zero, List.set_cons_succ, i64_w, i32_w]
        rfl
      refine one_ (i := 5) (N := some 26) #[true, true, true, true, true, true, false, false, false, false, false] rfl rfl (one_of HT_.out (by kernel_rfl)) (by decide) (fun K hK => ?_)
      refine goes_ Try.func6 (by kernel_rfl) rfl #[.agg #[.int .i64 t157, .int .i64 t158], .agg #[.int .i64 t159, .int .i64 t160], .int .i64 a2] (by rfl) rfl rfl (by (try simp only [List.map_toArray, List.map_cons, List.map_nil]); first | done | rfl | (simp only [List.length_drop, List.length_take]; rfl)) ?_
      with_reducible refine (impl_SampleUps.calls k t157 t158 t159 t160 a2 t161 t162 _ A9.out).mono ?_
      rintro e w21 ⟨rfl, hb⟩
      refine ⟨_, rfl, ?_⟩
      have n0_ := Aside0.mk (blk_below (g := gb149) (o := .cells #[.int .i64 a0_0, .int .i64 a0_1] 23 (0, 0)) (by (with_reducible repeat (first | refine blk_drewN ?_ _ | refine blk_drew ?_ | refine blk_alloc ?_ _)); exact BK149.out) hb)
      have n1_ := Aside0.mk (blk_below (g := gb150) (o := .cells #[.int .i64 a1_0, .int .i64 a1_1] 23 (0, 0)) (by (with_reducible repeat (first | refine blk_drewN ?_ _ | refine blk_drew ?_ | refine blk_alloc ?_ _)); exact BK150.out) hb)
      have n2_ := Aside0.mk (below_step (by repeat (first | (with_reducible first | exact HB.out | apply below_alloc | apply pw_below_drewN | apply below_drew1 | refine below_set ?_ GE149.out | refine below_set ?_ GE150.out) | exact HB.out)) hb)
      clear BK149
      clear BK150
      clear HB
      have BK149 := n0_
      have BK150 := n1_
      have HB := n2_
      clear n0_ n1_ n2_
      (try clear hb)
      (try clear hb2)
      (try clear hk)
      (try clear hi)
      refine hK.out _ _ ⟨(blk_cell BK149.out 0).trans rfl, (blk_cell BK149.out 1).trans rfl, (blk_cell BK150.out 0).trans rfl, (blk_cell BK150.out 1).trans rfl⟩ (fun hHeld => ?_)
      clear hK K
      refine norm_ (a' := ?_) ?_ ?_
      rotate_left
      · show Act.put _ (some 26) _ = _
        simp only [Act.put, List.setIfInBounds_toArray, List.set_cons_zero, List.set_cons_succ, i64_w, i32_w]
        rfl
      refine pure_ (i := 6) (N := some 20) (v := ?_) (a' := ?_) #[true, true, true, true, true, true, true, false, false, false, false] rfl rfl (any_of HT_.out (by kernel_rfl)) (fun _ _ _ h => h) (Or.inl ⟨by rfl, ?_⟩) ?_ ?_
      rotate_left
      · intro w'
        go_simp
        with_reducible rfl
      rotate_left
      · simp only [Act.put, List.setIfInBounds_toArray, List.set_cons_zero, List.set_cons_succ, i64_w, i32_w]
        rfl
      refine pure_ (i := 7) (N := some 27) (v := ?_) (a' := ?_) #[true, true, true, true, true, true, true, true, false, false, false] rfl rfl (any_of HT_.out (by kernel_rfl)) (fun _ _ _ h => h) (Or.inl ⟨by rfl, ?_⟩) ?_ ?_
      rotate_left
      · intro w'
        go_simp
        with_reducible rfl
      rotate_left
      · simp only [Act.put, List.setIfInBounds_toArray, List.set_cons_zero, List.set_cons_succ, i64_w, i32_w]
        rfl
      refine pure_ (i := 8) (N := some 28) (v := ?_) (a' := ?_) #[true, true, true, true, true, true, true, true, true, false, false] rfl rfl (any_of HT_.out (by kernel_rfl)) (fun _ _ _ h => h) (Or.inl ⟨by rfl, ?_⟩) ?_ ?_
      rotate_left
      · intro w'
        go_simp
        with_reducible rfl
      rotate_left
      · simp only [Act.put, List.setIfInBounds_toArray, List.set_cons_zero, List.set_cons_succ, i64_w, i32_w]
        rfl
      refine pure_ (i := 9) (N := some 9) (v := ?_) (a' := ?_) #[true, true, true, true, true, true, true, true, true, true, false] rfl rfl (any_of HT_.out (by kernel_rfl)) (fun _ _ _ h => h) (Or.inl ⟨by rfl, ?_⟩) ?_ ?_
      rotate_left
      · intro w'
        go_simp
        with_reducible rfl
      rotate_left
      · simp only [Act.put, List.setIfInBounds_toArray, List.set_cons_zero, List.set_cons_succ, i64_w, i32_w]
        rfl
      refine pure_ (i := 10) (N := some 10) (v := ?_) (a' := ?_) #[true, true, true, true, true, true, true, true, true, true, true] rfl rfl (any_of HT_.out (by kernel_rfl)) (fun _ _ _ h => h) (Or.inl ⟨by rfl, ?_⟩) ?_ ?_
      rotate_left
      · intro w'
        go_simp
        with_reducible rfl
      rotate_left
      · simp only [Act.put, List.setIfInBounds_toArray, List.set_cons_zero, List.set_cons_succ, i64_w, i32_w]
        rfl
      refine done_ (done_of HT_.out (by kernel_rfl)) ?_
      try go_wp2
      go_ret
      exact ⟨by first | rfl | (simp [errW_none, errW_some] <;> rfl) | (simp [*, errW_none, errW_some] <;> rfl), by repeat (first | (with_reducible first | exact HB.out | apply below_alloc | apply pw_below_drewN | apply below_drew1 | refine below_set ?_ GE149.out | refine below_set ?_ GE150.out) | exact HB.out)⟩
    · rw [if_neg c11] at H
      have c11b0 : (t162 != t156) = false := by simpa using c11
      (try (have c11b1 : decide (t162 = t156) = true := by simpa using c11))
      (try (have c11b2 : (t162 == t156) = true := by simpa using c11))
      clear c11
      obtain rfl := Option.some.inj H
      go_enter Try.func3, Try.ntmps3
      try go_wp2_with (first | ((with_reducible refine gate_dst (N := 3) rfl ?_); refine box_event ?hg (N := 3) ?hd (cs := #[.int .i64 a0_0, .int .i64 a0_1]) (t := 23) ?hr ?_; (case hd => rfl); (case hg => rfl); (case hr => first | (go_simp; done) | (go_simp; rfl)); intro gb149 hg w22 hbox hb; have n0_ := Aside0.mk (below_step (by repeat (first | (with_reducible first | exact HB.out | apply below_alloc | apply pw_below_drewN | apply below_drew1) | exact HB.out)) hb); have n1_ := Aside0.mk (hbox); have n2_ := Aside0.mk ((by rw [hg]; exact (below_size (by repeat (first | (with_reducible first | exact HB.out | apply below_alloc | apply pw_below_drewN | apply below_drew1) | exact HB.out))) : w.heap.size ≤ gb149)); have n3_ := Aside0.mk ((by rw [hg]; exact (below_size (by repeat (first | (with_reducible first | exact HB.out | apply below_alloc | apply pw_below_drewN | apply below_drew1) | exact HB.out))) : w.heap.size ≤ gb149)); clear HB; have HB := n0_; have BK149 := n1_; have GW149 := n2_; have GE149 := n3_; clear n0_ n1_ n2_ n3_; clear hb hbox hg) | ((with_reducible refine gate_dst (N := 4) rfl ?_); refine box_event ?hg (N := 4) ?hd (cs := #[.int .i64 a1_0, .int .i64 a1_1]) (t := 23) ?hr ?_; (case hd => rfl); (case hg => rfl); (case hr => first | (go_simp; done) | (go_simp; rfl)); intro gb150 hg w23 hbox hb; have n0_ := Aside0.mk (blk_below (g := gb149) (o := .cells #[.int .i64 a0_0, .int .i64 a0_1] 23 (0, 0)) (by (with_reducible repeat (first | refine blk_drewN ?_ _ | refine blk_drew ?_ | refine blk_alloc ?_ _)); exact BK149.out) hb); have n1_ := Aside0.mk (below_step (by repeat (first | (with_reducible first | exact HB.out | apply below_alloc | apply pw_below_drewN | apply below_drew1 | refine below_set ?_ GE149.out) | exact HB.out)) hb); have n2_ := Aside0.mk (hbox); have n3_ := Aside0.mk ((by rw [hg]; exact (below_size (by repeat (first | (with_reducible first | exact HB.out | apply below_alloc | apply pw_below_drewN | apply below_drew1 | refine below_set ?_ GE149.out) | exact HB.out))) : w.heap.size ≤ gb150)); have n4_ := Aside0.mk ((by rw [hg]; exact (below_size (by repeat (first | (with_reducible first | exact HB.out | apply below_alloc | apply pw_below_drewN | apply below_drew1 | refine below_set ?_ GE149.out) | exact HB.out))) : w.heap.size ≤ gb150)); have n5_ := Aside0.mk ((by rw [hg]; exact Nat.ne_of_lt (blk_lt (g := gb149) (o := .cells #[.int .i64 a0_0, .int .i64 a0_1] 23 (0, 0)) (by (with_reducible repeat (first | refine blk_drewN ?_ _ | refine blk_drew ?_ | refine blk_alloc ?_ _)); exact BK149.out)) : gb149 ≠ gb150)); have n6_ := Aside0.mk ((by rw [hg]; exact Nat.ne_of_gt (blk_lt (g := gb149) (o := .cells #[.int .i64 a0_0, .int .i64 a0_1] 23 (0, 0)) (by (with_reducible repeat (first | refine blk_drewN ?_ _ | refine blk_drew ?_ | refine blk_alloc ?_ _)); exact BK149.out)) : gb150 ≠ gb149)); clear BK149; clear HB; have BK149 := n0_; have HB := n1_; have BK150 := n2_; have GW150 := n3_; have GE150 := n4_; have NB149_150 := n5_; have NB150_149 := n6_; clear n0_ n1_ n2_ n3_ n4_ n5_ n6_; clear hb hbox hg))
      have n0_ := Aside0.mk (blk_drew BK149.out)
      have n1_ := Aside0.mk (blk_drew BK150.out)
      have n2_ := Aside0.mk (below_drew1 HB.out)
      clear BK149
      clear BK150
      clear HB
      have BK149 := n0_
      have BK150 := n1_
      have HB := n2_
      clear n0_ n1_ n2_
      refine start_ (n := 11) (S := fun w' => w'.cell? ⟨gb149, 0, none⟩ = some (.int .i64 a0_0) ∧ w'.cell? ⟨gb149, 1, none⟩ = some (.int .i64 a0_1) ∧ w'.cell? ⟨gb150, 0, none⟩ = some (.int .i64 a1_0) ∧ w'.cell? ⟨gb150, 1, none⟩ = some (.int .i64 a1_1)) (ds := []) #[false, false, false, false, false, false, false, false, false, false, false] (by kernel_rfl) rfl rfl ⟨(blk_cell BK149.out 0).trans rfl, (blk_cell BK149.out 1).trans rfl, (blk_cell BK150.out 0).trans rfl, (blk_cell BK150.out 1).trans rfl⟩ (fun hHeld => ?_); refine with_tabW laws_FnExactSampleUps.tab1 laws_FnExactSampleUps.bits1 (fun HT_ HW_ => ?_)
      generalize w23.drew = w24 at BK149 BK150 HB hHeld ⊢
      refine pure_ (i := 4) (N := some 16) (v := ?_) (a' := ?_) #[false, false, false, false, true, false, false, false, false, false, false] rfl rfl (any_of HT_.out (by kernel_rfl)) (fun _ _ _ h => h) (Or.inl ⟨by rfl, ?_⟩) ?_ ?_
      rotate_left
      · intro w'
        go_simp
        with_reducible rfl
      rotate_left
      · simp only [Act.put, List.setIfInBounds_toArray, List.set_cons_zero, List.set_cons_succ, i64_w, i32_w]
        rfl
      refine take_ (i := 0) (N := some 12) (v := ?_) (a' := ?_) #[true, false, false, false, true, false, false, false, false, false, false] rfl rfl (take_ofW HT_.out HW_.out (by kernel_rfl)) (fun _ _ _ h => h) (Or.inl ⟨by rfl, ?_⟩) hHeld ?_ ?_
      rotate_left
      · rintro w' ⟨s0, s1, s2, s3⟩
        go_simp
        with_reducible rfl
      rotate_left
      · simp only [Act.put, List.setIfInBounds_toArray, List.set_cons_zero, List.set_cons_succ, i64_w, i32_w]
        rfl
      refine take_ (i := 2) (N := some 14) (v := ?_) (a' := ?_) #[true, false, true, false, true, false, false, false, false, false, false] rfl rfl (take_ofW HT_.out HW_.out (by kernel_rfl)) (fun _ _ _ h => h) (Or.inl ⟨by rfl, ?_⟩) hHeld ?_ ?_
      rotate_left
      · rintro w' ⟨s0, s1, s2, s3⟩
        go_simp
        with_reducible rfl
      rotate_left
      · simp only [Act.put, List.setIfInBounds_toArray, List.set_cons_zero, List.set_cons_succ, i64_w, i32_w]
        rfl
      refine one_ (i := 1) (N := some 13) #[true, true, true, false, true, false, false, false, false, false, false] rfl rfl (one_of HT_.out (by kernel_rfl)) (by decide) (fun K hK => ?_)
      refine goes_ Try.func5 (by kernel_rfl) rfl #[.agg #[.int .i64 a0_0, .int .i64 a0_1]] (by rfl) rfl rfl (by (try simp only [List.map_toArray, List.map_cons, List.map_nil]); first | done | rfl | (simp only [List.length_drop, List.length_take]; rfl)) ?_
      with_reducible refine (laws_toFraction.calls a0_0 a0_1 t151 t152 _ A4.out).mono ?_
      rintro e w25 ⟨rfl, hb⟩
      refine ⟨_, rfl, ?_⟩
      have n0_ := Aside0.mk (blk_below (g := gb149) (o := .cells #[.int .i64 a0_0, .int .i64 a0_1] 23 (0, 0)) (by (with_reducible repeat (first | refine blk_drewN ?_ _ | refine blk_drew ?_ | refine blk_alloc ?_ _)); exact BK149.out) hb)
      have n1_ := Aside0.mk (blk_below (g := gb150) (o := .cells #[.int .i64 a1_0, .int .i64 a1_1] 23 (0, 0)) (by (with_reducible repeat (first | refine blk_drewN ?_ _ | refine blk_drew ?_ | refine blk_alloc ?_ _)); exact BK150.out) hb)
      have n2_ := Aside0.mk (below_step (by repeat (first | (with_reducible first | exact HB.out | apply below_alloc | apply pw_below_drewN | apply below_drew1 | refine below_set ?_ GE149.out | refine below_set ?_ GE150.out) | exact HB.out)) hb)
      clear BK149
      clear BK150
      clear HB
      have BK149 := n0_
      have BK150 := n1_
      have HB := n2_
      clear n0_ n1_ n2_
      (try clear hb)
      (try clear hb2)
      (try clear hk)
      (try clear hi)
      refine hK.out _ _ ⟨(blk_cell BK149.out 0).trans rfl, (blk_cell BK149.out 1).trans rfl, (blk_cell BK150.out 0).trans rfl, (blk_cell BK150.out 1).trans rfl⟩ (fun hHeld => ?_)
      clear hK K
      refine norm_ (a' := ?_) ?_ ?_
      rotate_left
      · show Act.put _ (some 13) _ = _
        simp only [Act.put, List.setIfInBounds_toArray, List.set_cons_zero, List.set_cons_succ, i64_w, i32_w]
        rfl
      refine one_ (i := 3) (N := some 15) #[true, true, true, true, true, false, false, false, false, false, false] rfl rfl (one_of HT_.out (by kernel_rfl)) (by decide) (fun K hK => ?_)
      refine goes_ Try.func5 (by kernel_rfl) rfl #[.agg #[.int .i64 a1_0, .int .i64 a1_1]] (by rfl) rfl rfl (by (try simp only [List.map_toArray, List.map_cons, List.map_nil]); first | done | rfl | (simp only [List.length_drop, List.length_take]; rfl)) ?_
      with_reducible refine (laws_toFraction.calls a1_0 a1_1 t153 t154 _ A5.out).mono ?_
      rintro e w26 ⟨rfl, hb⟩
      refine ⟨_, rfl, ?_⟩
      have n0_ := Aside0.mk (blk_below (g := gb149) (o := .cells #[.int .i64 a0_0, .int .i64 a0_1] 23 (0, 0)) (by (with_reducible repeat (first | refine blk_drewN ?_ _ | refine blk_drew ?_ | refine blk_alloc ?_ _)); exact BK149.out) hb)
      have n1_ := Aside0.mk (blk_below (g := gb150) (o := .cells #[.int .i64 a1_0, .int .i64 a1_1] 23 (0, 0)) (by (with_reducible repeat (first | refine blk_drewN ?_ _ | refine blk_drew ?_ | refine blk_alloc ?_ _)); exact BK150.out) hb)
      have n2_ := Aside0.mk (below_step (by repeat (first | (with_reducible first | exact HB.out | apply below_alloc | apply pw_below_drewN | apply below_drew1 | refine below_set ?_ GE149.out | refine below_set ?_ GE150.out) | exact HB.out)) hb)
      clear BK149
      clear BK150
      clear HB
      have BK149 := n0_
      have BK150 := n1_
      have HB := n2_
      clear n0_ n1_ n2_
      (try clear hb)
      (try clear hb2)
      (try clear hk)
      (try clear hi)
      refine hK.out _ _ ⟨(blk_cell BK149.out 0).trans rfl, (blk_cell BK149.out 1).trans rfl, (blk_cell BK150.out 0).trans rfl, (blk_cell BK150.out 1).trans rfl⟩ (fun hHeld => ?_)
      clear hK K
      refine norm_ (a' := ?_) ?_ ?_
      rotate_left
      · show Act.put _ (some 15) _ = _
        simp only [Act.put, List.setIfInBounds_toArray, List.set_cons_zero, List.set_cons_succ, i64_w, i32_w]
        rfl
      refine one_ (i := 5) (N := some 17) #[true, true, true, true, true, true, false, false, false, false, false] rfl rfl (one_of HT_.out (by kernel_rfl)) (by decide) (fun K hK => ?_)
      refine goes_ Try.func4 (by kernel_rfl) rfl #[.agg #[.int .i64 t151, .int .i64 t152], .agg #[.int .i64 t153, .int .i64 t154], .int .i64 a2] (by rfl) rfl rfl (by (try simp only [List.map_toArray, List.map_cons, List.map_nil]); first | done | rfl | (simp only [List.length_drop, List.length_take]; rfl)) ?_
      with_reducible refine (spec_SampleUps.calls k t151 t152 t153 t154 a2 t155 t156 _ A6.out).mono ?_
      rintro e w27 ⟨rfl, hb⟩
      refine ⟨_, rfl, ?_⟩
      have n0_ := Aside0.mk (blk_below (g := gb149) (o := .cells #[.int .i64 a0_0, .int .i64 a0_1] 23 (0, 0)) (by (with_reducible repeat (first | refine blk_drewN ?_ _ | refine blk_drew ?_ | refine blk_alloc ?_ _)); exact BK149.out) hb)
      have n1_ := Aside0.mk (blk_below (g := gb150) (o := .cells #[.int .i64 a1_0, .int .i64 a1_1] 23 (0, 0)) (by (with_reducible repeat (first | refine blk_drewN ?_ _ | refine blk_drew ?_ | refine blk_alloc ?_ _)); exact BK150.out) hb)
      have n2_ := Aside0.mk (below_step (by repeat (first | (with_reducible first | exact HB.out | apply below_alloc | apply pw_below_drewN | apply below_drew1 | refine below_set ?_ GE149.out | refine below_set ?_ GE150.out) | exact HB.out)) hb)
      clear BK149
      clear BK150
      clear HB
      have BK149 := n0_
      have BK150 := n1_
      have HB := n2_
      clear n0_ n1_ n2_
      (try clear hb)
      (try clear hb2)
      (try clear hk)
      (try clear hi)
      refine hK.out _ _ ⟨(blk_cell BK149.out 0).trans rfl, (blk_cell BK149.out 1).trans rfl, (blk_cell BK150.out 0).trans rfl, (blk_cell BK150.out 1).trans rfl⟩ (fun hHeld => ?_)
      clear hK K
      refine norm_ (a' := ?_) ?_ ?_
      rotate_left
      · show Act.put _ (some 17) _ = _
        simp only [Act.put, List.setIfInBounds_toArray, List.set_cons_zero, List.set_cons_succ, i64_w, i32_w]
        rfl
      refine pure_ (i := 6) (N := some 11) (v := ?_) (a' := ?_) #[true, true, true, true, true, true, true, false, false, false, false] rfl rfl (any_of HT_.out (by kernel_rfl)) (fun _ _ _ h => h) (Or.inl ⟨by rfl, ?_⟩) ?_ ?_
      rotate_left
      · intro w'
        go_simp
        with_reducible rfl
      rotate_left
      · simp only [Act.put, List.setIfInBounds_toArray, List.set_cons_zero, List.set_cons_succ, i64_w, i32_w]
        rfl
      refine pure_ (i := 7) (N := some 18) (v := ?_) (a' := ?_) #[true, true, true, true, true, true, true, true, false, false, false] rfl rfl (any_of HT_.out (by kernel_rfl)) (fun _ _ _ h => h) (Or.inl ⟨by rfl, ?_⟩) ?_ ?_
      rotate_left
      · intro w'
        go_simp
        with_reducible rfl
      rotate_left
      · simp only [Act.put, List.setIfInBounds_toArray, List.set_cons_zero, List.set_cons_succ, i64_w, i32_w]
        rfl
      refine pure_ (i := 8) (N := some 19) (v := ?_) (a' := ?_) #[true, true, true, true, true, true, true, true, true, false, false] rfl rfl (any_of HT_.out (by kernel_rfl)) (fun _ _ _ h => h) (Or.inl ⟨by rfl, ?_⟩) ?_ ?_
      rotate_left
      · intro w'
        go_simp
        with_reducible rfl
      rotate_left
      · simp only [Act.put, List.setIfInBounds_toArray, List.set_cons_zero, List.set_cons_succ, i64_w, i32_w]
        rfl
      refine pure_ (i := 9) (N := some 7) (v := ?_) (a' := ?_) #[true, true, true, true, true, true, true, true, true, true, false] rfl rfl (any_of HT_.out (by kernel_rfl)) (fun _ _ _ h => h) (Or.inl ⟨by rfl, ?_⟩) ?_ ?_
      rotate_left
      · intro w'
        go_simp
        with_reducible rfl
      rotate_left
      · simp only [Act.put, List.setIfInBounds_toArray, List.set_cons_zero, List.set_cons_succ, i64_w, i32_w]
        rfl
      refine pure_ (i := 10) (N := some 8) (v := ?_) (a' := ?_) #[true, true, true, true, true, true, true, true, true, true, true] rfl rfl (any_of HT_.out (by kernel_rfl)) (fun _ _ _ h => h) (Or.inl ⟨by rfl, ?_⟩) ?_ ?_
      rotate_left
      · intro w'
        go_simp
        with_reducible rfl
      rotate_left
      · simp only [Act.put, List.setIfInBounds_toArray, List.set_cons_zero, List.set_cons_succ, i64_w, i32_w]
        rfl
      refine done_ (done_of HT_.out (by kernel_rfl)) ?_
      try go_wp2
      have n0_ := Aside0.mk (blk_drew BK149.out)
      have n1_ := Aside0.mk (blk_drew BK150.out)
      have n2_ := Aside0.mk (below_drew1 HB.out)
      clear BK149
      clear BK150
      clear HB
      have BK149 := n0_
      have BK150 := n1_
      have HB := n2_
      clear n0_ n1_ n2_
      refine start_ (n := 11) (S := fun w' => w'.cell? ⟨gb149, 0, none⟩ = some (.int .i64 a0_0) ∧ w'.cell? ⟨gb149, 1, none⟩ = some (.int .i64 a0_1) ∧ w'.cell? ⟨gb150, 0, none⟩ = some (.int .i64 a1_0) ∧ w'.cell? ⟨gb150, 1, none⟩ = some (.int .i64 a1_1)) (ds := []) #[false, false, false, false, false, false, false, false, false, false, false] (by kernel_rfl) rfl rfl ⟨(blk_cell BK149.out 0).trans rfl, (blk_cell BK149.out 1).trans rfl, (blk_cell BK150.out 0).trans rfl, (blk_cell BK150.out 1).trans rfl⟩ (fun hHeld => ?_); refine with_tabW laws_FnExactSampleUps.tab2 laws_FnExactSampleUps.bits2 (fun HT_ HW_ => ?_)
      generalize w27.drew = w28 at BK149 BK150 HB hHeld ⊢
      refine pure_ (i := 4) (N := some 25) (v := ?_) (a' := ?_) #[false, false, false, false, true, false, false, false, false, false, false] rfl rfl (any_of HT_.out (by kernel_rfl)) (fun _ _ _ h => h) (Or.inl ⟨by rfl, ?_⟩) ?_ ?_
      rotate_left
      · intro w'
        go_simp
        with_reducible rfl
      rotate_left
      · simp only [Act.put, List.setIfInBounds_toArray, List.set_cons_zero, List.set_cons_succ, i64_w, i32_w]
        rfl
      refine take_ (i := 0) (N := some 21) (v := ?_) (a' := ?_) #[true, false, false, false, true, false, false, false, false, false, false] rfl rfl (take_ofW HT_.out HW_.out (by kernel_rfl)) (fun _ _ _ h => h) (Or.inl ⟨by rfl, ?_⟩) hHeld ?_ ?_
      rotate_left
      · rintro w' ⟨s0, s1, s2, s3⟩
        go_simp
        with_reducible rfl
      rotate_left
      · simp only [Act.put, List.setIfInBounds_toArray, List.set_cons_zero, List.set_cons_succ, i64_w, i32_w]
        rfl
      refine take_ (i := 2) (N := some 23) (v := ?_) (a' := ?_) #[true, false, true, false, true, false, false, false, false, false, false] rfl rfl (take_ofW HT_.out HW_.out (by kernel_rfl)) (fun _ _ _ h => h) (Or.inl ⟨by rfl, ?_⟩) hHeld ?_ ?_
      rotate_left
      · rintro w' ⟨s0, s1, s2, s3⟩
        go_simp
        with_reducible rfl
      rotate_left
      · simp only [Act.put, List.setIfInBounds_toArray, List.set_cons_zero, List.set_cons_succ, i64_w, i32_w]
        rfl
      refine one_ (i := 1) (N := some 22) #[true, true, true, false, true, false, false, false, false, false, false] rfl rfl (one_of HT_.out (by kernel_rfl)) (by decide) (fun K hK => ?_)
      refine goes_ Try.func5 (by kernel_rfl) rfl #[.agg #[.int .i64 a0_0, .int .i64 a0_1]] (by rfl) rfl rfl (by (try simp only [List.map_toArray, List.map_cons, List.map_nil]); first | done | rfl | (simp only [List.length_drop, List.length_take]; rfl)) ?_
      with_reducible refine (laws_toFraction.calls a0_0 a0_1 t157 t158 _ A7.out).mono ?_
      rintro e w29 ⟨rfl, hb⟩
      refine ⟨_, rfl, ?_⟩
      have n0_ := Aside0.mk (blk_below (g := gb149) (o := .cells #[.int .i64 a0_0, .int .i64 a0_1] 23 (0, 0)) (by (with_reducible repeat (first | refine blk_drewN ?_ _ | refine blk_drew ?_ | refine blk_alloc ?_ _)); exact BK149.out) hb)
      have n1_ := Aside0.mk (blk_below (g := gb150) (o := .cells #[.int .i64 a1_0, .int .i64 a1_1] 23 (0, 0)) (by (with_reducible repeat (first | refine blk_drewN ?_ _ | refine blk_drew ?_ | refine blk_alloc ?_ _)); exact BK150.out) hb)
      have n2_ := Aside0.mk (below_step (by repeat (first | (with_reducible first | exact HB.out | apply below_alloc | apply pw_below_drewN | apply below_drew1 | refine below_set ?_ GE149.out | refine below_set ?_ GE150.out) | exact HB.out)) hb)
      clear BK149
      clear BK150
      clear HB
      have BK149 := n0_
      have BK150 := n1_
      have HB := n2_
      clear n0_ n1_ n2_
      (try clear hb)
      (try clear hb2)
      (try clear hk)
      (try clear hi)
      refine hK.out _ _ ⟨(blk_cell BK149.out 0).trans rfl, (blk_cell BK149.out 1).trans rfl, (blk_cell BK150.out 0).trans rfl, (blk_cell BK150.out 1).trans rfl⟩ (fun hHeld => ?_)
      clear hK K
      refine norm_ (a' := ?_) ?_ ?_
      rotate_left
      · show Act.put _ (some 22) _ = _
        simp only [Act.put, List.setIfInBounds_toArray, List.set_cons_zero, List.set_cons_succ, i64_w, i32_w]
        rfl
      refine one_ (i := 3) (N := some 24) #[true, true, true, true, true, false, false, false, false, false, false] rfl rfl (one_of HT_.out (by kernel_rfl)) (by decide) (fun K hK => ?_)
      refine goes_ Try.func5 (by kernel_rfl) rfl #[.agg #[.int .i64 a1_0, .int .i64 a1_1]] (by rfl) rfl rfl (by (try simp only [List.map_toArray, List.map_cons, List.map_nil]); first | done | rfl | (simp only [List.length_drop, List.length_take]; rfl)) ?_
      with_reducible refine (laws_toFraction.calls a1_0 a1_1 t159 t160 _ A8.out).mono ?_
      rintro e w30 ⟨rfl, hb⟩
      refine ⟨_, rfl, ?_⟩
      have n0_ := Aside0.mk (blk_below (g := gb149) (o := .cells #[.int .i64 a0_0, .int .i64 a0_1] 23 (0, 0)) (by (with_reducible repeat (first | refine blk_drewN ?_ _ | refine blk_drew ?_ | refine blk_alloc ?_ _)); exact BK149.out) hb)
      have n1_ := Aside0.mk (blk_below (g := gb150) (o := .cells #[.int .i64 a1_0, .int .i64 a1_1] 23 (0, 0)) (by (with_reducible repeat (first | refine blk_drewN ?_ _ | refine blk_drew ?_ | refine blk_alloc ?_ _)); exact BK150.out) hb)
      have n2_ := Aside0.mk (below_step (by repeat (first | (with_reducible first | exact HB.out | apply below_alloc | apply pw_below_drewN | apply below_drew1 | refine below_set ?_ GE149.out | refine below_set ?_ GE150.out) | exact HB.out)) hb)
      clear BK149
      clear BK150
      clear HB
      have BK149 := n0_
      have BK150 := n1_
      have HB := n2_
      clear n0_ n1_ n2_
      (try clear hb)
      (try clear hb2)
      (try clear hk)
      (try clear hi)
      refine hK.out _ _ ⟨(blk_cell BK149.out 0).trans rfl, (blk_cell BK149.out 1).trans rfl, (blk_cell BK150.out 0).trans rfl, (blk_cell BK150.out 1).trans rfl⟩ (fun hHeld => ?_)
      clear hK K
      refine norm_ (a' := ?_) ?_ ?_
      rotate_left
      · show Act.put _ (some 24) _ = _
        simp only [Act.put, List.setIfInBounds_toArray, List.set_cons_zero, List.set_cons_succ, i64_w, i32_w]
        rfl
      refine one_ (i := 5) (N := some 26) #[true, true, true, true, true, true, false, false, false, false, false] rfl rfl (one_of HT_.out (by kernel_rfl)) (by decide) (fun K hK => ?_)
      refine goes_ Try.func6 (by kernel_rfl) rfl #[.agg #[.int .i64 t157, .int .i64 t158], .agg #[.int .i64 t159, .int .i64 t160], .int .i64 a2] (by rfl) rfl rfl (by (try simp only [List.map_toArray, List.map_cons, List.map_nil]); first | done | rfl | (simp only [List.length_drop, List.length_take]; rfl)) ?_
      with_reducible refine (impl_SampleUps.calls k t157 t158 t159 t160 a2 t161 t162 _ A9.out).mono ?_
      rintro e w31 ⟨rfl, hb⟩
      refine ⟨_, rfl, ?_⟩
      have n0_ := Aside0.mk (blk_below (g := gb149) (o := .cells #[.int .i64 a0_0, .int .i64 a0_1] 23 (0, 0)) (by (with_reducible repeat (first | refine blk_drewN ?_ _ | refine blk_drew ?_ | refine blk_alloc ?_ _)); exact BK149.out) hb)
      have n1_ := Aside0.mk (blk_below (g := gb150) (o := .cells #[.int .i64 a1_0, .int .i64 a1_1] 23 (0, 0)) (by (with_reducible repeat (first | refine blk_drewN ?_ _ | refine blk_drew ?_ | refine blk_alloc ?_ _)); exact BK150.out) hb)
      have n2_ := Aside0.mk (below_step (by repeat (first | (with_reducible first | exact HB.out | apply below_alloc | apply pw_below_drewN | apply below_drew1 | refine below_set ?_ GE149.out | refine below_set ?_ GE150.out) | exact HB.out)) hb)
      clear BK149
      clear BK150
      clear HB
      have BK149 := n0_
      have BK150 := n1_
      have HB := n2_
      clear n0_ n1_ n2_
      (try clear hb)
      (try clear hb2)
      (try clear hk)
      (try clear hi)
      refine hK.out _ _ ⟨(blk_cell BK149.out 0).trans rfl, (blk_cell BK149.out 1).trans rfl, (blk_cell BK150.out 0).trans rfl, (blk_cell BK150.out 1).trans rfl⟩ (fun hHeld => ?_)
      clear hK K
      refine norm_ (a' := ?_) ?_ ?_
      rotate_left
      · show Act.put _ (some 26) _ = _
        simp only [Act.put, List.setIfInBounds_toArray, List.set_cons_zero, List.set_cons_succ, i64_w, i32_w]
        rfl
      refine pure_ (i := 6) (N := some 20) (v := ?_) (a' := ?_) #[true, true, true, true, true, true, true, false, false, false, false] rfl rfl (any_of HT_.out (by kernel_rfl)) (fun _ _ _ h => h) (Or.inl ⟨by rfl, ?_⟩) ?_ ?_
      rotate_left
      · intro w'
        go_simp
        with_reducible rfl
      rotate_left
      · simp only [Act.put, List.setIfInBounds_toArray, List.set_cons_zero, List.set_cons_succ, i64_w, i32_w]
        rfl
      refine pure_ (i := 7) (N := some 27) (v := ?_) (a' := ?_) #[true, true, true, true, true, true, true, true, false, false, false] rfl rfl (any_of HT_.out (by kernel_rfl)) (fun _ _ _ h => h) (Or.inl ⟨by rfl, ?_⟩) ?_ ?_
      rotate_left
      · intro w'
        go_simp
        with_reducible rfl
      rotate_left
      · simp only [Act.put, List.setIfInBounds_toArray, List.set_cons_zero, List.set_cons_succ, i64_w, i32_w]
        rfl
      refine pure_ (i := 8) (N := some 28) (v := ?_) (a' := ?_) #[true, true, true, true, true, true, true, true, true, false, false] rfl rfl (any_of HT_.out (by kernel_rfl)) (fun _ _ _ h => h) (Or.inl ⟨by rfl, ?_⟩) ?_ ?_
      rotate_left
      · intro w'
        go_simp
        with_reducible rfl
      rotate_left
      · simp only [Act.put, List.setIfInBounds_toArray, List.set_cons_zero, List.set_cons_succ, i64_w, i32_w]
        rfl
      refine pure_ (i := 9) (N := some 9) (v := ?_) (a' := ?_) #[true, true, true, true, true, true, true, true, true, true, false] rfl rfl (any_of HT_.out (by kernel_rfl)) (fun _ _ _ h => h) (Or.inl ⟨by rfl, ?_⟩) ?_ ?_
      rotate_left
      · intro w'
        go_simp
        with_reducible rfl
      rotate_left
      · simp only [Act.put, List.setIfInBounds_toArray, List.set_cons_zero, List.set_cons_succ, i64_w, i32_w]
        rfl
      refine pure_ (i := 10) (N := some 10) (v := ?_) (a' := ?_) #[true, true, true, true, true, true, true, true, true, true, true] rfl rfl (any_of HT_.out (by kernel_rfl)) (fun _ _ _ h => h) (Or.inl ⟨by rfl, ?_⟩) ?_ ?_
      rotate_left
      · intro w'
        go_simp
        with_reducible rfl
      rotate_left
      · simp only [Act.put, List.setIfInBounds_toArray, List.set_cons_zero, List.set_cons_succ, i64_w, i32_w]
        rfl
      refine done_ (done_of HT_.out (by kernel_rfl)) ?_
      try go_wp2
      go_ret
      exact ⟨by first | rfl | (simp [errW_none, errW_some] <;> rfl) | (simp [*, errW_none, errW_some] <;> rfl), by repeat (first | (with_reducible first | exact HB.out | apply below_alloc | apply pw_below_drewN | apply below_drew1 | refine below_set ?_ GE149.out | refine below_set ?_ GE150.out) | exact HB.out)⟩
  · rw [if_neg c10] at H
    have c10b0 : (t161.toList == t155.toList) = false := beq_eq_false_iff_ne.mpr c10
    have c10b1 : (t161.toList != t155.toList) = true := bne_iff_ne.mpr c10
    obtain rfl := Option.some.inj H
    go_enter Try.func3, Try.ntmps3
    try go_wp2_with (first | ((with_reducible refine gate_dst (N := 3) rfl ?_); refine box_event ?hg (N := 3) ?hd (cs := #[.int .i64 a0_0, .int .i64 a0_1]) (t := 23) ?hr ?_; (case hd => rfl); (case hg => rfl); (case hr => first | (go_simp; done) | (go_simp; rfl)); intro gb149 hg w32 hbox hb; have n0_ := Aside0.mk (below_step (by repeat (first | (with_reducible first | exact HB.out | apply below_alloc | apply pw_below_drewN | apply below_drew1) | exact HB.out)) hb); have n1_ := Aside0.mk (hbox); have n2_ := Aside0.mk ((by rw [hg]; exact (below_size (by repeat (first | (with_reducible first | exact HB.out | apply below_alloc | apply pw_below_drewN | apply below_drew1) | exact HB.out))) : w.heap.size ≤ gb149)); have n3_ := Aside0.mk ((by rw [hg]; exact (below_size (by repeat (first | (with_reducible first | exact HB.out | apply below_alloc | apply pw_below_drewN | apply below_drew1) | exact HB.out))) : w.heap.size ≤ gb149)); clear HB; have HB := n0_; have BK149 := n1_; have GW149 := n2_; have GE149 := n3_; clear n0_ n1_ n2_ n3_; clear hb hbox hg) | ((with_reducible refine gate_dst (N := 4) rfl ?_); refine box_event ?hg (N := 4) ?hd (cs := #[.int .i64 a1_0, .int .i64 a1_1]) (t := 23) ?hr ?_; (case hd => rfl); (case hg => rfl); (case hr => first | (go_simp; done) | (go_simp; rfl)); intro gb150 hg w33 hbox hb; have n0_ := Aside0.mk (blk_below (g := gb149) (o := .cells #[.int .i64 a0_0, .int .i64 a0_1] 23 (0, 0)) (by (with_reducible repeat (first | refine blk_drewN ?_ _ | refine blk_drew ?_ | refine blk_alloc ?_ _)); exact BK149.out) hb); have n1_ := Aside0.mk (below_step (by repeat (first | (with_reducible first | exact HB.out | apply below_alloc | apply pw_below_drewN | apply below_drew1 | refine below_set ?_ GE149.out) | exact HB.out)) hb); have n2_ := Aside0.mk (hbox); have n3_ := Aside0.mk ((by rw [hg]; exact (below_size (by repeat (first | (with_reducible first | exact HB.out | apply below_alloc | apply pw_below_drewN | apply below_drew1 | refine below_set ?_ GE149.out) | exact HB.out))) : w.heap.size ≤ gb150)); have n4_ := Aside0.mk ((by rw [hg]; exact (below_size (by repeat (first | (with_reducible first | exact HB.out | apply below_alloc | apply pw_below_drewN | apply below_drew1 | refine below_set ?_ GE149.out) | exact HB.out))) : w.heap.size ≤ gb150)); have n5_ := Aside0.mk ((by rw [hg]; exact Nat.ne_of_lt (blk_lt (g := gb149) (o := .cells #[.int .i64 a0_0, .int .i64 a0_1] 23 (0, 0)) (by (with_reducible repeat (first | refine blk_drewN ?_ _ | refine blk_drew ?_ | refine blk_alloc ?_ _)); exact BK149.out)) : gb149 ≠ gb150)); have n6_ := Aside0.mk ((by rw [hg]; exact Nat.ne_of_gt (blk_lt (g := gb149) (o := .cells #[.int .i64 a0_0, .int .i64 a0_1] 23 (0, 0)) (by (with_reducible repeat (first | refine blk_drewN ?_ _ | refine blk_drew ?_ | refine blk_alloc ?_ _)); exact BK149.out)) : gb150 ≠ gb149)); clear BK149; clear HB; have BK149 := n0_; have HB := n1_; have BK150 := n2_; have GW150 := n3_; have GE150 := n4_; have NB149_150 := n5_; have NB150_149 := n6_; clear n0_ n1_ n2_ n3_ n4_ n5_ n6_; clear hb hbox hg))
    have n0_ := Aside0.mk (blk_drew BK149.out)
    have n1_ := Aside0.mk (blk_drew BK150.out)
    have n2_ := Aside0.mk (below_drew1 HB.out)
    clear BK149
    clear BK150
    clear HB
    have BK149 := n0_
    have BK150 := n1_
    have HB := n2_
    clear n0_ n1_ n2_
    refine start_ (n := 11) (S := fun w' => w'.cell? ⟨gb149, 0, none⟩ = some (.int .i64 a0_0) ∧ w'.cell? ⟨gb149, 1, none⟩ = some (.int .i64 a0_1) ∧ w'.cell? ⟨gb150, 0, none⟩ = some (.int .i64 a1_0) ∧ w'.cell? ⟨gb150, 1, none⟩ = some (.int .i64 a1_1)) (ds := []) #[false, false, false, false, false, false, false, false, false, false, false] (by kernel_rfl) rfl rfl ⟨(blk_cell BK149.out 0).trans rfl, (blk_cell BK149.out 1).trans rfl, (blk_cell BK150.out 0).trans rfl, (blk_cell BK150.out 1).trans rfl⟩ (fun hHeld => ?_); refine with_tabW laws_FnExactSampleUps.tab1 laws_FnExactSampleUps.bits1 (fun HT_ HW_ => ?_)
    generalize w33.drew = w34 at BK149 BK150 HB hHeld ⊢
    refine pure_ (i := 4) (N := some 16) (v := ?_) (a' := ?_) #[false, false, false, false, true, false, false, false, false, false, false] rfl rfl (any_of HT_.out (by kernel_rfl)) (fun _ _ _ h => h) (Or.inl ⟨by rfl, ?_⟩) ?_ ?_
    rotate_left
    · intro w'
      go_simp
      with_reducible rfl
    rotate_left
    · simp only [Act.put, List.setIfInBounds_toArray, List.set_cons_zero, List.set_cons_succ, i64_w, i32_w]
      rfl
    refine take_ (i := 0) (N := some 12) (v := ?_) (a' := ?_) #[true, false, false, false, true, false, false, false, false, false, false] rfl rfl (take_ofW HT_.out HW_.out (by kernel_rfl)) (fun _ _ _ h => h) (Or.inl ⟨by rfl, ?_⟩) hHeld ?_ ?_
    rotate_left
    · rintro w' ⟨s0, s1, s2, s3⟩
      go_simp
      with_reducible rfl
    rotate_left
    · simp only [Act.put, List.setIfInBounds_toArray, List.set_cons_zero, List.set_cons_succ, i64_w, i32_w]
      rfl
    refine take_ (i := 2) (N := some 14) (v := ?_) (a' := ?_) #[true, false, true, false, true, false, false, false, false, false, false] rfl rfl (take_ofW HT_.out HW_.out (by kernel_rfl)) (fun _ _ _ h => h) (Or.inl ⟨by rfl, ?_⟩) hHeld ?_ ?_
    rotate_left
    · rintro w' ⟨s0, s1, s2, s3⟩
      go_simp
      with_reducible rfl
    rotate_left
    · simp only [Act.put, List.setIfInBounds_toArray, List.set_cons_zero, List.set_cons_succ, i64_w, i32_w]
      rfl
    refine one_ (i := 1) (N := some 13) #[true, true, true, false, true, false, false, false, false, false, false] rfl rfl (one_of HT_.out (by kernel_rfl)) (by decide) (fun K hK => ?_)
    refine goes_ Try.func5 (by kernel_rfl) rfl #[.agg #[.int .i64 a0_0, .int .i64 a0_1]] (by rfl) rfl rfl (by (try simp only [List.map_toArray, List.map_cons, List.map_nil]); first | done | rfl | (simp only [List.length_drop, List.length_take]; rfl)) ?_
    with_reducible refine (laws_toFraction.calls a0_0 a0_1 t151 t152 _ A4.out).mono ?_
    rintro e w35 ⟨rfl, hb⟩
    refine ⟨_, rfl, ?_⟩
    have n0_ := Aside0.mk (blk_below (g := gb149) (o := .cells #[.int .i64 a0_0, .int .i64 a0_1] 23 (0, 0)) (by (with_reducible repeat (first | refine blk_drewN ?_ _ | refine blk_drew ?_ | refine blk_alloc ?_ _)); exact BK149.out) hb)
    have n1_ := Aside0.mk (blk_below (g := gb150) (o := .cells #[.int .i64 a1_0, .int .i64 a1_1] 23 (0, 0)) (by (with_reducible repeat (first | refine blk_drewN ?_ _ | refine blk_drew ?_ | refine blk_alloc ?_ _)); exact BK150.out) hb)
    have n2_ := Aside0.mk (below_step (by repeat (first | (with_reducible first | exact HB.out | apply below_alloc | apply pw_below_drewN | apply below_drew1 | refine below_set ?_ GE149.out | refine below_set ?_ GE150.out) | exact HB.out)) hb)
    clear BK149
    clear BK150
    clear HB
    have BK149 := n0_
    have BK150 := n1_
    have HB := n2_
    clear n0_ n1_ n2_
    (try clear hb)
    (try clear hb2)
    (try clear hk)
    (try clear hi)
    refine hK.out _ _ ⟨(blk_cell BK149.out 0).trans rfl, (blk_cell BK149.out 1).trans rfl, (blk_cell BK150.out 0).trans rfl, (blk_cell BK150.out 1).trans rfl⟩ (fun hHeld => ?_)
    clear hK K
    refine norm_ (a' := ?_) ?_ ?_
    rotate_left
    · show Act.put _ (some 13) _ = _
      simp only [Act.put, List.setIfInBounds_toArray, List.set_cons_zero, List.set_cons_succ, i64_w, i32_w]
      rfl
    refine one_ (i := 3) (N := some 15) #[true, true, true, true, true, false, false, false, false, false, false] rfl rfl (one_of HT_.out (by kernel_rfl)) (by decide) (fun K hK => ?_)
    refine goes_ Try.func5 (by kernel_rfl) rfl #[.agg #[.int .i64 a1_0, .int .i64 a1_1]] (by rfl) rfl rfl (by (try simp only [List.map_toArray, List.map_cons, List.map_nil]); first | done | rfl | (simp only [List.length_drop, List.length_take]; rfl)) ?_
    with_reducible refine (laws_toFraction.calls a1_0 a1_1 t153 t154 _ A5.out).mono ?_
    rintro e w36 ⟨rfl, hb⟩
    refine ⟨_, rfl, ?_⟩
    have n0_ := Aside0.mk (blk_below (g := gb149) (o := .cells #[.int .i64 a0_0, .int .i64 a0_1] 23 (0, 0)) (by (with_reducible repeat (first | refine blk_drewN ?_ _ | refine blk_drew ?_ | refine blk_alloc ?_ _)); exact BK149.out) hb)
    have n1_ := Aside0.mk (blk_below (g := gb150) (o := .cells #[.int .i64 a1_0, .int .i64 a1_1] 23 (0, 0)) (by (with_reducible repeat (first | refine blk_drewN ?_ _ | refine blk_drew ?_ | refine blk_alloc ?_ _)); exact BK150.out) hb)
    have n2_ := Aside0.mk (below_step (by repeat (first | (with_reducible first | exact HB.out | apply below_alloc | apply pw_below_drewN | apply below_drew1 | refine below_set ?_ GE149.out | refine below_set ?_ GE150.out) | exact HB.out)) hb)
    clear BK149
    clear BK150
    clear HB
    have BK149 := n0_
    have BK150 := n1_
    have HB := n2_
    clear n0_ n1_ n2_
    (try clear hb)
    (try clear hb2)
    (try clear hk)
    (try clear hi)
    refine hK.out _ _ ⟨(blk_cell BK149.out 0).trans rfl, (blk_cell BK149.out 1).trans rfl, (blk_cell BK150.out 0).trans rfl, (blk_cell BK150.out 1).trans rfl⟩ (fun hHeld => ?_)
    clear hK K
    refine norm_ (a' := ?_) ?_ ?_
    rotate_left
    · show Act.put _ (some 15) _ = _
      simp only [Act.put, List.setIfInBounds_toArray, List.set_cons_zero, List.set_cons_succ, i64_w, i32_w]
      rfl
    refine one_ (i := 5) (N := some 17) #[true, true, true, true, true, true, false, false, false, false, false] rfl rfl (one_of HT_.out (by kernel_rfl)) (by decide) (fun K hK => ?_)
    refine goes_ Try.func4 (by kernel_rfl) rfl #[.agg #[.int .i64 t151, .int .i64 t152], .agg #[.int .i64 t153, .int .i64 t154], .int .i64 a2] (by rfl) rfl rfl (by (try simp only [List.map_toArray, List.map_cons, List.map_nil]); first | done | rfl | (simp only [List.length_drop, List.length_take]; rfl)) ?_
    with_reducible refine (spec_SampleUps.calls k t151 t152 t153 t154 a2 t155 t156 _ A6.out).mono ?_
    rintro e w37 ⟨rfl, hb⟩
    refine ⟨_, rfl, ?_⟩
    have n0_ := Aside0.mk (blk_below (g := gb149) (o := .cells #[.int .i64 a0_0, .int .i64 a0_1] 23 (0, 0)) (by (with_reducible repeat (first | refine blk_drewN ?_ _ | refine blk_drew ?_ | refine blk_alloc ?_ _)); exact BK149.out) hb)
    have n1_ := Aside0.mk (blk_below (g := gb150) (o := .cells #[.int .i64 a1_0, .int .i64 a1_1] 23 (0, 0)) (by (with_reducible repeat (first | refine blk_drewN ?_ _ | refine blk_drew ?_ | refine blk_alloc ?_ _)); exact BK150.out) hb)
    have n2_ := Aside0.mk (below_step (by repeat (first | (with_reducible first | exact HB.out | apply below_alloc | apply pw_below_drewN | apply below_drew1 | refine below_set ?_ GE149.out | refine below_set ?_ GE150.out) | exact HB.out)) hb)
    clear BK149
    clear BK150
    clear HB
    have BK149 := n0_
    have BK150 := n1_
    have HB := n2_
    clear n0_ n1_ n2_
    (try clear hb)
    (try clear hb2)
    (try clear hk)
    (try clear hi)
    refine hK.out _ _ ⟨(blk_cell BK149.out 0).trans rfl, (blk_cell BK149.out 1).trans rfl, (blk_cell BK150.out 0).trans rfl, (blk_cell BK150.out 1).trans rfl⟩ (fun hHeld => ?_)
    clear hK K
    refine norm_ (a' := ?_) ?_ ?_
    rotate_left
    · show Act.put _ (some 17) _ = _
      simp only [Act.put, List.setIfInBounds_toArray, List.set_cons_zero, List.set_cons_succ, i64_w, i32_w]
      rfl
    refine pure_ (i := 6) (N := some 11) (v := ?_) (a' := ?_) #[true, true, true, true, true, true, true, false, false, false, false] rfl rfl (any_of HT_.out (by kernel_rfl)) (fun _ _ _ h => h) (Or.inl ⟨by rfl, ?_⟩) ?_ ?_
    rotate_left
    · intro w'
      go_simp
      with_reducible rfl
    rotate_left
    · simp only [Act.put, List.setIfInBounds_toArray, List.set_cons_zero, List.set_cons_succ, i64_w, i32_w]
      rfl
    refine pure_ (i := 7) (N := some 18) (v := ?_) (a' := ?_) #[true, true, true, true, true, true, true, true, false, false, false] rfl rfl (any_of HT_.out (by kernel_rfl)) (fun _ _ _ h => h) (Or.inl ⟨by rfl, ?_⟩) ?_ ?_
    rotate_left
    · intro w'
      go_simp
      with_reducible rfl
    rotate_left
    · simp only [Act.put, List.setIfInBounds_toArray, List.set_cons_zero, List.set_cons_succ, i64_w, i32_w]
      rfl
    refine pure_ (i := 8) (N := some 19) (v := ?_) (a' := ?_) #[true, true, true, true, true, true, true, true, true, false, false] rfl rfl (any_of HT_.out (by kernel_rfl)) (fun _ _ _ h => h) (Or.inl ⟨by rfl, ?_⟩) ?_ ?_
    rotate_left
    · intro w'
      go_simp
      with_reducible rfl
    rotate_left
    · simp only [Act.put, List.setIfInBounds_toArray, List.set_cons_zero, List.set_cons_succ, i64_w, i32_w]
      rfl
    refine pure_ (i := 9) (N := some 7) (v := ?_) (a' := ?_) #[true, true, true, true, true, true, true, true, true, true, false] rfl rfl (any_of HT_.out (by kernel_rfl)) (fun _ _ _ h => h) (Or.inl ⟨by rfl, ?_⟩) ?_ ?_
    rotate_left
    · intro w'
      go_simp
      with_reducible rfl
    rotate_left
    · simp only [Act.put, List.setIfInBounds_toArray, List.set_cons_zero, List.set_cons_succ, i64_w, i32_w]
      rfl
    refine pure_ (i := 10) (N := some 8) (v := ?_) (a' := ?_) #[true, true, true, true, true, true, true, true, true, true, true] rfl rfl (any_of HT_.out (by kernel_rfl)) (fun _ _ _ h => h) (Or.inl ⟨by rfl, ?_⟩) ?_ ?_
    rotate_left
    · intro w'
      go_simp
      with_reducible rfl
    rotate_left
    · simp only [Act.put, List.setIfInBounds_toArray, List.set_cons_zero, List.set_cons_succ, i64_w, i32_w]
      rfl
    refine done_ (done_of HT_.out (by kernel_rfl)) ?_
    try go_wp2
    have n0_ := Aside0.mk (blk_drew BK149.out)
    have n1_ := Aside0.mk (blk_drew BK150.out)
    have n2_ := Aside0.mk (below_drew1 HB.out)
    clear BK149
    clear BK150
    clear HB
    have BK149 := n0_
    have BK150 := n1_
    have HB := n2_
    clear n0_ n1_ n2_
    refine start_ (n := 11) (S := fun w' => w'.cell? ⟨gb149, 0, none⟩ = some (.int .i64 a0_0) ∧ w'.cell? ⟨gb149, 1, none⟩ = some (.int .i64 a0_1) ∧ w'.cell? ⟨gb150, 0, none⟩ = some (.int .i64 a1_0) ∧ w'.cell? ⟨gb150, 1, none⟩ = some (.int .i64 a1_1)) (ds := []) #[false, false, false, false, false, false, false, false, false, false, false] (by kernel_rfl) rfl rfl ⟨(blk_cell BK149.out 0).trans rfl, (blk_cell BK149.out 1).trans rfl, (blk_cell BK150.out 0).trans rfl, (blk_cell BK150.out 1).trans rfl⟩ (fun hHeld => ?_); refine with_tabW laws_FnExactSampleUps.tab2 laws_FnExactSampleUps.bits2 (fun HT_ HW_ => ?_)
    generalize w37.drew = w38 at BK149 BK150 HB hHeld ⊢
    refine pure_ (i := 4) (N := some 25) (v := ?_) (a' := ?_) #[false, false, false, false, true, false, false, false, false, false, false] rfl rfl (any_of HT_.out (by kernel_rfl)) (fun _ _ _ h => h) (Or.inl ⟨by rfl, ?_⟩) ?_ ?_
    rotate_left
    · intro w'
      go_simp
      with_reducible rfl
    rotate_left
    · simp only [Act.put, List.setIfInBounds_toArray, List.set_cons_zero, List.set_cons_succ, i64_w, i32_w]
      rfl
    refine take_ (i := 0) (N := some 21) (v := ?_) (a' := ?_) #[true, false, false, false, true, false, false, false, false, false, false] rfl rfl (take_ofW HT_.out HW_.out (by kernel_rfl)) (fun _ _ _ h => h) (Or.inl ⟨by rfl, ?_⟩) hHeld ?_ ?_
    rotate_left
    · rintro w' ⟨s0, s1, s2, s3⟩
      go_simp
      with_reducible rfl
    rotate_left
    · simp only [Act.put, List.setIfInBounds_toArray, List.set_cons_zero, List.set_cons_succ, i64_w, i32_w]
      rfl
    refine take_ (i := 2) (N := some 23) (v := ?_) (a' := ?_) #[true, false, true, false, true, false, false, false, false, false, false] rfl rfl (take_ofW HT_.out HW_.out (by kernel_rfl)) (fun _ _ _ h => h) (Or.inl ⟨by rfl, ?_⟩) hHeld ?_ ?_
    rotate_left
    · rintro w' ⟨s0, s1, s2, s3⟩
      go_simp
      with_reducible rfl
    rotate_left
    · simp only [Act.put, List.setIfInBounds_toArray, List.set_cons_zero, List.set_cons_succ, i64_w, i32_w]
      rfl
    refine one_ (i := 1) (N := some 22) #[true, true, true, false, true, false, false, false, false, false, false] rfl rfl (one_of HT_.out (by kernel_rfl)) (by decide) (fun K hK => ?_)
    refine goes_ Try.func5 (by kernel_rfl) rfl #[.agg #[.int .i64 a0_0, .int .i64 a0_1]] (by rfl) rfl rfl (by (try simp only [List.map_toArray, List.map_cons, List.map_nil]); first | done | rfl | (simp only [List.length_drop, List.length_take]; rfl)) ?_
    with_reducible refine (laws_toFraction.calls a0_0 a0_1 t157 t158 _ A7.out).mono ?_
    rintro e w39 ⟨rfl, hb⟩
    refine ⟨_, rfl, ?_⟩
    have n0_ := Aside0.mk (blk_below (g := gb149) (o := .cells #[.int .i64 a0_0, .int .i64 a0_1] 23 (0, 0)) (by (with_reducible repeat (first | refine blk_drewN ?_ _ | refine blk_drew ?_ | refine blk_alloc ?_ _)); exact BK149.out) hb)
    have n1_ := Aside0.mk (blk_below (g := gb150) (o := .cells #[.int .i64 a1_0, .int .i64 a1_1] 23 (0, 0)) (by (with_reducible repeat (first | refine blk_drewN ?_ _ | refine blk_drew ?_ | refine blk_alloc ?_ _)); exact BK150.out) hb)
    have n2_ := Aside0.mk (below_step (by repeat (first | (with_reducible first | exact HB.out | apply below_alloc | apply pw_below_drewN | apply below_drew1 | refine below_set ?_ GE149.out | refine below_set ?_ GE150.out) | exact HB.out)) hb)
    clear BK149
    clear BK150
    clear HB
    have BK149 := n0_
    have BK150 := n1_
    have HB := n2_
    clear n0_ n1_ n2_
    (try clear hb)
    (try clear hb2)
    (try clear hk)
    (try clear hi)
    refine hK.out _ _ ⟨(blk_cell BK149.out 0).trans rfl, (blk_cell BK149.out 1).trans rfl, (blk_cell BK150.out 0).trans rfl, (blk_cell BK150.out 1).trans rfl⟩ (fun hHeld => ?_)
    clear hK K
    refine norm_ (a' := ?_) ?_ ?_
    rotate_left
    · show Act.put _ (some 22) _ = _
      simp only [Act.put, List.setIfInBounds_toArray, List.set_cons_zero, List.set_cons_succ, i64_w, i32_w]
      rfl
    refine one_ (i := 3) (N := some 24) #[true, true, true, true, true, false, false, false, false, false, false] rfl rfl (one_of HT_.out (by kernel_rfl)) (by decide) (fun K hK => ?_)
    refine goes_ Try.func5 (by kernel_rfl) rfl #[.agg #[.int .i64 a1_0, .int .i64 a1_1]] (by rfl) rfl rfl (by (try simp only [List.map_toArray, List.map_cons, List.map_nil]); first | done | rfl | (simp only [List.length_drop, List.length_take]; rfl)) ?_
    with_reducible refine (laws_toFraction.calls a1_0 a1_1 t159 t160 _ A8.out).mono ?_
    rintro e w40 ⟨rfl, hb⟩
    refine ⟨_, rfl, ?_⟩
    have n0_ := Aside0.mk (blk_below (g := gb149) (o := .cells #[.int .i64 a0_0, .int .i64 a0_1] 23 (0, 0)) (by (with_reducible repeat (first | refine blk_drewN ?_ _ | refine blk_drew ?_ | refine blk_alloc ?_ _)); exact BK149.out) hb)
    have n1_ := Aside0.mk (blk_below (g := gb150) (o := .cells #[.int .i64 a1_0, .int .i64 a1_1] 23 (0, 0)) (by (with_reducible repeat (first | refine blk_drewN ?_ _ | refine blk_drew ?_ | refine blk_alloc ?_ _)); exact BK150.out) hb)
    have n2_ := Aside0.mk (below_step (by repeat (first | (with_reducible first | exact HB.out | apply below_alloc | apply pw_below_drewN | apply below_drew1 | refine below_set ?_ GE149.out | refine below_set ?_ GE150.out) | exact HB.out)) hb)
    clear BK149
    clear BK150
    clear HB
    have BK149 := n0_
    have BK150 := n1_
    have HB := n2_
    clear n0_ n1_ n2_
    (try clear hb)
    (try clear hb2)
    (try clear hk)
    (try clear hi)
    refine hK.out _ _ ⟨(blk_cell BK149.out 0).trans rfl, (blk_cell BK149.out 1).trans rfl, (blk_cell BK150.out 0).trans rfl, (blk_cell BK150.out 1).trans rfl⟩ (fun hHeld => ?_)
    clear hK K
    refine norm_ (a' := ?_) ?_ ?_
    rotate_left
    · show Act.put _ (some 24) _ = _
      simp only [Act.put, List.setIfInBounds_toArray, List.set_cons_zero, List.set_cons_succ, i64_w, i32_w]
      rfl
    refine one_ (i := 5) (N := some 26) #[true, true, true, true, true, true, false, false, false, false, false] rfl rfl (one_of HT_.out (by kernel_rfl)) (by decide) (fun K hK => ?_)
    refine goes_ Try.func6 (by kernel_rfl) rfl #[.agg #[.int .i64 t157, .int .i64 t158], .agg #[.int .i64 t159, .int .i64 t160], .int .i64 a2] (by rfl) rfl rfl (by (try simp only [List.map_toArray, List.map_cons, List.map_nil]); first | done | rfl | (simp only [List.length_drop, List.length_take]; rfl)) ?_
    with_reducible refine (impl_SampleUps.calls k t157 t158 t159 t160 a2 t161 t162 _ A9.out).mono ?_
    rintro e w41 ⟨rfl, hb⟩
    refine ⟨_, rfl, ?_⟩
    have n0_ := Aside0.mk (blk_below (g := gb149) (o := .cells #[.int .i64 a0_0, .int .i64 a0_1] 23 (0, 0)) (by (with_reducible repeat (first | refine blk_drewN ?_ _ | refine blk_drew ?_ | refine blk_alloc ?_ _)); exact BK149.out) hb)
    have n1_ := Aside0.mk (blk_below (g := gb150) (o := .cells #[.int .i64 a1_0, .int .i64 a1_1] 23 (0, 0)) (by (with_reducible repeat (first | refine blk_drewN ?_ _ | refine blk_drew ?_ | refine blk_alloc ?_ _)); exact BK150.out) hb)
    have n2_ := Aside0.mk (below_step (by repeat (first | (with_reducible first | exact HB.out | apply below_alloc | apply pw_below_drewN | apply below_drew1 | refine below_set ?_ GE149.out | refine below_set ?_ GE150.out) | exact HB.out)) hb)
    clear BK149
    clear BK150
    clear HB
    have BK149 := n0_
    have BK150 := n1_
    have HB := n2_
    clear n0_ n1_ n2_
    (try clear hb)
    (try clear hb2)
    (try clear hk)
    (try clear hi)
    refine hK.out _ _ ⟨(blk_cell BK149.out 0).trans rfl, (blk_cell BK149.out 1).trans rfl, (blk_cell BK150.out 0).trans rfl, (blk_cell BK150.out 1).trans rfl⟩ (fun hHeld => ?_)
    clear hK K
    refine norm_ (a' := ?_) ?_ ?_
    rotate_left
    · show Act.put _ (some 26) _ = _
      simp only [Act.put, List.setIfInBounds_toArray, List.set_cons_zero, List.set_cons_succ, i64_w, i32_w]
      rfl
    refine pure_ (i := 6) (N := some 20) (v := ?_) (a' := ?_) #[true, true, true, true, true, true, true, false, false, false, false] rfl rfl (any_of HT_.out (by kernel_rfl)) (fun _ _ _ h => h) (Or.inl ⟨by rfl, ?_⟩) ?_ ?_
    rotate_left
    · intro w'
      go_simp
      with_reducible rfl
    rotate_left
    · simp only [Act.put, List.setIfInBounds_toArray, List.set_cons_zero, List.set_cons_succ, i64_w, i32_w]
      rfl
    refine pure_ (i := 7) (N := some 27) (v := ?_) (a' := ?_) #[true, true, true, true, true, true, true, true, false, false, false] rfl rfl (any_of HT_.out (by kernel_rfl)) (fun _ _ _ h => h) (Or.inl ⟨by rfl, ?_⟩) ?_ ?_
    rotate_left
    · intro w'
      go_simp
      with_reducible rfl
    rotate_left
    · simp only [Act.put, List.setIfInBounds_toArray, List.set_cons_zero, List.set_cons_succ, i64_w, i32_w]
      rfl
    refine pure_ (i := 8) (N := some 28) (v := ?_) (a' := ?_) #[true, true, true, true, true, true, true, true, true, false, false] rfl rfl (any_of HT_.out (by kernel_rfl)) (fun _ _ _ h => h) (Or.inl ⟨by rfl, ?_⟩) ?_ ?_
    rotate_left
    · intro w'
      go_simp
      with_reducible rfl
    rotate_left
    · simp only [Act.put, List.setIfInBounds_toArray, List.set_cons_zero, List.set_cons_succ, i64_w, i32_w]
      rfl
    refine pure_ (i := 9) (N := some 9) (v := ?_) (a' := ?_) #[true, true, true, true, true, true, true, true, true, true, false] rfl rfl (any_of HT_.out (by kernel_rfl)) (fun _ _ _ h => h) (Or.inl ⟨by rfl, ?_⟩) ?_ ?_
    rotate_left
    · intro w'
      go_simp
      with_reducible rfl
    rotate_left
    · simp only [Act.put, List.setIfInBounds_toArray, List.set_cons_zero, List.set_cons_succ, i64_w, i32_w]
      rfl
    refine pure_ (i := 10) (N := some 10) (v := ?_) (a' := ?_) #[true, true, true, true, true, true, true, true, true, true, true] rfl rfl (any_of HT_.out (by kernel_rfl)) (fun _ _ _ h => h) (Or.inl ⟨by rfl, ?_⟩) ?_ ?_
    rotate_left
    · intro w'
      go_simp
      with_reducible rfl
    rotate_left
    · simp only [Act.put, List.setIfInBounds_toArray, List.set_cons_zero, List.set_cons_succ, i64_w, i32_w]
      rfl
    refine done_ (done_of HT_.out (by kernel_rfl)) ?_
    try go_wp2
    go_ret
    exact ⟨by first | rfl | (simp [errW_none, errW_some] <;> rfl) | (simp [*, errW_none, errW_some] <;> rfl), by repeat (first | (with_reducible first | exact HB.out | apply below_alloc | apply pw_below_drewN | apply below_drew1 | refine below_set ?_ GE149.out | refine below_set ?_ GE150.out) | exact HB.out)⟩

end Go.Proofs.Ytcpfkfaiakpfjaa.X

/- The two gcds tell the same of numbers from 0 on. Conditions: as each lemma says. -/
namespace Go.Proofs.Ytcpfkfaiakpfjaa.X
open Go.RowKit Go.Proofs.YtcpfkfaiakpfjaaW.PrintWords Go.Proofs.YtcpfkfaiakpfjaaW.PrintLast Go.Proofs.YtcpfkfaiakpfjaaW.PrintMore
set_option linter.unusedVariables false
set_option linter.unusedSimpArgs false
theorem gcd_same : ∀ (y x : Nat), x ≤ 1000000000000000000 → y ≤ 1000000000000000000 → ∃ g : Int, ∀ k : Nat, y < k → spec_l01Gcd.l0 k x y = some g ∧ impl_gcd.l0 k x y = some g := by
  intro y
  induction y using Nat.strongRecOn with
  | _ y ih =>
    intro x hx hy
    by_cases h : y = 0
    · subst h
      refine ⟨x, fun k hk => ?_⟩
      cases k with
      | zero => omega
      | succ k =>
        rw [spec_l01Gcd.l0, impl_gcd.l0, if_neg (by omega), if_pos (by omega), mx_eq, w64 (by omega) (by omega)]
        refine ⟨rfl, ?_⟩
        congr 1; omega
    · have hm : x % y < y := Nat.mod_lt _ (by omega)
      obtain ⟨g, hg⟩ := ih (x % y) hm y hy (by omega)
      refine ⟨g, fun k hk => ?_⟩
      cases k with
      | zero => omega
      | succ k =>
        rw [spec_l01Gcd.l0, impl_gcd.l0, if_pos (by omega), if_neg (by omega), if_neg (by omega), tmodp (by omega), ← Int.natCast_emod]
        exact hg k (by omega)
end Go.Proofs.Ytcpfkfaiakpfjaa.X

/- The reference's product in two words: of small numbers. Conditions: as the lemma says. -/
namespace Go.Proofs.Ytcpfkfaiakpfjaa.X
open Go.RowKit Go.Proofs.YtcpfkfaiakpfjaaW.PrintWords Go.Proofs.YtcpfkfaiakpfjaaW.PrintLast Go.Proofs.YtcpfkfaiakpfjaaW.PrintMore
set_option linter.unusedVariables false
set_option linter.unusedSimpArgs false
theorem wrap_u64 (n : Int) (h0 : 0 ≤ n) (h1 : n < 2 ^ 62) : IntKind.u64.wrap n = n := by
  have : IntKind.u64.wrap n = n % 18446744073709551616 := by simp [IntKind.wrap, IntKind.bits, IntKind.signed]
  rw [this]; omega
theorem times_small (a b : Int) (ha : 0 ≤ a) (ha2 : a ≤ 1000000) (hb : 0 ≤ b) (hb2 : b ≤ 1000000) : spec_l01Times.f a b = some (0, a * b) := by
  obtain ⟨p, hp⟩ : ∃ p, p = a * b := ⟨_, rfl⟩
  have h0 : 0 ≤ p := by rw [hp]; exact Int.mul_nonneg ha hb
  have h1 : p ≤ 1000000 * 1000000 := by rw [hp]; exact Int.mul_le_mul ha2 hb2 hb (by omega)
  have d1 : Int.tdiv a 4294967296 = 0 := by rw [tdivp ha]; omega
  have d2 : Int.tdiv b 4294967296 = 0 := by rw [tdivp hb]; omega
  have m1 : Int.tmod a 4294967296 = a := by rw [tmodp ha]; omega
  have m2 : Int.tmod b 4294967296 = b := by rw [tmodp hb]; omega
  have w0 : IntKind.u64.wrap 0 = 0 := wrap_u64 0 (by omega) (by omega)
  have dp : Int.tdiv p 4294967296 = p / 4294967296 := tdivp h0
  have mp : Int.tmod p 4294967296 = p % 4294967296 := tmodp h0
  have wq : IntKind.u64.wrap (p / 4294967296) = p / 4294967296 := wrap_u64 _ (by omega) (by omega)
  have dq : Int.tdiv (p / 4294967296) 4294967296 = 0 := by rw [tdivp (by omega)]; omega
  have ws : IntKind.u64.wrap (p / 4294967296 * 4294967296) = p / 4294967296 * 4294967296 := wrap_u64 _ (by omega) (by omega)
  have t0 : Int.tdiv 0 4294967296 = 0 := by decide
  have r0 : Int.tmod 0 4294967296 = 0 := by decide
  have hj : Go.bits .or .u64 (p / 4294967296 * 4294967296) (p % 4294967296) = p / 4294967296 * 4294967296 + p % 4294967296 :=
    Go.bits_join .u64 62 (by decide) wrap_u64 32 _ _ (by omega) (by omega) (by omega) (by omega) (by omega) (by omega)
  unfold spec_l01Times.f
  simp only [wrap_u64 a ha (by omega), wrap_u64 b hb (by omega), d1, d2, m1, m2, w0, Int.zero_mul, Int.mul_zero, ← hp, wrap_u64 p h0 (by omega), dp, mp, wq, t0, r0, Int.add_zero, Int.zero_add, dq, ws, hj]
  congr 2
  omega
end Go.Proofs.Ytcpfkfaiakpfjaa.X

/- SampleUps: the program's answers are the reference's. Conditions: as each lemma says. -/
namespace Go.Proofs.Ytcpfkfaiakpfjaa.X
open Go.RowKit Go.Proofs.YtcpfkfaiakpfjaaW.PrintWords Go.Proofs.YtcpfkfaiakpfjaaW.PrintLast Go.Proofs.YtcpfkfaiakpfjaaW.PrintMore
set_option linter.unusedVariables false
set_option linter.unusedSimpArgs false
theorem gcd_any : ∀ (m : Nat) (x y : Int), y.natAbs = m → -1000000000000000000 ≤ x → x ≤ 1000000000000000000 → -1000000000000000000 ≤ y → y ≤ 1000000000000000000 → ∃ g : Int, ∀ k : Nat, m < k → impl_gcd.l0 k x y = some g := by
  intro m
  induction m using Nat.strongRecOn with
  | _ m ih =>
    intro x y hm h1 h2 h3 h4
    by_cases h : y = 0
    · refine ⟨mx x (wrap64 (-x)), fun k hk => ?_⟩
      cases k with
      | zero => omega
      | succ k => rw [impl_gcd.l0, if_pos h]
    · have hlt : (Int.tmod x y).natAbs < m := by
        have := Int.natAbs_tmod x y
        rw [this, ← hm]
        exact Nat.mod_lt _ (by omega)
      obtain ⟨g, hg⟩ := ih _ hlt y (Int.tmod x y) rfl h3 h4 (by omega) (by omega)
      refine ⟨g, fun k hk => ?_⟩
      cases k with
      | zero => omega
      | succ k =>
        rw [impl_gcd.l0, if_neg h]
        first | exact hg k (by omega) | (rw [if_neg h]; exact hg k (by omega))
theorem within_e (a b c : Int) : impl_within.f a b c = some (decide (b ≤ a) && decide (a ≤ c)) := by
  unfold impl_within.f; by_cases h : a ≥ b <;> simp [h] <;> omega
theorem l00In_e (a b c : Int) : spec_l00In.f a b c = some (decide (b ≤ a) && decide (a ≤ c)) := by
  unfold spec_l00In.f; by_cases h : a ≥ b <;> simp [h] <;> omega
theorem small_same (p0 p1 : Int) : ∃ b b' : Bool, (∀ k : Nat, 1000000000000000000 < k → spec_l09Small.f k p0 p1 = some b ∧ impl_isSmallFraction.f k p0 p1 = some b') ∧ (0 ≤ p0 → b = b') ∧ (p0 < 0 → b = false) ∧
    (b = true → 0 ≤ p0 ∧ p0 ≤ 1000000 ∧ 1 ≤ p1 ∧ p1 ≤ 1000000) ∧ (b' = true → p0 ≤ 1000000 ∧ 1 ≤ p1 ∧ p1 ≤ 1000000) := by
  by_cases h1 : 1 ≤ p1 ∧ p1 ≤ 1000000000000000000
  · by_cases h0 : -1000000000000000000 ≤ p0 ∧ p0 ≤ 1000000000000000000
    · have d1 : (decide (1 ≤ p1) && decide (p1 ≤ 1000000000000000000)) = true := by simp; omega
      have d0 : (decide (-1000000000000000000 ≤ p0) && decide (p0 ≤ 1000000000000000000)) = true := by simp; omega
      by_cases hp : 0 ≤ p0
      · obtain ⟨x, rfl⟩ := Int.eq_ofNat_of_zero_le hp
        obtain ⟨y, rfl⟩ := Int.eq_ofNat_of_zero_le (show 0 ≤ p1 by omega)
        obtain ⟨g, hg⟩ := gcd_same y x (by omega) (by omega)
        have hmax : spec_l00Max.f (x : Int) (wrap64 (-(x : Int))) = some (x : Int) := by
          unfold spec_l00Max.f; rw [w64 (by omega) (by omega)]; split
          · rfl
          · congr 1; omega
        refine ⟨(g == 1) && (decide ((x : Int) ≤ 1000000) && decide ((y : Int) ≤ 1000000)), (g == 1) && (decide ((x : Int) ≤ 1000000) && decide ((y : Int) ≤ 1000000)), fun k hk => ?_, fun _ => rfl, fun h => by omega, fun h => ?_, fun h => ?_⟩
        · unfold spec_l09Small.f impl_isSmallFraction.f spec_l01FIs.f impl_ValidFraction.f spec_l01Gcd.f impl_gcd.f
          simp only [within_e, l00In_e, d1, d0, Option.bind_some, if_true, hmax, (hg k (by omega)).1, (hg k (by omega)).2]
          cases hgb : (g == 1)
          · simp
          · by_cases hx : (x : Int) ≤ 1000000 <;> simp [hx]
        · simp at h; omega
        · simp at h; omega
      · obtain ⟨g, hg⟩ := gcd_any p1.natAbs p0 p1 rfl (by omega) (by omega) (by omega) (by omega)
        obtain ⟨x, hx⟩ := Int.eq_ofNat_of_zero_le (show 0 ≤ -p0 by omega)
        obtain ⟨y, hy⟩ := Int.eq_ofNat_of_zero_le (show 0 ≤ p1 by omega)
        obtain ⟨g2, hg2⟩ := gcd_same y x (by omega) (by omega)
        have hmax : spec_l00Max.f p0 (wrap64 (-p0)) = some (x : Int) := by
          unfold spec_l00Max.f; rw [w64 (by omega) (by omega), if_neg (by omega), hx]
        refine ⟨false, (g == 1) && (decide (p0 ≤ 1000000) && decide (p1 ≤ 1000000)), fun k hk => ?_, fun h => absurd h hp, fun h => rfl, fun h => by simp at h, fun h => ?_⟩
        · have e0 : decide (0 ≤ p0) = false := decide_eq_false hp
          unfold spec_l09Small.f impl_isSmallFraction.f spec_l01FIs.f impl_ValidFraction.f spec_l01Gcd.f impl_gcd.f
          have hg2' := (hg2 k (by omega)).1
          rw [← hy] at hg2'
          simp only [within_e, l00In_e, d1, d0, Option.bind_some, if_true, hmax, hg2', hg k (by omega), e0, Bool.false_and]
          refine ⟨by cases (g2 == 1) <;> simp, ?_⟩
          cases hgb : (g == 1)
          · simp
          · by_cases hx : p0 ≤ 1000000 <;> simp [hx]
        · simp at h; omega
    · have d1 : (decide (1 ≤ p1) && decide (p1 ≤ 1000000000000000000)) = true := by simp; omega
      have d0 : (decide (-1000000000000000000 ≤ p0) && decide (p0 ≤ 1000000000000000000)) = false := by simp; omega
      refine ⟨false, false, fun k hk => ?_, fun _ => rfl, fun _ => rfl, fun h => by simp at h, fun h => by simp at h⟩
      unfold spec_l09Small.f impl_isSmallFraction.f spec_l01FIs.f impl_ValidFraction.f
      simp only [within_e, l00In_e, d1, d0, Option.bind_some, if_true]
      simp
  · have d1 : (decide (1 ≤ p1) && decide (p1 ≤ 1000000000000000000)) = false := by simp; omega
    refine ⟨false, false, fun k hk => ?_, fun _ => rfl, fun _ => rfl, fun h => by simp at h, fun h => by simp at h⟩
    unfold spec_l09Small.f impl_isSmallFraction.f spec_l01FIs.f impl_ValidFraction.f
    simp only [within_e, l00In_e, d1, Option.bind_some]
    simp
theorem max_abs (a : Int) (h0 : 0 ≤ a) (h1 : a ≤ 1000000) : spec_l00Max.f a (wrap64 (-a)) = some a := by
  unfold spec_l00Max.f; rw [w64 (by omega) (by omega)]; split
  · rfl
  · congr 1; omega
theorem less_e (a b c d : Int) : spec_l01Less.f a b c d = some (decide (a < c ∨ a = c ∧ b < d)) := by
  unfold spec_l01Less.f
  by_cases h : a < c
  · simp [h]
  · by_cases h2 : a = c <;> simp [h, h2]
theorem cmp_same (p0 p1 q0 q1 : Int) (b0 : 0 ≤ p0) (b1 : p0 ≤ 1000000) (b2 : 1 ≤ p1) (b3 : p1 ≤ 1000000) (b4 : 0 ≤ q0) (b5 : q0 ≤ 1000000) (b6 : 1 ≤ q1) (b7 : q1 ≤ 1000000) :
    ∃ c : Int, (c ≥ 0 ↔ p0 * q1 ≤ q0 * p1) ∧ ∀ k : Nat, 0 < k → spec_l01FCmp.f k q0 q1 p0 p1 = some c := by
  have e1 : decide (q0 < 0) = false := decide_eq_false (by omega)
  have e2 : decide (p0 < 0) = false := decide_eq_false (by omega)
  refine ⟨if p0 * q1 < q0 * p1 then 1 else if q0 * p1 < p0 * q1 then -1 else 0, ?_, fun k hk => ?_⟩
  · split
    · omega
    · split <;> omega
  · cases k with
    | zero => omega
    | succ k =>
      unfold spec_l01FCmp.f
      rw [e1, e2, max_abs q0 b4 b5, max_abs p0 b0 b1]
      simp only [Option.bind_some, times_small q0 p1 b4 b5 (by omega) b3, times_small p0 q1 b0 b1 (by omega) b7, less_e, bne_self_eq_false, if_neg (show ¬ false = true by decide)]
      have hq : ¬ q0 < 0 := by omega
      by_cases h1 : q0 * p1 < p0 * q1
      · have h2 : ¬ p0 * q1 < q0 * p1 := by omega
        simp only [spec_l01FCmp.j0, less_e, h1, h2, hq]
        simp [w64]
      · by_cases h2 : p0 * q1 < q0 * p1
        · simp only [spec_l01FCmp.j0, less_e, h1, h2, hq]
          simp
        · simp only [spec_l01FCmp.j0, less_e, h1, h2, hq]
          simp
theorem loop_same (wh st n0 : Int) (m : Nat) (hm : m ≤ 400) (h0 : 0 ≤ n0) (h1 : n0 ≤ st) (hw : wh ≤ st) (hw0 : 1 ≤ wh) (hs : st ≤ 1000000000000) : ∀ (d i k : Nat), i + d = m → d < k →
    spec_SampleUps.l0 k m st wh (nxs wh st n0 i) (lvs (slv wh st n0) i) i = some (strOfNums (lvs (slv wh st n0) m), true) := by
  intro d
  induction d with
  | zero =>
    intro i k hi hk
    cases k with
    | zero => omega
    | succ k =>
      have : i = m := by omega
      subst this
      rw [spec_SampleUps.l0, if_neg (by omega)]
  | succ d ih =>
    intro i k hi hk
    cases k with
    | zero => omega
    | succ k =>
      have hb := nxs_bd wh st n0 h0 h1 hw (by omega) i
      have e2 : ((i : Int) + 1) * wh = (i : Int) * wh + wh := by rw [Int.add_mul]; simp
      have p0 : 0 ≤ (i : Int) * wh := Int.mul_nonneg (by omega) (by omega)
      have p1 : (i : Int) * wh ≤ 400 * 1000000000000 := Int.mul_le_mul (by omega) (by omega) (by omega) (by omega)
      have hih := ih (i + 1) k (by omega) (by omega)
      rw [spec_SampleUps.l0, if_pos (by omega), w64 (n := (i : Int) + 1) (by omega) (by omega), w64 (n := ((i : Int) + 1) * wh) (by omega) (by omega)]
      have hl : (lvs (slv wh st n0) i).length < 140737488355328 := by rw [lvs_len]; omega
      by_cases h : nxs wh st n0 i < ((i : Int) + 1) * wh
      · rw [if_pos h, if_pos hl, w64 (by omega) (by omega)]
        have e : nxs wh st n0 (i + 1) = nxs wh st n0 i + st := by rw [nxs, if_pos h]
        rw [e, lvs_one _ _ (show slv wh st n0 i = true by unfold slv; exact decide_eq_true h)] at hih
        exact hih
      · rw [if_neg h, if_pos hl]
        have e : nxs wh st n0 (i + 1) = nxs wh st n0 i := by rw [nxs, if_neg h]
        rw [e, lvs_zero _ _ (show slv wh st n0 i = false by unfold slv; exact decide_eq_false h)] at hih
        exact hih
theorem sample_same (p0 p1 q0 q1 n : Int) : ∃ (s : ByteArray) (t : Bool), ∀ k : Nat, 2000000000000000000 < k → spec_SampleUps.f k p0 p1 q0 q1 n = some (s, t) ∧ impl_SampleUps.f k p0 p1 q0 q1 n = some (s, t) := by
  obtain ⟨bp, bp', hP, P1, P2, P3, P4⟩ := small_same p0 p1
  obtain ⟨bq, bq', hQ, Q1, Q2, Q3, Q4⟩ := small_same q0 q1
  have no : ∀ k : Nat, 2000000000000000000 < k → spec_SampleUps.j0 k n true p0 p1 q0 q1 = some (⟨#[]⟩, false) := by
    intro k hk
    cases k with
    | zero => omega
    | succ k => rw [spec_SampleUps.j0, if_pos rfl]
  have tick : impl_isTicks.f n = some (decide (0 ≤ n) && decide (n ≤ 400)) := by unfold impl_isTicks.f; rw [within_e]; rfl
  by_cases hgood : bp = true ∧ bq = true ∧ ¬ p0 < p1
  · obtain ⟨g1, g2, g3⟩ := hgood
    have hp := P3 g1
    have hq := Q3 g2
    have e1 : bp' = true := by rw [← P1 hp.1]; exact g1
    have e2 : bq' = true := by rw [← Q1 hq.1]; exact g2
    subst g1 g2 e1 e2
    obtain ⟨c, hc, hcmp⟩ := cmp_same p0 p1 q0 q1 hp.1 hp.2.1 hp.2.2.1 hp.2.2.2 hq.1 hq.2.1 hq.2.2.1 hq.2.2.2
    have m0 : 0 ≤ q0 * p1 := Int.mul_nonneg hq.1 (by omega)
    have m2 : p1 * q1 ≤ p0 * q1 := Int.mul_le_mul_of_nonneg_right (by omega) (by omega)
    have m3 : 1 ≤ p1 * q1 := by have := Int.mul_le_mul hp.2.2.1 hq.2.2.1 (by omega) (by omega : 0 ≤ p1); simpa using this
    have m4 : p0 * q1 ≤ 1000000000000 := by have := Int.mul_le_mul hp.2.1 hq.2.2.2 (by omega) (by omega : (0 : Int) ≤ 1000000); omega
    by_cases ht : 0 ≤ n ∧ n ≤ 400
    · have et : (decide (0 ≤ n) && decide (n ≤ 400)) = true := by simp; omega
      obtain ⟨m, rfl⟩ := Int.eq_ofNat_of_zero_le ht.1
      by_cases h3 : p0 * q1 ≤ q0 * p1
      · refine ⟨⟨#[]⟩, false, fun k hk => ?_⟩
        unfold spec_SampleUps.f impl_SampleUps.f
        rw [(hP k (by omega)).1, (hP k (by omega)).2, (hQ k (by omega)).1, (hQ k (by omega)).2, tick, et]
        simp only [Option.bind_some, if_true, if_neg g3, if_neg (show ¬ q0 < 0 by omega), hcmp k (by omega), if_pos (hc.2 h3), no k hk, if_pos h3]
        rw [if_pos ⟨hp, hq, by omega, by omega⟩]
        simp
      · refine ⟨strOfNums (lvs (slv (p1 * q1) (p0 * q1) (q0 * p1)) m), true, fun k hk => ?_⟩
        unfold spec_SampleUps.f impl_SampleUps.f
        rw [(hP k (by omega)).1, (hP k (by omega)).2, (hQ k (by omega)).1, (hQ k (by omega)).2, tick, l00In_e, et]
        have hcn : ¬ c ≥ 0 := fun h => h3 (hc.1 h)
        simp only [Option.bind_some, if_true, if_neg g3, if_neg (show ¬ q0 < 0 by omega), hcmp k (by omega), if_neg hcn, if_neg h3, Bool.not_true]
        rw [if_pos ⟨hp, hq, by omega, by omega⟩]
        refine ⟨?_, by rw [Int.toNat_natCast]⟩
        cases k with
        | zero => omega
        | succ k =>
          rw [spec_SampleUps.j0, if_neg (by decide), w64 (n := p0 * q1) (by omega) (by omega), w64 (n := p1 * q1) (by omega) (by omega), w64 (n := q0 * p1) (by omega) (by omega)]
          exact loop_same (p1 * q1) (p0 * q1) (q0 * p1) m (by omega) m0 (by omega) m2 m3 m4 m 0 k (by omega) (by omega)
    · have et : (decide (0 ≤ n) && decide (n ≤ 400)) = false := by simp; omega
      refine ⟨⟨#[]⟩, false, fun k hk => ?_⟩
      unfold spec_SampleUps.f impl_SampleUps.f
      rw [(hP k (by omega)).1, (hP k (by omega)).2, (hQ k (by omega)).1, (hQ k (by omega)).2, tick, l00In_e, et]
      simp only [Option.bind_some, if_true, if_neg g3, if_neg (show ¬ q0 < 0 by omega), hcmp k (by omega), Bool.not_false, no k hk]
      constructor
      · split <;> rfl
      · simp
  · refine ⟨⟨#[]⟩, false, fun k hk => ?_⟩
    unfold spec_SampleUps.f impl_SampleUps.f
    rw [(hP k (by omega)).1, (hP k (by omega)).2, (hQ k (by omega)).1, (hQ k (by omega)).2]
    simp only [Option.bind_some, no k hk]
    constructor
    · cases bp
      · rfl
      · cases bq
        · rfl
        · by_cases h : p0 < p1
          · simp [h]
          · exact absurd ⟨rfl, rfl, h⟩ hgood
    · cases h1 : bp'
      · rfl
      · cases h2 : bq'
        · rfl
        · by_cases h : p0 < p1
          · simp [h]
          · have := P4 h1
            have hbp : bp = true := by rw [P1 (by omega)]; exact h1
            by_cases hq : q0 < 0
            · simp [h, hq]
            · have hbq : bq = true := by rw [Q1 (by omega)]; exact h2
              exact absurd ⟨hbp, hbq, h⟩ hgood
theorem FnExactSampleUps_pure (p0 p1 q0 q1 n : Int) (_ : (Lit.int .i64 p0).wf = true) (_ : (Lit.int .i64 p1).wf = true) (_ : (Lit.int .i64 q0).wf = true) (_ : (Lit.int .i64 q1).wf = true) (_ : (Lit.int .i64 n).wf = true) :
    ∃ k, laws_FnExactSampleUps.f k p0 p1 q0 q1 n = some true := by
  obtain ⟨s, t, h⟩ := sample_same p0 p1 q0 q1 n
  obtain ⟨k, hk⟩ : ∃ k : Nat, 2000000000000000000 < k := ⟨_, Nat.lt_succ_self _⟩
  refine ⟨k, ?_⟩
  unfold laws_FnExactSampleUps.f laws_toFraction.f
  simp only [Option.bind_some, (h k hk).1, (h k hk).2, if_true, bne_self_eq_false]
  simp
end Go.Proofs.Ytcpfkfaiakpfjaa.X

