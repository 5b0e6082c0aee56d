/- The program's WaveOf, its closure and its body: what the plain function wv says. Conditions: none. -/
import Derived.Test.YtmhfknmjchaccaaXWave
import Derived.Test.YtmhfknmjchaccaaXp15
import Derived.Test.YtmhfknmjchaccaaXp36
import Derived.Test.YtmhfknmjchaccaaXp44
import Derived.Test.YtmhfknmjchaccaaCMath
namespace Go.Proofs.Ytmhfknmjchaccaa.X
open Go.RowKit Go.Proofs.YtmhfknmjchaccaaW.PrintWords Go.Proofs.YtmhfknmjchaccaaW.PrintLast Go.Proofs.YtmhfknmjchaccaaW.PrintMore Go.Proofs.Ytmhfknmjchaccaa.CMath

def wlv (P O h : Int) (i : Nat) : Bool := decide (O ≤ (i : Int)) && decide (((i : Int) - O) % P < h)

set_option maxHeartbeats 4000000 in
set_option maxRecDepth 100000 in
theorem WaveOf1_any (i : Nat) (hi : i ≤ 1000000) (P O h : Int) (hP : 1 ≤ P) (hP2 : P ≤ 100000) (hO : 0 ≤ O) (hO2 : O ≤ 100000) (g3 g4 : Nat) (w : World) (h3 : w.heap[g3]? = some (.cells #[.int .i64 P, .int .i64 O] 25 (0, 0))) (h4 : w.heap[g4]? = some (.cells #[.int .i64 h] 2 (0, 0))) :
    Calls Try.prog 46 #[.int .i64 i, .pointer (some ⟨g3, 0, none⟩), .pointer (some ⟨g4, 0, none⟩)] w fun e w' => e = .returned (.bool (wlv P O h i)) ∧ Drawn0 w w' := by
  have c30 : w.cell? ⟨g3, 0, none⟩ = some (.int .i64 P) := (blk_cell h3 0).trans rfl
  have c31 : w.cell? ⟨g3, 1, none⟩ = some (.int .i64 O) := (blk_cell h3 1).trans rfl
  have c40 : w.cell? ⟨g4, 0, none⟩ = some (.int .i64 h) := (blk_cell h4 0).trans rfl
  clear h3 h4
  by_cases hs : O ≤ (i : Int)
  · have hd : decide (O ≤ (i : Int)) = true := decide_eq_true hs
    have hv : Aside0 (wlv P O h i = decide (((i : Int) - O) % P < h)) := ⟨by simp [wlv, hs]⟩
    go_enter Try.func46, Try.ntmps46
    go_wp2
    go_quiet (fail)
    go_wp2
    go_ret
    exact ⟨by rw [hv.out]; rfl, by repeat (first | exact Drawn0.refl _ | apply Drawn0.step)⟩
  · have hd : decide (O ≤ (i : Int)) = false := decide_eq_false hs
    have hv : Aside0 (wlv P O h i = false) := ⟨by simp [wlv, hs]⟩
    go_enter Try.func46, Try.ntmps46
    go_wp2
    go_quiet (fail)
    go_wp2
    go_ret
    exact ⟨by rw [hv.out]; rfl, by repeat (first | exact Drawn0.refl _ | apply Drawn0.step)⟩

theorem to_below_d {w w' : World} (h : Drawn0 w w') : Below w.heap.size w w' := h.below
theorem to_below_b {w w' : World} (h : Below w.heap.size w w') : Below w.heap.size w w' := h
set_option maxHeartbeats 4000000 in
set_option maxRecDepth 100000 in
theorem WaveOf_no1 (P O h T : Int) (w : World) (h1 : impl_ValidClock.f P O = some false) :
    Calls Try.prog 28 #[.agg #[.int .i64 P, .int .i64 O], .int .i64 h, .int .i64 T] w fun e w' => e = .returned (.tuple #[.string ⟨#[]⟩, .bool false]) ∧ Below w.heap.size w w' := by
  have Hh1 := Aside0.mk h1
  clear h1
  have HB := Aside0.mk (Below.refl w.heap.size w)
  go_enter Try.func28, Try.ntmps28
  go_wp2_with (first
    | ((with_reducible refine gate_dst (N := 3) rfl ?_); refine box_event ?hg (N := 3) ?hd (cs := #[.int .i64 P, .int .i64 O]) (t := 25) ?hr ?_; (case hd => rfl); (case hg => rfl); (case hr => first | (go_simp; done) | (go_simp; rfl)); intro g3 hg wn hbox hb; have GE3 := Aside0.mk (by rw [hg]; exact below_size HB.out : w.heap.size ≤ g3); clear hg; have BK30 := Aside0.mk hbox; clear hbox; have n0_ := Aside0.mk (below_step HB.out hb); clear HB  hb; have HB := n0_; clear n0_ ; have BK3 := BK30; clear BK30; have c3_0 : wn.cell? ⟨g3, 0, none⟩ = some (.int .i64 P) := (blk_cell BK3.out 0).trans rfl; have c3_1 : wn.cell? ⟨g3, 1, none⟩ = some (.int .i64 O) := (blk_cell BK3.out 1).trans rfl)
    | ((with_reducible refine gate_dst (N := 4) rfl ?_); refine box_event ?hg (N := 4) ?hd (cs := #[.int .i64 h]) (t := 2) ?hr ?_; (case hd => rfl); (case hg => rfl); (case hr => first | (go_simp; done) | (go_simp; rfl)); intro g4 hg wn hbox hb; have GE4 := Aside0.mk (by rw [hg]; exact below_size HB.out : w.heap.size ≤ g4); have NE3_4 := Aside0.mk (show g3 ≠ g4 by have := blk_lt BK3.out; omega); clear hg; have BK40 := Aside0.mk hbox; clear hbox; have n0_ := Aside0.mk (below_step HB.out hb); have m3_ := Aside0.mk (blk_below BK3.out hb); clear HB BK3 hb; have HB := n0_; have BK3 := m3_; clear n0_ m3_; have c3_0 : wn.cell? ⟨g3, 0, none⟩ = some (.int .i64 P) := (blk_cell BK3.out 0).trans rfl; have c3_1 : wn.cell? ⟨g3, 1, none⟩ = some (.int .i64 O) := (blk_cell BK3.out 1).trans rfl; have BK4 := BK40; clear BK40; have c4_0 : wn.cell? ⟨g4, 0, none⟩ = some (.int .i64 h) := (blk_cell BK4.out 0).trans rfl)
    | (go_at_call 15; (with_reducible refine (impl_ValidClock.calls P O false _ Hh1.out).mono ?_); rintro e wn ⟨rfl, hb0⟩; (first | have hb := to_below_d hb0 | have hb := to_below_b hb0); clear hb0; have n0_ := Aside0.mk (below_step HB.out hb); have m3_ := Aside0.mk (blk_below BK3.out hb); have m4_ := Aside0.mk (blk_below BK4.out hb); clear HB BK3 BK4 hb; have HB := n0_; have BK3 := m3_; have BK4 := m4_; clear n0_ m3_ m4_; have c3_0 : wn.cell? ⟨g3, 0, none⟩ = some (.int .i64 P) := (blk_cell BK3.out 0).trans rfl; have c3_1 : wn.cell? ⟨g3, 1, none⟩ = some (.int .i64 O) := (blk_cell BK3.out 1).trans rfl; have c4_0 : wn.cell? ⟨g4, 0, none⟩ = some (.int .i64 h) := (blk_cell BK4.out 0).trans rfl))
  go_ret2
  exact ⟨rfl, HB.out⟩
set_option maxHeartbeats 4000000 in
set_option maxRecDepth 100000 in
theorem WaveOf_no2 (P O h T : Int) (w : World) (h1 : impl_ValidClock.f P O = some true) (h2 : impl_within.f h 0 P = some false) :
    Calls Try.prog 28 #[.agg #[.int .i64 P, .int .i64 O], .int .i64 h, .int .i64 T] w fun e w' => e = .returned (.tuple #[.string ⟨#[]⟩, .bool false]) ∧ Below w.heap.size w w' := by
  have Hh1 := Aside0.mk h1
  have Hh2 := Aside0.mk h2
  clear h1 h2
  have HB := Aside0.mk (Below.refl w.heap.size w)
  go_enter Try.func28, Try.ntmps28
  go_wp2_with (first
    | ((with_reducible refine gate_dst (N := 3) rfl ?_); refine box_event ?hg (N := 3) ?hd (cs := #[.int .i64 P, .int .i64 O]) (t := 25) ?hr ?_; (case hd => rfl); (case hg => rfl); (case hr => first | (go_simp; done) | (go_simp; rfl)); intro g3 hg wn hbox hb; have GE3 := Aside0.mk (by rw [hg]; exact below_size HB.out : w.heap.size ≤ g3); clear hg; have BK30 := Aside0.mk hbox; clear hbox; have n0_ := Aside0.mk (below_step HB.out hb); clear HB  hb; have HB := n0_; clear n0_ ; have BK3 := BK30; clear BK30; have c3_0 : wn.cell? ⟨g3, 0, none⟩ = some (.int .i64 P) := (blk_cell BK3.out 0).trans rfl; have c3_1 : wn.cell? ⟨g3, 1, none⟩ = some (.int .i64 O) := (blk_cell BK3.out 1).trans rfl)
    | ((with_reducible refine gate_dst (N := 4) rfl ?_); refine box_event ?hg (N := 4) ?hd (cs := #[.int .i64 h]) (t := 2) ?hr ?_; (case hd => rfl); (case hg => rfl); (case hr => first | (go_simp; done) | (go_simp; rfl)); intro g4 hg wn hbox hb; have GE4 := Aside0.mk (by rw [hg]; exact below_size HB.out : w.heap.size ≤ g4); have NE3_4 := Aside0.mk (show g3 ≠ g4 by have := blk_lt BK3.out; omega); clear hg; have BK40 := Aside0.mk hbox; clear hbox; have n0_ := Aside0.mk (below_step HB.out hb); have m3_ := Aside0.mk (blk_below BK3.out hb); clear HB BK3 hb; have HB := n0_; have BK3 := m3_; clear n0_ m3_; have c3_0 : wn.cell? ⟨g3, 0, none⟩ = some (.int .i64 P) := (blk_cell BK3.out 0).trans rfl; have c3_1 : wn.cell? ⟨g3, 1, none⟩ = some (.int .i64 O) := (blk_cell BK3.out 1).trans rfl; have BK4 := BK40; clear BK40; have c4_0 : wn.cell? ⟨g4, 0, none⟩ = some (.int .i64 h) := (blk_cell BK4.out 0).trans rfl)
    | (go_at_call 15; (with_reducible refine (impl_ValidClock.calls P O true _ Hh1.out).mono ?_); rintro e wn ⟨rfl, hb0⟩; (first | have hb := to_below_d hb0 | have hb := to_below_b hb0); clear hb0; have n0_ := Aside0.mk (below_step HB.out hb); have m3_ := Aside0.mk (blk_below BK3.out hb); have m4_ := Aside0.mk (blk_below BK4.out hb); clear HB BK3 BK4 hb; have HB := n0_; have BK3 := m3_; have BK4 := m4_; clear n0_ m3_ m4_; have c3_0 : wn.cell? ⟨g3, 0, none⟩ = some (.int .i64 P) := (blk_cell BK3.out 0).trans rfl; have c3_1 : wn.cell? ⟨g3, 1, none⟩ = some (.int .i64 O) := (blk_cell BK3.out 1).trans rfl; have c4_0 : wn.cell? ⟨g4, 0, none⟩ = some (.int .i64 h) := (blk_cell BK4.out 0).trans rfl)
    | (go_at_call 36; (with_reducible refine (impl_within.calls h 0 P false _ Hh2.out).mono ?_); rintro e wn ⟨rfl, hb0⟩; (first | have hb := to_below_d hb0 | have hb := to_below_b hb0); clear hb0; have n0_ := Aside0.mk (below_step HB.out hb); have m3_ := Aside0.mk (blk_below BK3.out hb); have m4_ := Aside0.mk (blk_below BK4.out hb); clear HB BK3 BK4 hb; have HB := n0_; have BK3 := m3_; have BK4 := m4_; clear n0_ m3_ m4_; have c3_0 : wn.cell? ⟨g3, 0, none⟩ = some (.int .i64 P) := (blk_cell BK3.out 0).trans rfl; have c3_1 : wn.cell? ⟨g3, 1, none⟩ = some (.int .i64 O) := (blk_cell BK3.out 1).trans rfl; have c4_0 : wn.cell? ⟨g4, 0, none⟩ = some (.int .i64 h) := (blk_cell BK4.out 0).trans rfl))
  go_ret2
  exact ⟨rfl, HB.out⟩
set_option maxHeartbeats 4000000 in
set_option maxRecDepth 100000 in
theorem WaveOf_no3 (P O h T : Int) (w : World) (h1 : impl_ValidClock.f P O = some true) (h2 : impl_within.f h 0 P = some true) (h3 : impl_isTicks.f T = some false) :
    Calls Try.prog 28 #[.agg #[.int .i64 P, .int .i64 O], .int .i64 h, .int .i64 T] w fun e w' => e = .returned (.tuple #[.string ⟨#[]⟩, .bool false]) ∧ Below w.heap.size w w' := by
  have Hh1 := Aside0.mk h1
  have Hh2 := Aside0.mk h2
  have Hh3 := Aside0.mk h3
  clear h1 h2 h3
  have HB := Aside0.mk (Below.refl w.heap.size w)
  go_enter Try.func28, Try.ntmps28
  go_wp2_with (first
    | ((with_reducible refine gate_dst (N := 3) rfl ?_); refine box_event ?hg (N := 3) ?hd (cs := #[.int .i64 P, .int .i64 O]) (t := 25) ?hr ?_; (case hd => rfl); (case hg => rfl); (case hr => first | (go_simp; done) | (go_simp; rfl)); intro g3 hg wn hbox hb; have GE3 := Aside0.mk (by rw [hg]; exact below_size HB.out : w.heap.size ≤ g3); clear hg; have BK30 := Aside0.mk hbox; clear hbox; have n0_ := Aside0.mk (below_step HB.out hb); clear HB  hb; have HB := n0_; clear n0_ ; have BK3 := BK30; clear BK30; have c3_0 : wn.cell? ⟨g3, 0, none⟩ = some (.int .i64 P) := (blk_cell BK3.out 0).trans rfl; have c3_1 : wn.cell? ⟨g3, 1, none⟩ = some (.int .i64 O) := (blk_cell BK3.out 1).trans rfl)
    | ((with_reducible refine gate_dst (N := 4) rfl ?_); refine box_event ?hg (N := 4) ?hd (cs := #[.int .i64 h]) (t := 2) ?hr ?_; (case hd => rfl); (case hg => rfl); (case hr => first | (go_simp; done) | (go_simp; rfl)); intro g4 hg wn hbox hb; have GE4 := Aside0.mk (by rw [hg]; exact below_size HB.out : w.heap.size ≤ g4); have NE3_4 := Aside0.mk (show g3 ≠ g4 by have := blk_lt BK3.out; omega); clear hg; have BK40 := Aside0.mk hbox; clear hbox; have n0_ := Aside0.mk (below_step HB.out hb); have m3_ := Aside0.mk (blk_below BK3.out hb); clear HB BK3 hb; have HB := n0_; have BK3 := m3_; clear n0_ m3_; have c3_0 : wn.cell? ⟨g3, 0, none⟩ = some (.int .i64 P) := (blk_cell BK3.out 0).trans rfl; have c3_1 : wn.cell? ⟨g3, 1, none⟩ = some (.int .i64 O) := (blk_cell BK3.out 1).trans rfl; have BK4 := BK40; clear BK40; have c4_0 : wn.cell? ⟨g4, 0, none⟩ = some (.int .i64 h) := (blk_cell BK4.out 0).trans rfl)
    | (go_at_call 15; (with_reducible refine (impl_ValidClock.calls P O true _ Hh1.out).mono ?_); rintro e wn ⟨rfl, hb0⟩; (first | have hb := to_below_d hb0 | have hb := to_below_b hb0); clear hb0; have n0_ := Aside0.mk (below_step HB.out hb); have m3_ := Aside0.mk (blk_below BK3.out hb); have m4_ := Aside0.mk (blk_below BK4.out hb); clear HB BK3 BK4 hb; have HB := n0_; have BK3 := m3_; have BK4 := m4_; clear n0_ m3_ m4_; have c3_0 : wn.cell? ⟨g3, 0, none⟩ = some (.int .i64 P) := (blk_cell BK3.out 0).trans rfl; have c3_1 : wn.cell? ⟨g3, 1, none⟩ = some (.int .i64 O) := (blk_cell BK3.out 1).trans rfl; have c4_0 : wn.cell? ⟨g4, 0, none⟩ = some (.int .i64 h) := (blk_cell BK4.out 0).trans rfl)
    | (go_at_call 36; (with_reducible refine (impl_within.calls h 0 P true _ Hh2.out).mono ?_); rintro e wn ⟨rfl, hb0⟩; (first | have hb := to_below_d hb0 | have hb := to_below_b hb0); clear hb0; have n0_ := Aside0.mk (below_step HB.out hb); have m3_ := Aside0.mk (blk_below BK3.out hb); have m4_ := Aside0.mk (blk_below BK4.out hb); clear HB BK3 BK4 hb; have HB := n0_; have BK3 := m3_; have BK4 := m4_; clear n0_ m3_ m4_; have c3_0 : wn.cell? ⟨g3, 0, none⟩ = some (.int .i64 P) := (blk_cell BK3.out 0).trans rfl; have c3_1 : wn.cell? ⟨g3, 1, none⟩ = some (.int .i64 O) := (blk_cell BK3.out 1).trans rfl; have c4_0 : wn.cell? ⟨g4, 0, none⟩ = some (.int .i64 h) := (blk_cell BK4.out 0).trans rfl)
    | (go_at_call 44; (with_reducible refine (impl_isTicks.calls T false _ Hh3.out).mono ?_); rintro e wn ⟨rfl, hb0⟩; (first | have hb := to_below_d hb0 | have hb := to_below_b hb0); clear hb0; have n0_ := Aside0.mk (below_step HB.out hb); have m3_ := Aside0.mk (blk_below BK3.out hb); have m4_ := Aside0.mk (blk_below BK4.out hb); clear HB BK3 BK4 hb; have HB := n0_; have BK3 := m3_; have BK4 := m4_; clear n0_ m3_ m4_; have c3_0 : wn.cell? ⟨g3, 0, none⟩ = some (.int .i64 P) := (blk_cell BK3.out 0).trans rfl; have c3_1 : wn.cell? ⟨g3, 1, none⟩ = some (.int .i64 O) := (blk_cell BK3.out 1).trans rfl; have c4_0 : wn.cell? ⟨g4, 0, none⟩ = some (.int .i64 h) := (blk_cell BK4.out 0).trans rfl))
  go_ret2
  exact ⟨rfl, HB.out⟩
set_option maxHeartbeats 4000000 in
set_option maxRecDepth 100000 in
theorem WaveOf_yes (P O h : Int) (n : Nat) (hP : 1 ≤ P) (hP2 : P ≤ 100000) (hO : 0 ≤ O) (hO2 : O ≤ 100000) (hn : n ≤ 400) (w : World) (h1 : impl_ValidClock.f P O = some true) (h2 : impl_within.f h 0 P = some true) (h3 : impl_isTicks.f (n : Int) = some true) :
    Calls Try.prog 28 #[.agg #[.int .i64 P, .int .i64 O], .int .i64 h, .int .i64 (n : Int)] w fun e w' => e = .returned (.tuple #[.string (strOfNums (lvs (wlv P O h) n)), .bool true]) ∧ Below w.heap.size w w' := by
  have Hh1 := Aside0.mk h1
  have Hh2 := Aside0.mk h2
  have Hh3 := Aside0.mk h3
  clear h1 h2 h3
  have HB := Aside0.mk (Below.refl w.heap.size w)
  go_enter Try.func28, Try.ntmps28
  go_wp2_with (first
    | ((with_reducible refine gate_dst (N := 3) rfl ?_); refine box_event ?hg (N := 3) ?hd (cs := #[.int .i64 P, .int .i64 O]) (t := 25) ?hr ?_; (case hd => rfl); (case hg => rfl); (case hr => first | (go_simp; done) | (go_simp; rfl)); intro g3 hg wn hbox hb; have GE3 := Aside0.mk (by rw [hg]; exact below_size HB.out : w.heap.size ≤ g3); clear hg; have BK30 := Aside0.mk hbox; clear hbox; have n0_ := Aside0.mk (below_step HB.out hb); clear HB  hb; have HB := n0_; clear n0_ ; have BK3 := BK30; clear BK30; have c3_0 : wn.cell? ⟨g3, 0, none⟩ = some (.int .i64 P) := (blk_cell BK3.out 0).trans rfl; have c3_1 : wn.cell? ⟨g3, 1, none⟩ = some (.int .i64 O) := (blk_cell BK3.out 1).trans rfl)
    | ((with_reducible refine gate_dst (N := 4) rfl ?_); refine box_event ?hg (N := 4) ?hd (cs := #[.int .i64 h]) (t := 2) ?hr ?_; (case hd => rfl); (case hg => rfl); (case hr => first | (go_simp; done) | (go_simp; rfl)); intro g4 hg wn hbox hb; have GE4 := Aside0.mk (by rw [hg]; exact below_size HB.out : w.heap.size ≤ g4); have NE3_4 := Aside0.mk (show g3 ≠ g4 by have := blk_lt BK3.out; omega); clear hg; have BK40 := Aside0.mk hbox; clear hbox; have n0_ := Aside0.mk (below_step HB.out hb); have m3_ := Aside0.mk (blk_below BK3.out hb); clear HB BK3 hb; have HB := n0_; have BK3 := m3_; clear n0_ m3_; have c3_0 : wn.cell? ⟨g3, 0, none⟩ = some (.int .i64 P) := (blk_cell BK3.out 0).trans rfl; have c3_1 : wn.cell? ⟨g3, 1, none⟩ = some (.int .i64 O) := (blk_cell BK3.out 1).trans rfl; have BK4 := BK40; clear BK40; have c4_0 : wn.cell? ⟨g4, 0, none⟩ = some (.int .i64 h) := (blk_cell BK4.out 0).trans rfl)
    | (go_at_call 15; (with_reducible refine (impl_ValidClock.calls P O true _ Hh1.out).mono ?_); rintro e wn ⟨rfl, hb0⟩; (first | have hb := to_below_d hb0 | have hb := to_below_b hb0); clear hb0; have n0_ := Aside0.mk (below_step HB.out hb); have m3_ := Aside0.mk (blk_below BK3.out hb); have m4_ := Aside0.mk (blk_below BK4.out hb); clear HB BK3 BK4 hb; have HB := n0_; have BK3 := m3_; have BK4 := m4_; clear n0_ m3_ m4_; have c3_0 : wn.cell? ⟨g3, 0, none⟩ = some (.int .i64 P) := (blk_cell BK3.out 0).trans rfl; have c3_1 : wn.cell? ⟨g3, 1, none⟩ = some (.int .i64 O) := (blk_cell BK3.out 1).trans rfl; have c4_0 : wn.cell? ⟨g4, 0, none⟩ = some (.int .i64 h) := (blk_cell BK4.out 0).trans rfl)
    | (go_at_call 36; (with_reducible refine (impl_within.calls h 0 P true _ Hh2.out).mono ?_); rintro e wn ⟨rfl, hb0⟩; (first | have hb := to_below_d hb0 | have hb := to_below_b hb0); clear hb0; have n0_ := Aside0.mk (below_step HB.out hb); have m3_ := Aside0.mk (blk_below BK3.out hb); have m4_ := Aside0.mk (blk_below BK4.out hb); clear HB BK3 BK4 hb; have HB := n0_; have BK3 := m3_; have BK4 := m4_; clear n0_ m3_ m4_; have c3_0 : wn.cell? ⟨g3, 0, none⟩ = some (.int .i64 P) := (blk_cell BK3.out 0).trans rfl; have c3_1 : wn.cell? ⟨g3, 1, none⟩ = some (.int .i64 O) := (blk_cell BK3.out 1).trans rfl; have c4_0 : wn.cell? ⟨g4, 0, none⟩ = some (.int .i64 h) := (blk_cell BK4.out 0).trans rfl)
    | (go_at_call 44; (with_reducible refine (impl_isTicks.calls n true _ Hh3.out).mono ?_); rintro e wn ⟨rfl, hb0⟩; (first | have hb := to_below_d hb0 | have hb := to_below_b hb0); clear hb0; have n0_ := Aside0.mk (below_step HB.out hb); have m3_ := Aside0.mk (blk_below BK3.out hb); have m4_ := Aside0.mk (blk_below BK4.out hb); clear HB BK3 BK4 hb; have HB := n0_; have BK3 := m3_; have BK4 := m4_; clear n0_ m3_ m4_; have c3_0 : wn.cell? ⟨g3, 0, none⟩ = some (.int .i64 P) := (blk_cell BK3.out 0).trans rfl; have c3_1 : wn.cell? ⟨g3, 1, none⟩ = some (.int .i64 O) := (blk_cell BK3.out 1).trans rfl; have c4_0 : wn.cell? ⟨g4, 0, none⟩ = some (.int .i64 h) := (blk_cell BK4.out 0).trans rfl)
    | (go_at_call 45; (with_reducible refine (waveOf_any n (by omega) 46 Try.f46 #[.pointer (some ⟨g3, 0, none⟩), .pointer (some ⟨g4, 0, none⟩)] (wlv P O h) (fun _ W => W.heap[g3]? = some (.cells #[.int .i64 P, .int .i64 O] 25 (0, 0)) ∧ W.heap[g4]? = some (.cells #[.int .i64 h] 2 (0, 0))) w.heap.size (fun _ => False) _ Try.func46 rfl (by kernel_rfl) ⟨BK3.out, BK4.out⟩ (below_size HB.out) (fun _ hk => hk.elim) ?st ?cl).mono ?_); (case st => exact fun i wa wb hI hs => ⟨(hs g3 (blk_lt BK3.out)).trans hI.1, (hs g4 (blk_lt BK4.out)).trans hI.2⟩); (case cl => exact fun i hi wr hI hsz => (WaveOf1_any i (by omega) P O h hP hP2 hO hO2 g3 g4 wr hI.1 hI.2).mono fun e w' ⟨h1, h2⟩ => ⟨h1, ⟨(blk_below hI.1 h2.below), (blk_below hI.2 h2.below)⟩, h2.below.mono (Nat.le_trans (below_size HB.out) hsz), Kept.of_below h2.below _⟩); rintro e wn ⟨rfl, hI, hb, hk⟩; have n0_ := Aside0.mk (HB.out.trans hb); clear HB hb hI hk; have HB := n0_; clear n0_))
  go_ret2
  exact ⟨rfl, HB.out⟩

theorem within_eq (a b c : Int) : impl_within.f a b c = some (decide (b ≤ a ∧ a ≤ c)) := by
  unfold impl_within.f; by_cases h : a ≥ b <;> simp [h] <;> omega
def Clk (P O : Int) : Prop := (1 ≤ P ∧ P ≤ 100000) ∧ (0 ≤ O ∧ O ≤ 100000)
instance (P O : Int) : Decidable (Clk P O) := by unfold Clk; infer_instance
theorem impl_valid (P O : Int) : impl_ValidClock.f P O = some (decide (Clk P O)) := by
  unfold impl_ValidClock.f Clk; simp only [within_eq, Option.bind_some]
  by_cases h : 1 ≤ P ∧ P ≤ 100000 <;> simp [h]
theorem ticks_eq (T : Int) : impl_isTicks.f T = some (decide (0 ≤ T ∧ T ≤ 400)) := by
  unfold impl_isTicks.f; simp [within_eq]

/-- What WaveOf answers. -/
def impl_WaveOf.f (a0_0 : Int) (a0_1 : Int) (a1 : Int) (a2 : Int) : Option (ByteArray × Bool) :=
  if Clk a0_0 a0_1 then (if 0 ≤ a1 ∧ a1 ≤ a0_0 then (if 0 ≤ a2 ∧ a2 ≤ 400 then some (strOfNums (lvs (wlv a0_0 a0_1 a1) a2.toNat), true) else some (⟨#[]⟩, false)) else some (⟨#[]⟩, false)) else some (⟨#[]⟩, false)
theorem impl_WaveOf.calls (a0_0 : Int) (a0_1 : Int) (a1 : Int) (a2 : Int) (r1 : ByteArray) (r2 : Bool) (w : World) (h : impl_WaveOf.f a0_0 a0_1 a1 a2 = some (r1, r2)) :
    Calls Try.prog 28 #[.agg #[.int .i64 a0_0, .int .i64 a0_1], .int .i64 a1, .int .i64 a2] w fun e w' => e = .returned (.tuple #[.string r1, .bool r2]) ∧ Below w.heap.size w w' := by
  unfold impl_WaveOf.f at h
  by_cases h1 : Clk a0_0 a0_1
  · have H1 : impl_ValidClock.f a0_0 a0_1 = some true := by rw [impl_valid]; simp [h1]
    rw [if_pos h1] at h
    by_cases h2 : 0 ≤ a1 ∧ a1 ≤ a0_0
    · have H2 : impl_within.f a1 0 a0_0 = some true := by rw [within_eq]; simp [h2]
      rw [if_pos h2] at h
      by_cases h3 : 0 ≤ a2 ∧ a2 ≤ 400
      · have H3 : impl_isTicks.f a2 = some true := by rw [ticks_eq]; simp [h3]
        rw [if_pos h3] at h
        simp only [Option.some.injEq, Prod.mk.injEq] at h
        obtain ⟨rfl, rfl⟩ := h
        obtain ⟨n, rfl⟩ : ∃ n : Nat, a2 = n := ⟨a2.toNat, by omega⟩
        exact WaveOf_yes a0_0 a0_1 a1 n h1.1.1 h1.1.2 h1.2.1 h1.2.2 (by omega) w H1 H2 H3
      · have H3 : impl_isTicks.f a2 = some false := by rw [ticks_eq]; simp [h3]
        rw [if_neg h3] at h
        simp only [Option.some.injEq, Prod.mk.injEq] at h
        obtain ⟨rfl, rfl⟩ := h
        exact WaveOf_no3 a0_0 a0_1 a1 a2 w H1 H2 H3
    · have H2 : impl_within.f a1 0 a0_0 = some false := by rw [within_eq]; simp [h2]
      rw [if_neg h2] at h
      simp only [Option.some.injEq, Prod.mk.injEq] at h
      obtain ⟨rfl, rfl⟩ := h
      exact WaveOf_no2 a0_0 a0_1 a1 a2 w H1 H2
  · have H1 : impl_ValidClock.f a0_0 a0_1 = some false := by rw [impl_valid]; simp [h1]
    rw [if_neg h1] at h
    simp only [Option.some.injEq, Prod.mk.injEq] at h
    obtain ⟨rfl, rfl⟩ := h
    exact WaveOf_no1 a0_0 a0_1 a1 a2 w H1
end Go.Proofs.Ytmhfknmjchaccaa.X
