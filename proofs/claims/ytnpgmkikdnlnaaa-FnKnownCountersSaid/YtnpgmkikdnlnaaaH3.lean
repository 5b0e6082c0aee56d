/- My own texts of this seat, merged: XRing, XBin. Conditions: as each lemma says. -/
import Derived.Test.YtnpgmkikdnlnaaaH2
import Derived.Test.YtnpgmkikdnlnaaaH0
/- The shifting counters, the reflected and the binary one: each is made by counterBy out of its closure. No conditions. -/
namespace Go.Proofs.Ytnpgmkikdnlnaaa.X
open Go.RowKit Go.Proofs.YtnpgmkikdnlnaaaW.PrintWords Go.Proofs.YtnpgmkikdnlnaaaW.PrintLast Go.Proofs.YtnpgmkikdnlnaaaW.PrintMore

set_option linter.unusedVariables false
set_option linter.unusedSimpArgs false
abbrev ringC (bits : Int) : C_impl_counterBy := ⟨fun x => if (1 ≤ bits ∧ bits ≤ 8) ∧ 0 ≤ x ∧ x < 256 then impl_moved.f bits x (x / 2 ^ (bits.toNat - 1)) else none⟩
def impl_RingCounter.f (k : Nat) (a0 : Int) : Option (Int × List Int × Bool) := @impl_counterBy.f (ringC a0) k a0 0
theorem impl_RingCounter.mono : ∀ a0 k, LeO (impl_RingCounter.f k a0) (impl_RingCounter.f (k + 1) a0) := fun a0 k => @impl_counterBy.mono (ringC a0) a0 0 k
abbrev twistC (bits : Int) : C_impl_counterBy := ⟨fun x => if (1 ≤ bits ∧ bits ≤ 8) ∧ 0 ≤ x ∧ x < 256 then impl_moved.f bits x (wrap64 (1 - x / 2 ^ (bits.toNat - 1))) else none⟩
def impl_TwistedCounter.f (k : Nat) (a0 : Int) : Option (Int × List Int × Bool) := @impl_counterBy.f (twistC a0) k a0 0
theorem impl_TwistedCounter.mono : ∀ a0 k, LeO (impl_TwistedCounter.f k a0) (impl_TwistedCounter.f (k + 1) a0) := fun a0 k => @impl_counterBy.mono (twistC a0) a0 0 k
theorem RingCounter_cl (a0 : Int) (g1 : Nat) (W0 : World) (h1 : W0.heap[g1]? = some (.cells #[.int .i64 a0] 2 (0, 0))) :
    ∀ x r W, (ringC a0).f x = some r → Below W0.heap.size W0 W → Calls Try.prog 38 (#[.int .i64 x] ++ #[.pointer (some ⟨g1, 0, none⟩)]) W fun e w' => e = .returned (.int .i64 r) ∧ Drawn0 W w' := by
  intro x r W hx hW
  have hg := (hW.block g1 (blk_lt h1)).trans h1
  by_cases hc : (1 ≤ a0 ∧ a0 ≤ 8) ∧ 0 ≤ x ∧ x < 256
  · exact RingClo a0 x r hc.1.1 hc.1.2 hc.2.1 hc.2.2 g1 W hg ((if_pos hc).symm.trans hx)
  · exact absurd ((if_neg hc).symm.trans hx) (by simp)
set_option maxHeartbeats 4000000 in
set_option maxRecDepth 100000 in
theorem impl_RingCounter.calls (k : Nat) (a0 : Int) (r1 : Int) (r2 : List Int) (r3 : Bool) (w : World) (h : impl_RingCounter.f k a0 = some (r1, r2, r3)) :
    Calls Try.prog 13 #[.int .i64 a0] w fun e w' => ∃ v1_ : Value, e = .returned (.tuple #[.agg #[.int .i64 r1, v1_], .bool r3]) ∧ Kd.R (Kd.int .i64) 2 w' w.heap.size (fun _ => True) v1_ r2 ∧ Below w.heap.size w w' := by
  have HB := Aside0.mk (Below.refl w.heap.size w)
  have H := Aside0.mk h
  clear h
  go_enter Try.func13, Try.ntmps13
  go_wp2_with (first
    | ((with_reducible refine gate_dst (N := 1) rfl ?_); refine box_event ?hg (N := 1) ?hd (cs := #[.int .i64 a0]) (t := 2) ?hr ?_; (case hd => rfl); (case hg => rfl); (case hr => first | (go_simp; done) | (go_simp; rfl)); intro g1 hg wn hbox hb; have GE1 := Aside0.mk (by rw [hg]; exact below_size HB.out : w.heap.size ≤ g1); clear hg; have BK10 := Aside0.mk hbox; clear hbox; have n0_ := Aside0.mk (below_step HB.out hb); clear HB  hb; have HB := n0_; clear n0_ ; have BK1 := BK10; clear BK10; have c1_0 : wn.cell? ⟨g1, 0, none⟩ = some (.int .i64 a0) := (blk_cell BK1.out 0).trans rfl)
    | ((with_reducible refine gate_dst (N := 2) rfl ?_); refine box_event ?hg (N := 2) ?hd (cs := #[.int .i64 0, .slice none 0 0]) (t := 28) ?hr ?_; (case hd => rfl); (case hg => rfl); (case hr => first | (go_simp; done) | (go_simp; rfl)); intro g2 hg wn hbox hb; have GE2 := Aside0.mk (by rw [hg]; exact below_size HB.out : w.heap.size ≤ g2); have NE1_2 := Aside0.mk (show g1 ≠ g2 by have := blk_lt BK1.out; omega); clear hg; have BK20 := Aside0.mk hbox; clear hbox; have n0_ := Aside0.mk (below_step HB.out hb); have m1_ := Aside0.mk (blk_below BK1.out hb); clear HB BK1 hb; have HB := n0_; have BK1 := m1_; clear n0_ m1_; have c1_0 : wn.cell? ⟨g1, 0, none⟩ = some (.int .i64 a0) := (blk_cell BK1.out 0).trans rfl; have BK2 := BK20; clear BK20; have c2_0 : wn.cell? ⟨g2, 0, none⟩ = some (.int .i64 0) := (blk_cell BK2.out 0).trans rfl; have c2_1 : wn.cell? ⟨g2, 1, none⟩ = some (.slice none 0 0) := (blk_cell BK2.out 1).trans rfl)
    | (go_at_call 29; refine (@impl_counterBy.calls (ringC a0) k a0 0 r1 r2 r3 38 Try.f38 #[.pointer (some ⟨g1, 0, none⟩)] ⟨Try.func38, rfl, by kernel_rfl⟩ _ ?hcl H.out).mono ?_; (case hcl => exact RingCounter_cl a0 g1 _ BK1.out); rintro e wn ⟨v1, rfl, ho0, hb⟩; have HO := Aside0.mk (Kd.R_lower ho0 (below_size HB.out)); clear ho0; have n0_ := Aside0.mk (below_step HB.out hb); have m1_ := Aside0.mk (blk_below BK1.out hb); have m2_ := Aside0.mk (blk_below BK2.out hb); clear HB BK1 BK2 hb; have HB := n0_; have BK1 := m1_; have BK2 := m2_; clear n0_ m1_ m2_; have c1_0 : wn.cell? ⟨g1, 0, none⟩ = some (.int .i64 a0) := (blk_cell BK1.out 0).trans rfl; have c2_0 : wn.cell? ⟨g2, 0, none⟩ = some (.int .i64 0) := (blk_cell BK2.out 0).trans rfl; have c2_1 : wn.cell? ⟨g2, 1, none⟩ = some (.slice none 0 0) := (blk_cell BK2.out 1).trans rfl; obtain ⟨Ao, co, eo⟩ := Kd.R_slice HO.out; subst eo; have z2_0 := blk_frozen BK2.out 0; have z2_1 := blk_frozen BK2.out 1))
  refine bodyPost_ret (results_ct rfl _ _ g2 28 #[.int .i64 r1, .slice Ao r2.length co] (0, 0) _ rfl (blk_put (cs := #[.int .i64 r1, .slice none 0 0]) (blk_put (cs := #[.int .i64 0, .slice none 0 0]) BK2.out 0 _ rfl) 1 _ rfl) Try.underlying28 rfl (by kernel_rfl)) rfl ?_
  exact ⟨_, rfl, Kd.R_mono (Kd.R_far (p := ⟨g2, 1, none⟩) (Kd.R_far (p := ⟨g2, 0, none⟩) (Kd.R_types HO.out BK2.out (by decide)) (fun _ hk => hk.2) _) (fun _ hk => hk.2) _) (fun _ _ => trivial), below_set (below_set HB.out GE2.out) GE2.out⟩
theorem TwistedCounter_cl (a0 : Int) (g1 : Nat) (W0 : World) (h1 : W0.heap[g1]? = some (.cells #[.int .i64 a0] 2 (0, 0))) :
    ∀ x r W, (twistC a0).f x = some r → Below W0.heap.size W0 W → Calls Try.prog 42 (#[.int .i64 x] ++ #[.pointer (some ⟨g1, 0, none⟩)]) W fun e w' => e = .returned (.int .i64 r) ∧ Drawn0 W w' := by
  intro x r W hx hW
  have hg := (hW.block g1 (blk_lt h1)).trans h1
  by_cases hc : (1 ≤ a0 ∧ a0 ≤ 8) ∧ 0 ≤ x ∧ x < 256
  · exact TwistedClo a0 x r hc.1.1 hc.1.2 hc.2.1 hc.2.2 g1 W hg ((if_pos hc).symm.trans hx)
  · exact absurd ((if_neg hc).symm.trans hx) (by simp)
set_option maxHeartbeats 4000000 in
set_option maxRecDepth 100000 in
theorem impl_TwistedCounter.calls (k : Nat) (a0 : Int) (r1 : Int) (r2 : List Int) (r3 : Bool) (w : World) (h : impl_TwistedCounter.f k a0 = some (r1, r2, r3)) :
    Calls Try.prog 18 #[.int .i64 a0] w fun e w' => ∃ v1_ : Value, e = .returned (.tuple #[.agg #[.int .i64 r1, v1_], .bool r3]) ∧ Kd.R (Kd.int .i64) 2 w' w.heap.size (fun _ => True) v1_ r2 ∧ Below w.heap.size w w' := by
  have HB := Aside0.mk (Below.refl w.heap.size w)
  have H := Aside0.mk h
  clear h
  go_enter Try.func18, Try.ntmps18
  go_wp2_with (first
    | ((with_reducible refine gate_dst (N := 1) rfl ?_); refine box_event ?hg (N := 1) ?hd (cs := #[.int .i64 a0]) (t := 2) ?hr ?_; (case hd => rfl); (case hg => rfl); (case hr => first | (go_simp; done) | (go_simp; rfl)); intro g1 hg wn hbox hb; have GE1 := Aside0.mk (by rw [hg]; exact below_size HB.out : w.heap.size ≤ g1); clear hg; have BK10 := Aside0.mk hbox; clear hbox; have n0_ := Aside0.mk (below_step HB.out hb); clear HB  hb; have HB := n0_; clear n0_ ; have BK1 := BK10; clear BK10; have c1_0 : wn.cell? ⟨g1, 0, none⟩ = some (.int .i64 a0) := (blk_cell BK1.out 0).trans rfl)
    | ((with_reducible refine gate_dst (N := 2) rfl ?_); refine box_event ?hg (N := 2) ?hd (cs := #[.int .i64 0, .slice none 0 0]) (t := 28) ?hr ?_; (case hd => rfl); (case hg => rfl); (case hr => first | (go_simp; done) | (go_simp; rfl)); intro g2 hg wn hbox hb; have GE2 := Aside0.mk (by rw [hg]; exact below_size HB.out : w.heap.size ≤ g2); have NE1_2 := Aside0.mk (show g1 ≠ g2 by have := blk_lt BK1.out; omega); clear hg; have BK20 := Aside0.mk hbox; clear hbox; have n0_ := Aside0.mk (below_step HB.out hb); have m1_ := Aside0.mk (blk_below BK1.out hb); clear HB BK1 hb; have HB := n0_; have BK1 := m1_; clear n0_ m1_; have c1_0 : wn.cell? ⟨g1, 0, none⟩ = some (.int .i64 a0) := (blk_cell BK1.out 0).trans rfl; have BK2 := BK20; clear BK20; have c2_0 : wn.cell? ⟨g2, 0, none⟩ = some (.int .i64 0) := (blk_cell BK2.out 0).trans rfl; have c2_1 : wn.cell? ⟨g2, 1, none⟩ = some (.slice none 0 0) := (blk_cell BK2.out 1).trans rfl)
    | (go_at_call 29; refine (@impl_counterBy.calls (twistC a0) k a0 0 r1 r2 r3 42 Try.f42 #[.pointer (some ⟨g1, 0, none⟩)] ⟨Try.func42, rfl, by kernel_rfl⟩ _ ?hcl H.out).mono ?_; (case hcl => exact TwistedCounter_cl a0 g1 _ BK1.out); rintro e wn ⟨v1, rfl, ho0, hb⟩; have HO := Aside0.mk (Kd.R_lower ho0 (below_size HB.out)); clear ho0; have n0_ := Aside0.mk (below_step HB.out hb); have m1_ := Aside0.mk (blk_below BK1.out hb); have m2_ := Aside0.mk (blk_below BK2.out hb); clear HB BK1 BK2 hb; have HB := n0_; have BK1 := m1_; have BK2 := m2_; clear n0_ m1_ m2_; have c1_0 : wn.cell? ⟨g1, 0, none⟩ = some (.int .i64 a0) := (blk_cell BK1.out 0).trans rfl; have c2_0 : wn.cell? ⟨g2, 0, none⟩ = some (.int .i64 0) := (blk_cell BK2.out 0).trans rfl; have c2_1 : wn.cell? ⟨g2, 1, none⟩ = some (.slice none 0 0) := (blk_cell BK2.out 1).trans rfl; obtain ⟨Ao, co, eo⟩ := Kd.R_slice HO.out; subst eo; have z2_0 := blk_frozen BK2.out 0; have z2_1 := blk_frozen BK2.out 1))
  refine bodyPost_ret (results_ct rfl _ _ g2 28 #[.int .i64 r1, .slice Ao r2.length co] (0, 0) _ rfl (blk_put (cs := #[.int .i64 r1, .slice none 0 0]) (blk_put (cs := #[.int .i64 0, .slice none 0 0]) BK2.out 0 _ rfl) 1 _ rfl) Try.underlying28 rfl (by kernel_rfl)) rfl ?_
  exact ⟨_, rfl, Kd.R_mono (Kd.R_far (p := ⟨g2, 1, none⟩) (Kd.R_far (p := ⟨g2, 0, none⟩) (Kd.R_types HO.out BK2.out (by decide)) (fun _ hk => hk.2) _) (fun _ hk => hk.2) _) (fun _ _ => trivial), below_set (below_set HB.out GE2.out) GE2.out⟩
abbrev tapC (bits taps : Int) : C_impl_counterBy := ⟨fun x => (impl_onesOf.f (Go.bits .and .i64 x taps)).bind fun o => impl_moved.f bits x (o.tmod 2)⟩
theorem TapCounter_cl (a0 a1 : Int) (g2 g3 : Nat) (W0 : World) (h1 : W0.heap[g2]? = some (.cells #[.int .i64 a0] 2 (0, 0))) (h2 : W0.heap[g3]? = some (.cells #[.int .i64 a1] 2 (0, 0))) :
    ∀ x r W, (tapC a0 a1).f x = some r → Below W0.heap.size W0 W → Calls Try.prog 30 (#[.int .i64 x] ++ #[.pointer (some ⟨g2, 0, none⟩), .pointer (some ⟨g3, 0, none⟩)]) W fun e w' => e = .returned (.int .i64 r) ∧ Drawn0 W w' := by
  intro x r W hx hW
  have hg := (hW.block g2 (blk_lt h1)).trans h1
  have hg2 := (hW.block g3 (blk_lt h2)).trans h2
  obtain ⟨o, ho, hr⟩ := Option.bind_eq_some_iff.mp hx
  exact TapClo a0 a1 x o r g2 g3 W hg hg2 ho hr
set_option maxHeartbeats 4000000 in
set_option maxRecDepth 100000 in
theorem TapCounter_no1 (a0 a1 : Int) (w : World) (h1 : impl_isStateOf.f a0 a1 = some false) :
    Calls Try.prog 10 #[.int .i64 a0, .int .i64 a1] w fun e w' => ∃ v1_ : Value, e = .returned (.tuple #[.agg #[.int .i64 0, v1_], .bool false]) ∧ Kd.R (Kd.int .i64) 2 w' w.heap.size (fun _ => True) v1_ [] ∧ Below w.heap.size w w' := by
  have Hh1 := Aside0.mk h1
  clear h1
  have HB := Aside0.mk (Below.refl w.heap.size w)
  go_enter Try.func10, Try.ntmps10
  go_wp2_with (first
    | ((with_reducible refine gate_dst (N := 2) rfl ?_); refine box_event ?hg (N := 2) ?hd (cs := #[.int .i64 a0]) (t := 2) ?hr ?_; (case hd => rfl); (case hg => rfl); (case hr => first | (go_simp; done) | (go_simp; rfl)); intro g2 hg wn hbox hb; have GE2 := Aside0.mk (by rw [hg]; exact below_size HB.out : w.heap.size ≤ g2); clear hg; have BK20 := Aside0.mk hbox; clear hbox; have n0_ := Aside0.mk (below_step HB.out hb); clear HB  hb; have HB := n0_; clear n0_ ; have BK2 := BK20; clear BK20; have c2_0 : wn.cell? ⟨g2, 0, none⟩ = some (.int .i64 a0) := (blk_cell BK2.out 0).trans rfl)
    | ((with_reducible refine gate_dst (N := 3) rfl ?_); refine box_event ?hg (N := 3) ?hd (cs := #[.int .i64 a1]) (t := 2) ?hr ?_; (case hd => rfl); (case hg => rfl); (case hr => first | (go_simp; done) | (go_simp; rfl)); intro g3 hg wn hbox hb; have GE3 := Aside0.mk (by rw [hg]; exact below_size HB.out : w.heap.size ≤ g3); have NE2_3 := Aside0.mk (show g2 ≠ g3 by have := blk_lt BK2.out; omega); clear hg; have BK30 := Aside0.mk hbox; clear hbox; have n0_ := Aside0.mk (below_step HB.out hb); have m2_ := Aside0.mk (blk_below BK2.out hb); clear HB BK2 hb; have HB := n0_; have BK2 := m2_; clear n0_ m2_; have c2_0 : wn.cell? ⟨g2, 0, none⟩ = some (.int .i64 a0) := (blk_cell BK2.out 0).trans rfl; have BK3 := BK30; clear BK30; have c3_0 : wn.cell? ⟨g3, 0, none⟩ = some (.int .i64 a1) := (blk_cell BK3.out 0).trans rfl)
    | ((with_reducible refine gate_dst (N := 4) rfl ?_); refine box_event ?hg (N := 4) ?hd (cs := #[.int .i64 0, .slice none 0 0]) (t := 28) ?hr ?_; (case hd => rfl); (case hg => rfl); (case hr => first | (go_simp; done) | (go_simp; rfl)); intro g4 hg wn hbox hb; have GE4 := Aside0.mk (by rw [hg]; exact below_size HB.out : w.heap.size ≤ g4); have NE2_4 := Aside0.mk (show g2 ≠ g4 by have := blk_lt BK2.out; omega); have NE3_4 := Aside0.mk (show g3 ≠ g4 by have := blk_lt BK3.out; omega); clear hg; have BK40 := Aside0.mk hbox; clear hbox; have n0_ := Aside0.mk (below_step HB.out hb); have m2_ := Aside0.mk (blk_below BK2.out hb); have m3_ := Aside0.mk (blk_below BK3.out hb); clear HB BK2 BK3 hb; have HB := n0_; have BK2 := m2_; have BK3 := m3_; clear n0_ m2_ m3_; have c2_0 : wn.cell? ⟨g2, 0, none⟩ = some (.int .i64 a0) := (blk_cell BK2.out 0).trans rfl; have c3_0 : wn.cell? ⟨g3, 0, none⟩ = some (.int .i64 a1) := (blk_cell BK3.out 0).trans rfl; have BK4 := BK40; clear BK40; have c4_0 : wn.cell? ⟨g4, 0, none⟩ = some (.int .i64 0) := (blk_cell BK4.out 0).trans rfl; have c4_1 : wn.cell? ⟨g4, 1, none⟩ = some (.slice none 0 0) := (blk_cell BK4.out 1).trans rfl)
    | (go_at_call 28; (with_reducible refine (impl_isStateOf.calls a0 a1 false _ Hh1.out).mono ?_); rintro e wn ⟨rfl, hb0⟩; (first | have hb := to_below_d hb0 | have hb := to_below_b hb0); clear hb0; have n0_ := Aside0.mk (below_step HB.out hb); have m2_ := Aside0.mk (blk_below BK2.out hb); have m3_ := Aside0.mk (blk_below BK3.out hb); have m4_ := Aside0.mk (blk_below BK4.out hb); clear HB BK2 BK3 BK4 hb; have HB := n0_; have BK2 := m2_; have BK3 := m3_; have BK4 := m4_; clear n0_ m2_ m3_ m4_; have c2_0 : wn.cell? ⟨g2, 0, none⟩ = some (.int .i64 a0) := (blk_cell BK2.out 0).trans rfl; have c3_0 : wn.cell? ⟨g3, 0, none⟩ = some (.int .i64 a1) := (blk_cell BK3.out 0).trans rfl; have c4_0 : wn.cell? ⟨g4, 0, none⟩ = some (.int .i64 0) := (blk_cell BK4.out 0).trans rfl; have c4_1 : wn.cell? ⟨g4, 1, none⟩ = some (.slice none 0 0) := (blk_cell BK4.out 1).trans rfl; have z4_0 := blk_frozen BK4.out 0; have z4_1 := blk_frozen BK4.out 1))
  refine bodyPost_ret (results_ct rfl _ _ g4 28 #[.int .i64 0, .slice none 0 0] (0, 0) _ rfl (blk_put (cs := #[.int .i64 0, .slice none 0 0]) (blk_put (cs := #[.int .i64 0, .slice none 0 0]) BK4.out 0 _ rfl) 1 _ rfl) Try.underlying28 rfl (by kernel_rfl)) rfl ?_
  exact ⟨_, rfl, Kd.R_nil _ _ _ _ _, below_set (below_set HB.out GE4.out) GE4.out⟩
set_option maxHeartbeats 4000000 in
set_option maxRecDepth 100000 in
theorem TapCounter_no2 (a0 : Int) (w : World) (h1 : impl_isStateOf.f a0 0 = some true) :
    Calls Try.prog 10 #[.int .i64 a0, .int .i64 0] w fun e w' => ∃ v1_ : Value, e = .returned (.tuple #[.agg #[.int .i64 0, v1_], .bool false]) ∧ Kd.R (Kd.int .i64) 2 w' w.heap.size (fun _ => True) v1_ [] ∧ Below w.heap.size w w' := by
  have Hh1 := Aside0.mk h1
  clear h1
  have HB := Aside0.mk (Below.refl w.heap.size w)
  go_enter Try.func10, Try.ntmps10
  go_wp2_with (first
    | ((with_reducible refine gate_dst (N := 2) rfl ?_); refine box_event ?hg (N := 2) ?hd (cs := #[.int .i64 a0]) (t := 2) ?hr ?_; (case hd => rfl); (case hg => rfl); (case hr => first | (go_simp; done) | (go_simp; rfl)); intro g2 hg wn hbox hb; have GE2 := Aside0.mk (by rw [hg]; exact below_size HB.out : w.heap.size ≤ g2); clear hg; have BK20 := Aside0.mk hbox; clear hbox; have n0_ := Aside0.mk (below_step HB.out hb); clear HB  hb; have HB := n0_; clear n0_ ; have BK2 := BK20; clear BK20; have c2_0 : wn.cell? ⟨g2, 0, none⟩ = some (.int .i64 a0) := (blk_cell BK2.out 0).trans rfl)
    | ((with_reducible refine gate_dst (N := 3) rfl ?_); refine box_event ?hg (N := 3) ?hd (cs := #[.int .i64 0]) (t := 2) ?hr ?_; (case hd => rfl); (case hg => rfl); (case hr => first | (go_simp; done) | (go_simp; rfl)); intro g3 hg wn hbox hb; have GE3 := Aside0.mk (by rw [hg]; exact below_size HB.out : w.heap.size ≤ g3); have NE2_3 := Aside0.mk (show g2 ≠ g3 by have := blk_lt BK2.out; omega); clear hg; have BK30 := Aside0.mk hbox; clear hbox; have n0_ := Aside0.mk (below_step HB.out hb); have m2_ := Aside0.mk (blk_below BK2.out hb); clear HB BK2 hb; have HB := n0_; have BK2 := m2_; clear n0_ m2_; have c2_0 : wn.cell? ⟨g2, 0, none⟩ = some (.int .i64 a0) := (blk_cell BK2.out 0).trans rfl; have BK3 := BK30; clear BK30; have c3_0 : wn.cell? ⟨g3, 0, none⟩ = some (.int .i64 0) := (blk_cell BK3.out 0).trans rfl)
    | ((with_reducible refine gate_dst (N := 4) rfl ?_); refine box_event ?hg (N := 4) ?hd (cs := #[.int .i64 0, .slice none 0 0]) (t := 28) ?hr ?_; (case hd => rfl); (case hg => rfl); (case hr => first | (go_simp; done) | (go_simp; rfl)); intro g4 hg wn hbox hb; have GE4 := Aside0.mk (by rw [hg]; exact below_size HB.out : w.heap.size ≤ g4); have NE2_4 := Aside0.mk (show g2 ≠ g4 by have := blk_lt BK2.out; omega); have NE3_4 := Aside0.mk (show g3 ≠ g4 by have := blk_lt BK3.out; omega); clear hg; have BK40 := Aside0.mk hbox; clear hbox; have n0_ := Aside0.mk (below_step HB.out hb); have m2_ := Aside0.mk (blk_below BK2.out hb); have m3_ := Aside0.mk (blk_below BK3.out hb); clear HB BK2 BK3 hb; have HB := n0_; have BK2 := m2_; have BK3 := m3_; clear n0_ m2_ m3_; have c2_0 : wn.cell? ⟨g2, 0, none⟩ = some (.int .i64 a0) := (blk_cell BK2.out 0).trans rfl; have c3_0 : wn.cell? ⟨g3, 0, none⟩ = some (.int .i64 0) := (blk_cell BK3.out 0).trans rfl; have BK4 := BK40; clear BK40; have c4_0 : wn.cell? ⟨g4, 0, none⟩ = some (.int .i64 0) := (blk_cell BK4.out 0).trans rfl; have c4_1 : wn.cell? ⟨g4, 1, none⟩ = some (.slice none 0 0) := (blk_cell BK4.out 1).trans rfl)
    | (go_at_call 28; (with_reducible refine (impl_isStateOf.calls a0 0 true _ Hh1.out).mono ?_); rintro e wn ⟨rfl, hb0⟩; (first | have hb := to_below_d hb0 | have hb := to_below_b hb0); clear hb0; have n0_ := Aside0.mk (below_step HB.out hb); have m2_ := Aside0.mk (blk_below BK2.out hb); have m3_ := Aside0.mk (blk_below BK3.out hb); have m4_ := Aside0.mk (blk_below BK4.out hb); clear HB BK2 BK3 BK4 hb; have HB := n0_; have BK2 := m2_; have BK3 := m3_; have BK4 := m4_; clear n0_ m2_ m3_ m4_; have c2_0 : wn.cell? ⟨g2, 0, none⟩ = some (.int .i64 a0) := (blk_cell BK2.out 0).trans rfl; have c3_0 : wn.cell? ⟨g3, 0, none⟩ = some (.int .i64 0) := (blk_cell BK3.out 0).trans rfl; have c4_0 : wn.cell? ⟨g4, 0, none⟩ = some (.int .i64 0) := (blk_cell BK4.out 0).trans rfl; have c4_1 : wn.cell? ⟨g4, 1, none⟩ = some (.slice none 0 0) := (blk_cell BK4.out 1).trans rfl; have z4_0 := blk_frozen BK4.out 0; have z4_1 := blk_frozen BK4.out 1))
  refine bodyPost_ret (results_ct rfl _ _ g4 28 #[.int .i64 0, .slice none 0 0] (0, 0) _ rfl (blk_put (cs := #[.int .i64 0, .slice none 0 0]) (blk_put (cs := #[.int .i64 0, .slice none 0 0]) BK4.out 0 _ rfl) 1 _ rfl) Try.underlying28 rfl (by kernel_rfl)) rfl ?_
  exact ⟨_, rfl, Kd.R_nil _ _ _ _ _, below_set (below_set HB.out GE4.out) GE4.out⟩
set_option maxHeartbeats 4000000 in
set_option maxRecDepth 100000 in
theorem TapCounter_yes (k : Nat) (a0 a1 : Int) (r1 : Int) (r2 : List Int) (r3 : Bool) (hz : (a1 == 0) = false) (w : World) (h : @impl_counterBy.f (tapC a0 a1) k a0 0 = some (r1, r2, r3)) (h1 : impl_isStateOf.f a0 a1 = some true) :
    Calls Try.prog 10 #[.int .i64 a0, .int .i64 a1] w fun e w' => ∃ v1_ : Value, e = .returned (.tuple #[.agg #[.int .i64 r1, v1_], .bool r3]) ∧ Kd.R (Kd.int .i64) 2 w' w.heap.size (fun _ => True) v1_ r2 ∧ Below w.heap.size w w' := by
  have Hh1 := Aside0.mk h1
  clear h1
  have HB := Aside0.mk (Below.refl w.heap.size w)
  have H := Aside0.mk h
  have hz1 : (a1 == 0) = false := hz
  clear h
  go_enter Try.func10, Try.ntmps10
  go_wp2_with (first
    | ((with_reducible refine gate_dst (N := 2) rfl ?_); refine box_event ?hg (N := 2) ?hd (cs := #[.int .i64 a0]) (t := 2) ?hr ?_; (case hd => rfl); (case hg => rfl); (case hr => first | (go_simp; done) | (go_simp; rfl)); intro g2 hg wn hbox hb; have GE2 := Aside0.mk (by rw [hg]; exact below_size HB.out : w.heap.size ≤ g2); clear hg; have BK20 := Aside0.mk hbox; clear hbox; have n0_ := Aside0.mk (below_step HB.out hb); clear HB  hb; have HB := n0_; clear n0_ ; have BK2 := BK20; clear BK20; have c2_0 : wn.cell? ⟨g2, 0, none⟩ = some (.int .i64 a0) := (blk_cell BK2.out 0).trans rfl)
    | ((with_reducible refine gate_dst (N := 3) rfl ?_); refine box_event ?hg (N := 3) ?hd (cs := #[.int .i64 a1]) (t := 2) ?hr ?_; (case hd => rfl); (case hg => rfl); (case hr => first | (go_simp; done) | (go_simp; rfl)); intro g3 hg wn hbox hb; have GE3 := Aside0.mk (by rw [hg]; exact below_size HB.out : w.heap.size ≤ g3); have NE2_3 := Aside0.mk (show g2 ≠ g3 by have := blk_lt BK2.out; omega); clear hg; have BK30 := Aside0.mk hbox; clear hbox; have n0_ := Aside0.mk (below_step HB.out hb); have m2_ := Aside0.mk (blk_below BK2.out hb); clear HB BK2 hb; have HB := n0_; have BK2 := m2_; clear n0_ m2_; have c2_0 : wn.cell? ⟨g2, 0, none⟩ = some (.int .i64 a0) := (blk_cell BK2.out 0).trans rfl; have BK3 := BK30; clear BK30; have c3_0 : wn.cell? ⟨g3, 0, none⟩ = some (.int .i64 a1) := (blk_cell BK3.out 0).trans rfl)
    | ((with_reducible refine gate_dst (N := 4) rfl ?_); refine box_event ?hg (N := 4) ?hd (cs := #[.int .i64 0, .slice none 0 0]) (t := 28) ?hr ?_; (case hd => rfl); (case hg => rfl); (case hr => first | (go_simp; done) | (go_simp; rfl)); intro g4 hg wn hbox hb; have GE4 := Aside0.mk (by rw [hg]; exact below_size HB.out : w.heap.size ≤ g4); have NE2_4 := Aside0.mk (show g2 ≠ g4 by have := blk_lt BK2.out; omega); have NE3_4 := Aside0.mk (show g3 ≠ g4 by have := blk_lt BK3.out; omega); clear hg; have BK40 := Aside0.mk hbox; clear hbox; have n0_ := Aside0.mk (below_step HB.out hb); have m2_ := Aside0.mk (blk_below BK2.out hb); have m3_ := Aside0.mk (blk_below BK3.out hb); clear HB BK2 BK3 hb; have HB := n0_; have BK2 := m2_; have BK3 := m3_; clear n0_ m2_ m3_; have c2_0 : wn.cell? ⟨g2, 0, none⟩ = some (.int .i64 a0) := (blk_cell BK2.out 0).trans rfl; have c3_0 : wn.cell? ⟨g3, 0, none⟩ = some (.int .i64 a1) := (blk_cell BK3.out 0).trans rfl; have BK4 := BK40; clear BK40; have c4_0 : wn.cell? ⟨g4, 0, none⟩ = some (.int .i64 0) := (blk_cell BK4.out 0).trans rfl; have c4_1 : wn.cell? ⟨g4, 1, none⟩ = some (.slice none 0 0) := (blk_cell BK4.out 1).trans rfl)
    | (go_at_call 28; (with_reducible refine (impl_isStateOf.calls a0 a1 true _ Hh1.out).mono ?_); rintro e wn ⟨rfl, hb0⟩; (first | have hb := to_below_d hb0 | have hb := to_below_b hb0); clear hb0; have n0_ := Aside0.mk (below_step HB.out hb); have m2_ := Aside0.mk (blk_below BK2.out hb); have m3_ := Aside0.mk (blk_below BK3.out hb); have m4_ := Aside0.mk (blk_below BK4.out hb); clear HB BK2 BK3 BK4 hb; have HB := n0_; have BK2 := m2_; have BK3 := m3_; have BK4 := m4_; clear n0_ m2_ m3_ m4_; have c2_0 : wn.cell? ⟨g2, 0, none⟩ = some (.int .i64 a0) := (blk_cell BK2.out 0).trans rfl; have c3_0 : wn.cell? ⟨g3, 0, none⟩ = some (.int .i64 a1) := (blk_cell BK3.out 0).trans rfl; have c4_0 : wn.cell? ⟨g4, 0, none⟩ = some (.int .i64 0) := (blk_cell BK4.out 0).trans rfl; have c4_1 : wn.cell? ⟨g4, 1, none⟩ = some (.slice none 0 0) := (blk_cell BK4.out 1).trans rfl; have z4_0 := blk_frozen BK4.out 0; have z4_1 := blk_frozen BK4.out 1)
    | (go_at_call 29; refine (@impl_counterBy.calls (tapC a0 a1) k a0 0 r1 r2 r3 30 Try.f30 #[.pointer (some ⟨g2, 0, none⟩), .pointer (some ⟨g3, 0, none⟩)] ⟨Try.func30, rfl, by kernel_rfl⟩ _ ?hcl H.out).mono ?_; (case hcl => exact TapCounter_cl a0 a1 g2 g3 _ BK2.out BK3.out); rintro e wn ⟨v1, rfl, ho0, hb⟩; have HO := Aside0.mk (Kd.R_lower ho0 (below_size HB.out)); clear ho0; have n0_ := Aside0.mk (below_step HB.out hb); have m2_ := Aside0.mk (blk_below BK2.out hb); have m3_ := Aside0.mk (blk_below BK3.out hb); have m4_ := Aside0.mk (blk_below BK4.out hb); clear HB BK2 BK3 BK4 hb; have HB := n0_; have BK2 := m2_; have BK3 := m3_; have BK4 := m4_; clear n0_ m2_ m3_ m4_; have c2_0 : wn.cell? ⟨g2, 0, none⟩ = some (.int .i64 a0) := (blk_cell BK2.out 0).trans rfl; have c3_0 : wn.cell? ⟨g3, 0, none⟩ = some (.int .i64 a1) := (blk_cell BK3.out 0).trans rfl; have c4_0 : wn.cell? ⟨g4, 0, none⟩ = some (.int .i64 0) := (blk_cell BK4.out 0).trans rfl; have c4_1 : wn.cell? ⟨g4, 1, none⟩ = some (.slice none 0 0) := (blk_cell BK4.out 1).trans rfl; obtain ⟨Ao, co, eo⟩ := Kd.R_slice HO.out; subst eo; have z4_0 := blk_frozen BK4.out 0; have z4_1 := blk_frozen BK4.out 1))
  refine bodyPost_ret (results_ct rfl _ _ g4 28 #[.int .i64 r1, .slice Ao r2.length co] (0, 0) _ rfl (blk_put (cs := #[.int .i64 r1, .slice none 0 0]) (blk_put (cs := #[.int .i64 0, .slice none 0 0]) BK4.out 0 _ rfl) 1 _ rfl) Try.underlying28 rfl (by kernel_rfl)) rfl ?_
  exact ⟨_, rfl, Kd.R_mono (Kd.R_far (p := ⟨g4, 1, none⟩) (Kd.R_far (p := ⟨g4, 0, none⟩) (Kd.R_types HO.out BK4.out (by decide)) (fun _ hk => hk.2) _) (fun _ hk => hk.2) _) (fun _ _ => trivial), below_set (below_set HB.out GE4.out) GE4.out⟩
def impl_TapCounter.f (k : Nat) (a0 : Int) (a1 : Int) : Option (Int × List Int × Bool) :=
  (impl_isStateOf.f a0 a1).bind fun t => if t = true then (if a1 = 0 then some (0, [], false) else @impl_counterBy.f (tapC a0 a1) k a0 0) else some (0, [], false)
theorem impl_TapCounter.mono : ∀ a0 a1 k, LeO (impl_TapCounter.f k a0 a1) (impl_TapCounter.f (k + 1) a0 a1) := by
  intro a0 a1 k
  unfold impl_TapCounter.f
  refine LeO.bind (LeO.refl _) (fun t => ?_)
  refine LeO.ite (LeO.ite (LeO.refl _) (@impl_counterBy.mono (tapC a0 a1) a0 0 k)) (LeO.refl _)
theorem impl_TapCounter.calls (k : Nat) (a0 : Int) (a1 : Int) (r1 : Int) (r2 : List Int) (r3 : Bool) (w : World) (h : impl_TapCounter.f k a0 a1 = some (r1, r2, r3)) :
    Calls Try.prog 10 #[.int .i64 a0, .int .i64 a1] w fun e w' => ∃ v1_ : Value, e = .returned (.tuple #[.agg #[.int .i64 r1, v1_], .bool r3]) ∧ Kd.R (Kd.int .i64) 2 w' w.heap.size (fun _ => True) v1_ r2 ∧ Below w.heap.size w w' := by
  unfold impl_TapCounter.f at h
  obtain ⟨t, ht, h⟩ := Option.bind_eq_some_iff.mp h
  cases t with
  | false =>
    rw [if_neg (by simp)] at h
    simp only [Option.some.injEq, Prod.mk.injEq] at h
    obtain ⟨rfl, rfl, rfl⟩ := h
    exact TapCounter_no1 a0 a1 w ht
  | true =>
    rw [if_pos rfl] at h
    by_cases hz : a1 = 0
    · subst hz
      rw [if_pos rfl] at h
      simp only [Option.some.injEq, Prod.mk.injEq] at h
      obtain ⟨rfl, rfl, rfl⟩ := h
      exact TapCounter_no2 a0 w ht
    · rw [if_neg hz] at h
      exact TapCounter_yes k a0 a1 r1 r2 r3 (beq_eq_false_iff_ne.mpr hz) w h ht
abbrev reflC (k : Nat) (bits : Int) : C_impl_counterBy := ⟨fun x => if 1 ≤ bits ∧ bits ≤ 8 then (impl_fromReflected.f k x).bind fun y => if 0 ≤ y ∧ y < 1000 then impl_reflected.f ((y + 1) % 2 ^ bits.toNat) else none else none⟩
theorem pow_small (b : Int) (h1 : 1 ≤ b) (h2 : b ≤ 8) : (1 : Int) ≤ 2 ^ b.toNat ∧ (2 : Int) ^ b.toNat ≤ 256 := by
  obtain ⟨n, hn⟩ : ∃ n : Nat, b = n := ⟨b.toNat, by omega⟩
  subst hn
  have : n = 1 ∨ n = 2 ∨ n = 3 ∨ n = 4 ∨ n = 5 ∨ n = 6 ∨ n = 7 ∨ n = 8 := by omega
  rcases this with rfl | rfl | rfl | rfl | rfl | rfl | rfl | rfl <;> decide
theorem ReflectedCounter_cl (k : Nat) (a0 : Int) (g1 : Nat) (W0 : World) (h1 : W0.heap[g1]? = some (.cells #[.int .i64 a0] 2 (0, 0))) :
    ∀ x r W, (reflC k a0).f x = some r → Below W0.heap.size W0 W → Calls Try.prog 44 (#[.int .i64 x] ++ #[.pointer (some ⟨g1, 0, none⟩)]) W fun e w' => e = .returned (.int .i64 r) ∧ Drawn0 W w' := by
  intro x r W hx hW
  have hg := (hW.block g1 (blk_lt h1)).trans h1
  by_cases hc : 1 ≤ a0 ∧ a0 ≤ 8
  · obtain ⟨y, hy, hr⟩ := Option.bind_eq_some_iff.mp ((if_pos hc).symm.trans hx)
    have hp := pow_small a0 hc.1 hc.2
    by_cases hd : 0 ≤ y ∧ y < 1000
    · exact ReflClo k a0 x y r hc.1 hc.2 g1 W hg hy hd.1 hd.2 _ hp.1 hp.2 (IntWalk.i64_in _ ⟨by omega, by omega⟩) ((if_pos hd).symm.trans hr)
    · exact absurd ((if_neg hd).symm.trans hr) (by simp)
  · exact absurd ((if_neg hc).symm.trans hx) (by simp)
set_option maxHeartbeats 4000000 in
set_option maxRecDepth 100000 in
theorem ReflectedCounter_calls (k : Nat) (a0 : Int) (r1 : Int) (r2 : List Int) (r3 : Bool) (w : World) (h : @impl_counterBy.f (reflC k a0) k a0 0 = some (r1, r2, r3)) :
    Calls Try.prog 20 #[.int .i64 a0] w fun e w' => ∃ v1_ : Value, e = .returned (.tuple #[.agg #[.int .i64 r1, v1_], .bool r3]) ∧ Kd.R (Kd.int .i64) 2 w' w.heap.size (fun _ => True) v1_ r2 ∧ Below w.heap.size w w' := by
  have HB := Aside0.mk (Below.refl w.heap.size w)
  have H := Aside0.mk h
  clear h
  go_enter Try.func20, Try.ntmps20
  go_wp2_with (first
    | ((with_reducible refine gate_dst (N := 1) rfl ?_); refine box_event ?hg (N := 1) ?hd (cs := #[.int .i64 a0]) (t := 2) ?hr ?_; (case hd => rfl); (case hg => rfl); (case hr => first | (go_simp; done) | (go_simp; rfl)); intro g1 hg wn hbox hb; have GE1 := Aside0.mk (by rw [hg]; exact below_size HB.out : w.heap.size ≤ g1); clear hg; have BK10 := Aside0.mk hbox; clear hbox; have n0_ := Aside0.mk (below_step HB.out hb); clear HB  hb; have HB := n0_; clear n0_ ; have BK1 := BK10; clear BK10; have c1_0 : wn.cell? ⟨g1, 0, none⟩ = some (.int .i64 a0) := (blk_cell BK1.out 0).trans rfl)
    | ((with_reducible refine gate_dst (N := 2) rfl ?_); refine box_event ?hg (N := 2) ?hd (cs := #[.int .i64 0, .slice none 0 0]) (t := 28) ?hr ?_; (case hd => rfl); (case hg => rfl); (case hr => first | (go_simp; done) | (go_simp; rfl)); intro g2 hg wn hbox hb; have GE2 := Aside0.mk (by rw [hg]; exact below_size HB.out : w.heap.size ≤ g2); have NE1_2 := Aside0.mk (show g1 ≠ g2 by have := blk_lt BK1.out; omega); clear hg; have BK20 := Aside0.mk hbox; clear hbox; have n0_ := Aside0.mk (below_step HB.out hb); have m1_ := Aside0.mk (blk_below BK1.out hb); clear HB BK1 hb; have HB := n0_; have BK1 := m1_; clear n0_ m1_; have c1_0 : wn.cell? ⟨g1, 0, none⟩ = some (.int .i64 a0) := (blk_cell BK1.out 0).trans rfl; have BK2 := BK20; clear BK20; have c2_0 : wn.cell? ⟨g2, 0, none⟩ = some (.int .i64 0) := (blk_cell BK2.out 0).trans rfl; have c2_1 : wn.cell? ⟨g2, 1, none⟩ = some (.slice none 0 0) := (blk_cell BK2.out 1).trans rfl)
    | (go_at_call 29; refine (@impl_counterBy.calls (reflC k a0) k a0 0 r1 r2 r3 44 Try.f44 #[.pointer (some ⟨g1, 0, none⟩)] ⟨Try.func44, rfl, by kernel_rfl⟩ _ ?hcl H.out).mono ?_; (case hcl => exact ReflectedCounter_cl k a0 g1 _ BK1.out); rintro e wn ⟨v1, rfl, ho0, hb⟩; have HO := Aside0.mk (Kd.R_lower ho0 (below_size HB.out)); clear ho0; have n0_ := Aside0.mk (below_step HB.out hb); have m1_ := Aside0.mk (blk_below BK1.out hb); have m2_ := Aside0.mk (blk_below BK2.out hb); clear HB BK1 BK2 hb; have HB := n0_; have BK1 := m1_; have BK2 := m2_; clear n0_ m1_ m2_; have c1_0 : wn.cell? ⟨g1, 0, none⟩ = some (.int .i64 a0) := (blk_cell BK1.out 0).trans rfl; have c2_0 : wn.cell? ⟨g2, 0, none⟩ = some (.int .i64 0) := (blk_cell BK2.out 0).trans rfl; have c2_1 : wn.cell? ⟨g2, 1, none⟩ = some (.slice none 0 0) := (blk_cell BK2.out 1).trans rfl; obtain ⟨Ao, co, eo⟩ := Kd.R_slice HO.out; subst eo; have z2_0 := blk_frozen BK2.out 0; have z2_1 := blk_frozen BK2.out 1))
  refine bodyPost_ret (results_ct rfl _ _ g2 28 #[.int .i64 r1, .slice Ao r2.length co] (0, 0) _ rfl (blk_put (cs := #[.int .i64 r1, .slice none 0 0]) (blk_put (cs := #[.int .i64 0, .slice none 0 0]) BK2.out 0 _ rfl) 1 _ rfl) Try.underlying28 rfl (by kernel_rfl)) rfl ?_
  exact ⟨_, rfl, Kd.R_mono (Kd.R_far (p := ⟨g2, 1, none⟩) (Kd.R_far (p := ⟨g2, 0, none⟩) (Kd.R_types HO.out BK2.out (by decide)) (fun _ hk => hk.2) _) (fun _ hk => hk.2) _) (fun _ _ => trivial), below_set (below_set HB.out GE2.out) GE2.out⟩
abbrev binC (m : Int) : C_impl_counterBy := ⟨fun x => if 0 ≤ x ∧ x < 256 then some (if x + 1 < m then x + 1 else 0) else none⟩
theorem BinaryCounter_cl (a1 : Int) (g3 : Nat) (W0 : World) (h1 : W0.heap[g3]? = some (.cells #[.int .i64 a1] 2 (0, 0))) :
    ∀ x r W, (binC a1).f x = some r → Below W0.heap.size W0 W → Calls Try.prog 48 (#[.int .i64 x] ++ #[.pointer (some ⟨g3, 0, none⟩)]) W fun e w' => e = .returned (.int .i64 r) ∧ Drawn0 W w' := by
  intro x r W hx hW
  have hg := (hW.block g3 (blk_lt h1)).trans h1
  by_cases hc : 0 ≤ x ∧ x < 256
  · have hx2 := (if_pos hc).symm.trans hx
    obtain rfl := Option.some.inj hx2
    exact BinClo a1 x hc.1 hc.2 g3 W hg
  · exact absurd ((if_neg hc).symm.trans hx) (by simp)
end Go.Proofs.Ytnpgmkikdnlnaaa.X

/- The reflected and the binary counter, as the print wants them. No conditions. -/
namespace Go.Proofs.Ytnpgmkikdnlnaaa.X
open Go.RowKit Go.Proofs.YtnpgmkikdnlnaaaW.PrintWords Go.Proofs.YtnpgmkikdnlnaaaW.PrintLast Go.Proofs.YtnpgmkikdnlnaaaW.PrintMore
set_option linter.unusedVariables false
set_option linter.unusedSimpArgs false
set_option maxHeartbeats 4000000 in
set_option maxRecDepth 100000 in
theorem BinaryCounter_yes (k : Nat) (a0 a1 : Int) (r1 : Int) (r2 : List Int) (r3 : Bool) (hb1 : 1 ≤ a0) (hb2 : a0 ≤ 8) (w : World) (h : @impl_counterBy.f (binC a1) k a0 0 = some (r1, r2, r3)) (h1 : impl_isBits.f a0 = some true) (h2 : impl_within.f a1 1 (2 ^ a0.toNat) = some true) :
    Calls Try.prog 21 #[.int .i64 a0, .int .i64 a1] w fun e w' => ∃ v1_ : Value, e = .returned (.tuple #[.agg #[.int .i64 r1, v1_], .bool r3]) ∧ Kd.R (Kd.int .i64) 2 w' w.heap.size (fun _ => True) v1_ r2 ∧ Below w.heap.size w w' := by
  have Hh1 := Aside0.mk h1
  have Hh2 := Aside0.mk h2
  clear h1 h2
  have HB := Aside0.mk (Below.refl w.heap.size w)
  have H := Aside0.mk h
  clear h
  go_enter Try.func21, Try.ntmps21
  go_wp2_with (first
    | ((with_reducible refine gate_dst (N := 3) rfl ?_); refine box_event ?hg (N := 3) ?hd (cs := #[.int .i64 a1]) (t := 2) ?hr ?_; (case hd => rfl); (case hg => rfl); (case hr => first | (go_simp; done) | (go_simp; rfl)); intro g3 hg wn hbox hb; have GE3 := Aside0.mk (by rw [hg]; exact below_size HB.out : w.heap.size ≤ g3); clear hg; have BK30 := Aside0.mk hbox; clear hbox; have n0_ := Aside0.mk (below_step HB.out hb); clear HB  hb; have HB := n0_; clear n0_ ; have BK3 := BK30; clear BK30; have c3_0 : wn.cell? ⟨g3, 0, none⟩ = some (.int .i64 a1) := (blk_cell BK3.out 0).trans rfl)
    | ((with_reducible refine gate_dst (N := 4) rfl ?_); refine box_event ?hg (N := 4) ?hd (cs := #[.int .i64 0, .slice none 0 0]) (t := 28) ?hr ?_; (case hd => rfl); (case hg => rfl); (case hr => first | (go_simp; done) | (go_simp; rfl)); intro g4 hg wn hbox hb; have GE4 := Aside0.mk (by rw [hg]; exact below_size HB.out : w.heap.size ≤ g4); have NE3_4 := Aside0.mk (show g3 ≠ g4 by have := blk_lt BK3.out; omega); clear hg; have BK40 := Aside0.mk hbox; clear hbox; have n0_ := Aside0.mk (below_step HB.out hb); have m3_ := Aside0.mk (blk_below BK3.out hb); clear HB BK3 hb; have HB := n0_; have BK3 := m3_; clear n0_ m3_; have c3_0 : wn.cell? ⟨g3, 0, none⟩ = some (.int .i64 a1) := (blk_cell BK3.out 0).trans rfl; have BK4 := BK40; clear BK40; have c4_0 : wn.cell? ⟨g4, 0, none⟩ = some (.int .i64 0) := (blk_cell BK4.out 0).trans rfl; have c4_1 : wn.cell? ⟨g4, 1, none⟩ = some (.slice none 0 0) := (blk_cell BK4.out 1).trans rfl))
  have e2 : (0 : Int) ≤ a0 := by omega
  have e3 : IntKind.i64.wrap (2 ^ a0.toNat) = 2 ^ a0.toNat := by have := pow_small a0 hb1 hb2; exact IntWalk.i64_in _ ⟨by omega, by omega⟩
  go_quiet (first | (go_at_call 33; exact quiet_d (impl_isBits.calls a0 true _ Hh1.out)) | (go_at_call 47; exact quiet_d (impl_within.calls a1 1 (2 ^ a0.toNat) true _ Hh2.out)))
  have n0_ := Aside0.mk (show Below w.heap.size w (wn.drewN nq) from pw_below_drewN HB.out nq)
  have n1_ := Aside0.mk (blk_drewN BK3.out nq)
  have n2_ := Aside0.mk (blk_drewN BK4.out nq)
  clear HB BK3 BK4 c3_0 c4_0 c4_1 e2 e3
  generalize wn.drewN nq = wm at n0_ n1_ n2_ ⊢
  have HB := n0_
  have BK3 := n1_
  have BK4 := n2_
  clear n0_ n1_ n2_
  have c3_0 : wm.cell? ⟨g3, 0, none⟩ = some (.int .i64 a1) := (blk_cell BK3.out 0).trans rfl
  have c4_0 : wm.cell? ⟨g4, 0, none⟩ = some (.int .i64 0) := (blk_cell BK4.out 0).trans rfl
  have c4_1 : wm.cell? ⟨g4, 1, none⟩ = some (.slice none 0 0) := (blk_cell BK4.out 1).trans rfl
  go_wp2_with (go_at_call 29; refine (@impl_counterBy.calls (binC a1) k a0 0 r1 r2 r3 48 Try.f48 #[.pointer (some ⟨g3, 0, none⟩)] ⟨Try.func48, rfl, by kernel_rfl⟩ _ ?hcl H.out).mono ?_; (case hcl => exact BinaryCounter_cl a1 g3 _ BK3.out); rintro e wn ⟨v1, rfl, ho0, hb⟩; have HO := Aside0.mk (Kd.R_lower ho0 (below_size HB.out)); clear ho0; have n0_ := Aside0.mk (below_step HB.out hb); have m3_ := Aside0.mk (blk_below BK3.out hb); have m4_ := Aside0.mk (blk_below BK4.out hb); clear HB BK3 BK4 hb; have HB := n0_; have BK3 := m3_; have BK4 := m4_; clear n0_ m3_ m4_; have c3_0 : wn.cell? ⟨g3, 0, none⟩ = some (.int .i64 a1) := (blk_cell BK3.out 0).trans rfl; have c4_0 : wn.cell? ⟨g4, 0, none⟩ = some (.int .i64 0) := (blk_cell BK4.out 0).trans rfl; have c4_1 : wn.cell? ⟨g4, 1, none⟩ = some (.slice none 0 0) := (blk_cell BK4.out 1).trans rfl; obtain ⟨Ao, co, eo⟩ := Kd.R_slice HO.out; subst eo; have z4_0 := blk_frozen BK4.out 0; have z4_1 := blk_frozen BK4.out 1)
  refine bodyPost_ret (results_ct rfl _ _ g4 28 #[.int .i64 r1, .slice Ao r2.length co] (0, 0) _ rfl (blk_put (cs := #[.int .i64 r1, .slice none 0 0]) (blk_put (cs := #[.int .i64 0, .slice none 0 0]) BK4.out 0 _ rfl) 1 _ rfl) Try.underlying28 rfl (by kernel_rfl)) rfl ?_
  exact ⟨_, rfl, Kd.R_mono (Kd.R_far (p := ⟨g4, 1, none⟩) (Kd.R_far (p := ⟨g4, 0, none⟩) (Kd.R_types HO.out BK4.out (by decide)) (fun _ hk => hk.2) _) (fun _ hk => hk.2) _) (fun _ _ => trivial), below_set (below_set HB.out GE4.out) GE4.out⟩
def impl_BinaryCounter.f (k : Nat) (a0 a1 : Int) : Option (Int × List Int × Bool) := if (1 ≤ a0 ∧ a0 ≤ 8) ∧ 1 ≤ a1 ∧ a1 ≤ 2 ^ a0.toNat then @impl_counterBy.f (binC a1) k a0 0 else none
theorem impl_BinaryCounter.mono : ∀ a0 a1 k, LeO (impl_BinaryCounter.f k a0 a1) (impl_BinaryCounter.f (k + 1) a0 a1) := by
  intro a0 a1 k
  unfold impl_BinaryCounter.f
  exact LeO.ite (@impl_counterBy.mono (binC a1) a0 0 k) (LeO.refl _)
theorem impl_BinaryCounter.calls (k : Nat) (a0 a1 : Int) (r1 : Int) (r2 : List Int) (r3 : Bool) (w : World) (h : impl_BinaryCounter.f k a0 a1 = some (r1, r2, r3)) :
    Calls Try.prog 21 #[.int .i64 a0, .int .i64 a1] w fun e w' => ∃ v1_ : Value, e = .returned (.tuple #[.agg #[.int .i64 r1, v1_], .bool r3]) ∧ Kd.R (Kd.int .i64) 2 w' w.heap.size (fun _ => True) v1_ r2 ∧ Below w.heap.size w w' := by
  unfold impl_BinaryCounter.f at h
  by_cases hc : (1 ≤ a0 ∧ a0 ≤ 8) ∧ 1 ≤ a1 ∧ a1 ≤ 2 ^ a0.toNat
  · rw [if_pos hc] at h
    refine BinaryCounter_yes k a0 a1 r1 r2 r3 hc.1.1 hc.1.2 w h ?_ ?_
    · unfold impl_isBits.f impl_within.f; rw [if_pos hc.1.1, Option.bind_some, decide_eq_true hc.1.2]
    · unfold impl_within.f; rw [if_pos hc.2.1, decide_eq_true hc.2.2]
  · rw [if_neg hc] at h; cases h
def impl_ReflectedCounter.f (k : Nat) (a0 : Int) : Option (Int × List Int × Bool) := @impl_counterBy.f (reflC k a0) k a0 0
theorem counterBy_clo (c d : C_impl_counterBy) (h : ∀ x, LeO (c.f x) (d.f x)) : ∀ k y0 y1 y2 y3, LeO (@impl_counterBy.l0 c k y0 y1 y2 y3) (@impl_counterBy.l0 d k y0 y1 y2 y3)
  | 0, _, _, _, _ => LeO.refl _
  | k + 1, y0, y1, y2, y3 => by
    rw [@impl_counterBy.l0.eq_2 c, @impl_counterBy.l0.eq_2 d]
    exact LeO.ite (LeO.bind (h _) (fun _ => LeO.ite (counterBy_clo c d h k _ _ _ _) (LeO.refl _))) (LeO.refl _)
theorem impl_ReflectedCounter.mono : ∀ a0 k, LeO (impl_ReflectedCounter.f k a0) (impl_ReflectedCounter.f (k + 1) a0) := by
  intro a0 k
  have hc : ∀ x, LeO ((reflC k a0).f x) ((reflC (k + 1) a0).f x) := by
    intro x
    exact LeO.ite (LeO.bind (impl_fromReflected.mono x k) (fun _ => LeO.refl _)) (LeO.refl _)
  have h1 : LeO (@impl_counterBy.f (reflC k a0) k a0 0) (@impl_counterBy.f (reflC (k + 1) a0) k a0 0) := by
    unfold impl_counterBy.f
    exact LeO.bind (LeO.refl _) (fun _ => LeO.ite (LeO.ite (counterBy_clo _ _ hc k _ _ _ _) (LeO.refl _)) (LeO.refl _))
  intro r h
  exact @impl_counterBy.mono (reflC (k + 1) a0) a0 0 k r (h1 r h)
theorem impl_ReflectedCounter.calls (k : Nat) (a0 : Int) (r1 : Int) (r2 : List Int) (r3 : Bool) (w : World) (h : impl_ReflectedCounter.f k a0 = some (r1, r2, r3)) :
    Calls Try.prog 20 #[.int .i64 a0] w fun e w' => ∃ v1_ : Value, e = .returned (.tuple #[.agg #[.int .i64 r1, v1_], .bool r3]) ∧ Kd.R (Kd.int .i64) 2 w' w.heap.size (fun _ => True) v1_ r2 ∧ Below w.heap.size w w' := ReflectedCounter_calls k a0 r1 r2 r3 w h
end Go.Proofs.Ytnpgmkikdnlnaaa.X

