/- My own texts of this seat and its words, merged: G1, G2, G3, G5, G6, CSafe, Xp26, Xp27. Conditions: as each lemma says. -/
import Derived.Test.YthkpnbelbaljdaaDoorM21
import Derived.LoopN
import Derived.Test.YthkpnbelbaljdaaDoorM16
import Derived.Deep.DeepCutAuto
import Derived.StillTailTactics
section
/- My own texts of this seat, merged: Xp79, XWaveLib, XEdgeIn, XReset, Xp44, Xp46, Xp11, Xp3, CReset. Conditions: as each lemma says. -/
-- Written by a program of this session out of the kit's print of the loaded functions: a plain function of a Go function, and its contract.
namespace Go.Proofs.YthkpnbelbaljdaaDoor.X
open Go.RowKit Go.Proofs.YthkpnbelbaljdaaDoorW.PrintWords Go.Proofs.YthkpnbelbaljdaaDoorW.PrintLast Go.Proofs.YthkpnbelbaljdaaDoorW.PrintMore
attribute [local go_sem] max2_int min2_int max_two min_two max_three min_three max_four min_four   -- for this text's walks alone
set_option linter.unusedVariables false
set_option linter.unusedSimpArgs false
/-! ### spec_l01Wave: function 79 -/
end Go.Proofs.YthkpnbelbaljdaaDoor.X
/- Waves in plain numbers: what the program's and the reference's ways of reading them tell. Conditions: as each lemma says. -/
namespace Go.Proofs.YthkpnbelbaljdaaDoor.X
open Go.RowKit Go.Proofs.YthkpnbelbaljdaaDoorW.PrintWords Go.Proofs.YthkpnbelbaljdaaDoorW.PrintLast Go.Proofs.YthkpnbelbaljdaaDoorW.PrintMore
set_option linter.unusedVariables false
set_option linter.unusedSimpArgs false
theorem within_eq (a b c : Int) : impl_within.f a b c = some (decide (b ≤ a ∧ a ≤ c)) := by
  unfold impl_within.f; by_cases h : a ≥ b <;> simp [h] <;> omega
theorem bt_get (s : ByteArray) (i : Nat) (h : i < s.size) : bt s (i : Int) = ((s.data[i]'h).toNat : Int) := by
  unfold bt
  rw [dif_pos (by simpa using h)]
  rfl
theorem lev_bt (c : UInt8) : isLev c = true ↔ ((c.toNat : Int) = 48 ∨ (c.toNat : Int) = 49) := by
  unfold isLev
  rw [Bool.or_eq_true, beq_iff_eq, beq_iff_eq, ← UInt8.toNat_inj, ← UInt8.toNat_inj]
  constructor
  · rintro (h | h)
    · left; rw [h]; rfl
    · right; rw [h]; rfl
  · rintro (h | h)
    · left; have : c.toNat = 48 := by omega
      rw [this]; rfl
    · right; have : c.toNat = 49 := by omega
      rw [this]; rfl
/-- All levels are 0 or 1. -/
def Lev (s : ByteArray) : Prop := ∀ i : Nat, i < s.size → bt s (i : Int) = 48 ∨ bt s (i : Int) = 49
theorem all_lev (s : ByteArray) : s.data.toList.all isLev = true ↔ Lev s := by
  rw [List.all_eq_true]
  constructor
  · intro h i hi
    rw [bt_get s i hi]
    exact (lev_bt _).1 (h _ (by simp))
  · intro h c hc
    obtain ⟨i, hi, rfl⟩ := List.getElem_of_mem hc
    have h2 : i < s.size := by simpa using hi
    have := h i h2
    rw [bt_get s i h2] at this
    exact (lev_bt _).2 (by simpa using this)
theorem isW_iff (s : ByteArray) : isW s = true ↔ s.size ≤ 400 ∧ Lev s := by
  unfold isW; rw [Bool.and_eq_true, decide_eq_true_eq, all_lev]
theorem wave_eq (s : ByteArray) (h : s.size ≤ 140737488351232) : impl_IsWave.f s = some (isW s) := by unfold impl_IsWave.f; rw [if_pos (by omega)]
/-- The level before a tick. -/
def prv (s : ByteArray) (i : Nat) : Int := if i = 0 then 48 else bt s ((i - 1 : Nat) : Int)
theorem prv_succ (s : ByteArray) (i : Nat) : prv s (i + 1) = bt s (i : Int) := by unfold prv; rw [if_neg (by omega)]; rfl
def isE (s : ByteArray) (c : Int) (i : Nat) : Bool := decide (bt s (i : Int) = c) && !decide (prv s i = c)
/-- The ticks before n at which a text changes to a level. -/
def edg (s : ByteArray) (c : Int) (n : Nat) : List Int := ((List.range n).filter (isE s c)).map fun (i : Nat) => (i : Int)
theorem edg_len (s : ByteArray) (c : Int) (n : Nat) : (edg s c n).length ≤ n := by
  unfold edg; rw [List.length_map]
  have := List.length_filter_le (isE s c) (List.range n)
  simpa using this
theorem edg_succ (s : ByteArray) (c : Int) (n : Nat) : edg s c (n + 1) = if isE s c n = true then edg s c n ++ [(n : Int)] else edg s c n := by
  unfold edg
  rw [List.range_succ, List.filter_append, List.map_append, List.filter_cons]
  split <;> simp
theorem edg_mem (s : ByteArray) (c : Int) (n : Nat) (x : Int) : x ∈ edg s c n ↔ ∃ i : Nat, i < n ∧ isE s c i = true ∧ x = i := by
  unfold edg
  simp only [List.mem_map, List.mem_filter, List.mem_range]
  constructor
  · rintro ⟨i, ⟨h1, h2⟩, rfl⟩; exact ⟨i, h1, h2, rfl⟩
  · rintro ⟨i, h1, h2, rfl⟩; exact ⟨i, ⟨h1, h2⟩, rfl⟩
theorem edges_loop (s : ByteArray) (c : Int) (hs : s.size ≤ 1000000) : ∀ (d k i : Nat), i + d = s.size → d < k →
    impl_changesTo.l0 k s c (edg s c i) (prv s i) s.size i = some (edg s c s.size) ∧ spec_l01Edges.l0 k s c (edg s c i) (prv s i) i = some (edg s c s.size)
  | 0, k, i, hi, hk => by
    cases k with
    | zero => omega
    | succ k =>
      constructor
      · rw [impl_changesTo.l0, if_neg (by omega), show i = s.size by omega]
      · rw [spec_l01Edges.l0, if_neg (by omega), show i = s.size by omega]
  | d + 1, k, i, hi, hk => by
    cases k with
    | zero => omega
    | succ k =>
      have ih := edges_loop s c hs d k (i + 1) (by omega) (by omega)
      have hl := edg_len s c i
      rw [prv_succ, edg_succ, Int.natCast_add, Int.natCast_one] at ih
      constructor
      · rw [impl_changesTo.l0, if_pos (by omega), if_pos (by omega), if_pos (by omega), w64 (by omega) (by omega), if_pos (show (edg s c i).length < 17592186044416 by omega)]
        by_cases h1 : bt s (i : Int) = prv s i
        · rw [if_pos h1]
          have : isE s c i = false := by unfold isE; rw [h1]; cases decide (prv s i = c) <;> rfl
          rw [this] at ih; exact ih.1
        · rw [if_neg h1]
          by_cases h2 : bt s (i : Int) = c
          · have : isE s c i = true := by
              unfold isE
              rw [decide_eq_true h2, decide_eq_false (by intro h; exact h1 (h2.trans h.symm))]; rfl
            rw [if_pos h2]
            rw [this] at ih; exact ih.1
          · have : isE s c i = false := by unfold isE; rw [decide_eq_false h2]; rfl
            rw [if_neg h2]
            rw [this] at ih; exact ih.1
      · rw [spec_l01Edges.l0, if_pos (by omega), if_pos (by omega), w64 (by omega) (by omega), if_pos (show (edg s c i).length < 17592186044416 by omega)]
        by_cases h2 : bt s (i : Int) = c
        · rw [if_pos h2]
          by_cases h3 : prv s i = c
          · have : isE s c i = false := by unfold isE; rw [decide_eq_true h3]; cases decide (bt s (i : Int) = c) <;> rfl
            rw [if_pos h3]
            rw [this] at ih; exact ih.2
          · have : isE s c i = true := by unfold isE; rw [decide_eq_true h2, decide_eq_false h3]; rfl
            rw [if_neg h3]
            rw [this] at ih; exact ih.2
        · have : isE s c i = false := by unfold isE; rw [decide_eq_false h2]; rfl
          rw [if_neg h2]
          rw [this] at ih; exact ih.2
theorem changes_eq (k : Nat) (s : ByteArray) (c : Int) (hs : s.size ≤ 1000000) (hk : s.size < k) : impl_changesTo.f k s c = some (edg s c s.size) := by
  unfold impl_changesTo.f
  have := (edges_loop s c hs s.size k 0 (by omega) hk).1
  simpa [edg, prv] using this
end Go.Proofs.YthkpnbelbaljdaaDoor.X
/- Whether a tick is one of a list's: what slices.Contains tells. Conditions: as each lemma says. -/
namespace Go.Proofs.YthkpnbelbaljdaaDoor.X
open Go.RowKit Go.Proofs.YthkpnbelbaljdaaDoorW.PrintWords Go.Proofs.YthkpnbelbaljdaaDoorW.PrintLast Go.Proofs.YthkpnbelbaljdaaDoorW.PrintMore
set_option linter.unusedVariables false
set_option linter.unusedSimpArgs false
theorem index_loop2 (l : List Int) (a : Int) (hl : l.length ≤ 100000) : ∀ (d k i : Nat), i + d = l.length → d < k →
    ∃ v : Int, slices_Index_int64_int64.l0 k l a l.length i = some v ∧ (v ≥ 0 ↔ a ∈ l.drop i)
  | 0, k, i, hi, hk => by
    cases k with
    | zero => omega
    | succ k =>
      refine ⟨-1, by rw [slices_Index_int64_int64.l0, if_neg (by omega)], ?_⟩
      rw [List.drop_eq_nil_of_le (by omega)]; simp
  | d + 1, k, i, hi, hk => by
    cases k with
    | zero => omega
    | succ k =>
      obtain ⟨v, hv, hm⟩ := index_loop2 l a hl d k (i + 1) (by omega) (by omega)
      have hi2 : i < l.length := by omega
      rw [slices_Index_int64_int64.l0, if_pos (by omega), if_pos (by omega), if_pos (by omega), w64 (by omega) (by omega), rd_nat l i hi2]
      rw [Int.natCast_add, Int.natCast_one] at hv
      by_cases h : a = l[i]
      · rw [if_pos h]; exact ⟨i, rfl, by rw [List.drop_eq_getElem_cons hi2, List.mem_cons]; exact ⟨fun _ => .inl h, fun _ => by omega⟩⟩
      · rw [if_neg h]; exact ⟨v, hv, by rw [hm, List.drop_eq_getElem_cons hi2, List.mem_cons]; exact ⟨.inr, fun h3 => h3.resolve_left h⟩⟩
theorem contains_eq2 (k : Nat) (l : List Int) (a : Int) (hl : l.length ≤ 100000) (hk : l.length < k) : slices_Contains_int64_int64.f k l a = some (decide (a ∈ l)) := by
  unfold slices_Contains_int64_int64.f slices_Index_int64_int64.f
  obtain ⟨v, hv, hm⟩ := index_loop2 l a hl l.length k 0 (by omega) hk
  rw [Int.natCast_zero] at hv
  rw [hv, Option.bind_some]
  congr 1
  rw [decide_eq_decide, hm]; simp
theorem edge_in (k : Nat) (s : ByteArray) (hs : s.size ≤ 400) (i : Nat) (hi : i < s.size) (hk : 400 < k) : slices_Contains_int64_int64.f k (edg s 49 s.size) i = some (isE s 49 i) := by
  have hl := edg_len s 49 s.size
  rw [contains_eq2 k _ _ (by omega) (by omega)]
  congr 1
  rw [Bool.eq_iff_iff, decide_eq_true_eq, edg_mem]
  constructor
  · rintro ⟨j, _, h2, h3⟩
    have : i = j := by omega
    subst this; exact h2
  · intro h2; exact ⟨i, hi, h2, rfl⟩
end Go.Proofs.YthkpnbelbaljdaaDoor.X
/- The program's ResetWave: what it answers. Conditions: as each lemma says. -/
namespace Go.Proofs.YthkpnbelbaljdaaDoor.X
open Go.RowKit Go.Proofs.YthkpnbelbaljdaaDoorW.PrintWords Go.Proofs.YthkpnbelbaljdaaDoorW.PrintLast Go.Proofs.YthkpnbelbaljdaaDoorW.PrintMore
set_option linter.unusedVariables false
set_option linter.unusedSimpArgs false
theorem areW_two {s z : ByteArray} (h : impl_areWaves.f [s, z] = some true) : s.size ≤ 400 ∧ Lev s ∧ z.size = s.size ∧ Lev z := by
  unfold impl_areWaves.f at h
  split at h
  · have h := Option.some.inj h
    unfold areW badW at h
    simp only [List.headD_cons, List.any_cons, List.any_nil, Bool.or_false, Bool.not_eq_true', Bool.or_eq_false_iff, Bool.not_eq_false', decide_eq_true_eq] at h
    exact ⟨((isW_iff s).1 h.1.1).1, ((isW_iff s).1 h.1.1).2, of_decide_eq_true h.2.2, ((isW_iff z).1 h.2.1).2⟩
  · cases h
/-- How often the wave has gone up since the reset, ahead of a tick. -/
def rst (s z : ByteArray) : Nat → Int
  | 0 => 0
  | i + 1 => if bt z (i : Int) = 49 then 0 else if isE s 49 i = true then rst s z i + 1 else rst s z i
theorem rst_rng (s z : ByteArray) : ∀ i : Nat, 0 ≤ rst s z i ∧ rst s z i ≤ i
  | 0 => by simp [rst]
  | i + 1 => by
    have := rst_rng s z i
    unfold rst
    split
    · omega
    · split <;> omega
set_option maxHeartbeats 4000000 in
set_option maxRecDepth 100000 in
theorem Reset_no1 (s z : ByteArray) (st : Int) (w : World) (h1 : impl_areWaves.f [s, z] = some false) :
    Calls Tryd.prog 12 #[.string s, .string z, .int .i64 st] w fun e w' => e = .returned (.tuple #[.string ⟨#[]⟩, .bool false]) ∧ Below w.heap.size w w' := by
  have Hh1 := Aside0.mk h1
  clear h1
  have HB := Aside0.mk (Below.refl w.heap.size w)
  obtain ⟨ls, hls⟩ : ∃ ls : List ByteArray, ls = [s, z] := ⟨_, rfl⟩
  have NL := Aside0.mk hls
  clear hls
  go_enter Tryd.func12, Tryd.ntmps12
  go_wp2_with (first
    | ((with_reducible refine gate_dst (N := 4) rfl ?_); refine box_event ?hg (N := 4) ?hd (cs := #[.string z]) (t := 9) ?hr ?_; (case hd => rfl); (case hg => rfl); (case hr => first | (go_simp; done) | (go_simp; rfl)); intro g4 hg wn hbox hb; have GE4 := Aside0.mk (by rw [hg]; exact below_size HB.out : w.heap.size ≤ g4); clear hg; have BK40 := Aside0.mk hbox; clear hbox; have n0_ := Aside0.mk (below_step HB.out hb); clear HB  hb; have HB := n0_; clear n0_ ; have BK4 := BK40; clear BK40; have c4_0 : wn.cell? ⟨g4, 0, none⟩ = some (.string z) := (blk_cell BK4.out 0).trans rfl)
    | ((with_reducible refine gate_dst (N := 5) rfl ?_); refine box_event ?hg (N := 5) ?hd (cs := #[.int .i64 st]) (t := 2) ?hr ?_; (case hd => rfl); (case hg => rfl); (case hr => first | (go_simp; done) | (go_simp; rfl)); intro g5 hg wn hbox hb; have GE5 := Aside0.mk (by rw [hg]; exact below_size HB.out : w.heap.size ≤ g5); have NE4_5 := Aside0.mk (show g4 ≠ g5 by have := blk_lt BK4.out; omega); clear hg; have BK50 := Aside0.mk hbox; clear hbox; have n0_ := Aside0.mk (below_step HB.out hb); have m4_ := Aside0.mk (blk_below BK4.out hb); clear HB BK4 hb; have HB := n0_; have BK4 := m4_; clear n0_ m4_; have c4_0 : wn.cell? ⟨g4, 0, none⟩ = some (.string z) := (blk_cell BK4.out 0).trans rfl; have BK5 := BK50; clear BK50; have c5_0 : wn.cell? ⟨g5, 0, none⟩ = some (.int .i64 st) := (blk_cell BK5.out 0).trans rfl)
    | ((with_reducible refine gate_dst (N := 12) rfl ?_); refine Kd.R_lit Kd.string _ 9 ?hg (N := 12) ?hd (xs := ([s, z] : List ByteArray)) (inner := [.string s, .string z]) (ok := fun _ => True) (okp := fun _ => True) ?hr ?hp (fun _ hk => hk) trivial (Below.refl _ _) (Nat.le_refl _) (by simp) ?_; (case hd => rfl); (case hg => rfl); (case hr => first | (go_simp; done) | (go_simp; rfl)); (case hp => exact (Reps.one rfl (Reps.one rfl (Reps.none _ _)))); intro vl wn hol hb hg_ hnew_; clear hg_ hnew_; rw [← NL.out] at hol; obtain ⟨Al, cl, el⟩ := Kd.R_slice hol; subst el; have HL := Aside0.mk hol; clear hol; have n0_ := Aside0.mk (below_step HB.out hb); have m4_ := Aside0.mk (blk_below BK4.out hb); have m5_ := Aside0.mk (blk_below BK5.out hb); clear HB BK4 BK5 hb; have HB := n0_; have BK4 := m4_; have BK5 := m5_; clear n0_ m4_ m5_; have c4_0 : wn.cell? ⟨g4, 0, none⟩ = some (.string z) := (blk_cell BK4.out 0).trans rfl; have c5_0 : wn.cell? ⟨g5, 0, none⟩ = some (.int .i64 st) := (blk_cell BK5.out 0).trans rfl)
    | (go_at_call 47; (with_reducible refine (impl_areWaves.calls Al cl ls false _ (Kd.R_reads' HL.out).2.2 (Kd.R_reads' HL.out).2.1 (by rw [NL.out]; exact Hh1.out)).mono ?_); rintro e wn ⟨rfl, hb⟩; clear HL; have n0_ := Aside0.mk (below_step HB.out hb); have m4_ := Aside0.mk (blk_below BK4.out hb); have m5_ := Aside0.mk (blk_below BK5.out hb); clear HB BK4 BK5 hb; have HB := n0_; have BK4 := m4_; have BK5 := m5_; clear n0_ m4_ m5_; have c4_0 : wn.cell? ⟨g4, 0, none⟩ = some (.string z) := (blk_cell BK4.out 0).trans rfl; have c5_0 : wn.cell? ⟨g5, 0, none⟩ = some (.int .i64 st) := (blk_cell BK5.out 0).trans rfl))
  go_ret2
  exact ⟨rfl, HB.out⟩
set_option maxHeartbeats 4000000 in
set_option maxRecDepth 100000 in
theorem Reset_no2 (s z : ByteArray) (st : Int) (w : World) (h1 : impl_areWaves.f [s, z] = some true) (h2 : impl_within.f st 1 4 = some false) :
    Calls Tryd.prog 12 #[.string s, .string z, .int .i64 st] w fun e w' => e = .returned (.tuple #[.string ⟨#[]⟩, .bool false]) ∧ Below w.heap.size w w' := by
  have Hh1 := Aside0.mk h1
  have Hh2 := Aside0.mk h2
  clear h1 h2
  have HB := Aside0.mk (Below.refl w.heap.size w)
  obtain ⟨ls, hls⟩ : ∃ ls : List ByteArray, ls = [s, z] := ⟨_, rfl⟩
  have NL := Aside0.mk hls
  clear hls
  go_enter Tryd.func12, Tryd.ntmps12
  go_wp2_with (first
    | ((with_reducible refine gate_dst (N := 4) rfl ?_); refine box_event ?hg (N := 4) ?hd (cs := #[.string z]) (t := 9) ?hr ?_; (case hd => rfl); (case hg => rfl); (case hr => first | (go_simp; done) | (go_simp; rfl)); intro g4 hg wn hbox hb; have GE4 := Aside0.mk (by rw [hg]; exact below_size HB.out : w.heap.size ≤ g4); clear hg; have BK40 := Aside0.mk hbox; clear hbox; have n0_ := Aside0.mk (below_step HB.out hb); clear HB  hb; have HB := n0_; clear n0_ ; have BK4 := BK40; clear BK40; have c4_0 : wn.cell? ⟨g4, 0, none⟩ = some (.string z) := (blk_cell BK4.out 0).trans rfl)
    | ((with_reducible refine gate_dst (N := 5) rfl ?_); refine box_event ?hg (N := 5) ?hd (cs := #[.int .i64 st]) (t := 2) ?hr ?_; (case hd => rfl); (case hg => rfl); (case hr => first | (go_simp; done) | (go_simp; rfl)); intro g5 hg wn hbox hb; have GE5 := Aside0.mk (by rw [hg]; exact below_size HB.out : w.heap.size ≤ g5); have NE4_5 := Aside0.mk (show g4 ≠ g5 by have := blk_lt BK4.out; omega); clear hg; have BK50 := Aside0.mk hbox; clear hbox; have n0_ := Aside0.mk (below_step HB.out hb); have m4_ := Aside0.mk (blk_below BK4.out hb); clear HB BK4 hb; have HB := n0_; have BK4 := m4_; clear n0_ m4_; have c4_0 : wn.cell? ⟨g4, 0, none⟩ = some (.string z) := (blk_cell BK4.out 0).trans rfl; have BK5 := BK50; clear BK50; have c5_0 : wn.cell? ⟨g5, 0, none⟩ = some (.int .i64 st) := (blk_cell BK5.out 0).trans rfl)
    | ((with_reducible refine gate_dst (N := 12) rfl ?_); refine Kd.R_lit Kd.string _ 9 ?hg (N := 12) ?hd (xs := ([s, z] : List ByteArray)) (inner := [.string s, .string z]) (ok := fun _ => True) (okp := fun _ => True) ?hr ?hp (fun _ hk => hk) trivial (Below.refl _ _) (Nat.le_refl _) (by simp) ?_; (case hd => rfl); (case hg => rfl); (case hr => first | (go_simp; done) | (go_simp; rfl)); (case hp => exact (Reps.one rfl (Reps.one rfl (Reps.none _ _)))); intro vl wn hol hb hg_ hnew_; clear hg_ hnew_; rw [← NL.out] at hol; obtain ⟨Al, cl, el⟩ := Kd.R_slice hol; subst el; have HL := Aside0.mk hol; clear hol; have n0_ := Aside0.mk (below_step HB.out hb); have m4_ := Aside0.mk (blk_below BK4.out hb); have m5_ := Aside0.mk (blk_below BK5.out hb); clear HB BK4 BK5 hb; have HB := n0_; have BK4 := m4_; have BK5 := m5_; clear n0_ m4_ m5_; have c4_0 : wn.cell? ⟨g4, 0, none⟩ = some (.string z) := (blk_cell BK4.out 0).trans rfl; have c5_0 : wn.cell? ⟨g5, 0, none⟩ = some (.int .i64 st) := (blk_cell BK5.out 0).trans rfl)
    | (go_at_call 47; (with_reducible refine (impl_areWaves.calls Al cl ls true _ (Kd.R_reads' HL.out).2.2 (Kd.R_reads' HL.out).2.1 (by rw [NL.out]; exact Hh1.out)).mono ?_); rintro e wn ⟨rfl, hb⟩; clear HL; have n0_ := Aside0.mk (below_step HB.out hb); have m4_ := Aside0.mk (blk_below BK4.out hb); have m5_ := Aside0.mk (blk_below BK5.out hb); clear HB BK4 BK5 hb; have HB := n0_; have BK4 := m4_; have BK5 := m5_; clear n0_ m4_ m5_; have c4_0 : wn.cell? ⟨g4, 0, none⟩ = some (.string z) := (blk_cell BK4.out 0).trans rfl; have c5_0 : wn.cell? ⟨g5, 0, none⟩ = some (.int .i64 st) := (blk_cell BK5.out 0).trans rfl)
    | (go_at_call 48; (with_reducible refine (impl_within.calls st 1 4 false _ Hh2.out).mono ?_); rintro e wn ⟨rfl, hb0⟩; (first | have hb := to_below_d hb0 | have hb := to_below_b hb0); clear hb0; have n0_ := Aside0.mk (below_step HB.out hb); have m4_ := Aside0.mk (blk_below BK4.out hb); have m5_ := Aside0.mk (blk_below BK5.out hb); clear HB BK4 BK5 hb; have HB := n0_; have BK4 := m4_; have BK5 := m5_; clear n0_ m4_ m5_; have c4_0 : wn.cell? ⟨g4, 0, none⟩ = some (.string z) := (blk_cell BK4.out 0).trans rfl; have c5_0 : wn.cell? ⟨g5, 0, none⟩ = some (.int .i64 st) := (blk_cell BK5.out 0).trans rfl))
  go_ret2
  exact ⟨rfl, HB.out⟩
set_option maxHeartbeats 4000000 in
set_option maxRecDepth 100000 in
theorem Reset_yes (s z : ByteArray) (st : Int) (w : World) (h1 : impl_areWaves.f [s, z] = some true) (h2 : impl_within.f st 1 4 = some true) :
    Calls Tryd.prog 12 #[.string s, .string z, .int .i64 st] w fun e w' => e = .returned (.tuple #[.string (strOfNums (lvs (fun i => decide (rst s z (i + 1) < st)) s.size)), .bool true]) ∧ Below w.heap.size w w' := by
  have Hh1 := Aside0.mk h1
  have Hh2 := Aside0.mk h2
  clear h1 h2
  have HB := Aside0.mk (Below.refl w.heap.size w)
  obtain ⟨ls, hls⟩ : ∃ ls : List ByteArray, ls = [s, z] := ⟨_, rfl⟩
  have NL := Aside0.mk hls
  clear hls
  obtain ⟨hs, hL, hzs, hLz⟩ := areW_two Hh1.out
  have HCH : Aside0 (impl_changesTo.f 1000 s 49 = some (edg s 49 s.size)) := ⟨changes_eq 1000 s 49 (by omega) (by omega)⟩
  have HCO : Aside0 (∀ i : Nat, i < s.size → slices_Contains_int64_int64.f 1000 (edg s 49 s.size) i = some (isE s 49 i)) := ⟨fun i hi => edge_in 1000 s hs i hi (by omega)⟩
  have HRG : Aside0 (∀ i : Nat, 0 ≤ rst s z i ∧ rst s z i ≤ i) := ⟨rst_rng s z⟩
  have HZS := Aside0.mk hzs
  clear hzs hL hLz
  go_enter Tryd.func12, Tryd.ntmps12
  go_wp2_with (first
    | ((with_reducible refine gate_dst (N := 4) rfl ?_); refine box_event ?hg (N := 4) ?hd (cs := #[.string z]) (t := 9) ?hr ?_; (case hd => rfl); (case hg => rfl); (case hr => first | (go_simp; done) | (go_simp; rfl)); intro g4 hg wn hbox hb; have GE4 := Aside0.mk (by rw [hg]; exact below_size HB.out : w.heap.size ≤ g4); clear hg; have BK40 := Aside0.mk hbox; clear hbox; have n0_ := Aside0.mk (below_step HB.out hb); clear HB  hb; have HB := n0_; clear n0_ ; have BK4 := BK40; clear BK40; have c4_0 : wn.cell? ⟨g4, 0, none⟩ = some (.string z) := (blk_cell BK4.out 0).trans rfl)
    | ((with_reducible refine gate_dst (N := 5) rfl ?_); refine box_event ?hg (N := 5) ?hd (cs := #[.int .i64 st]) (t := 2) ?hr ?_; (case hd => rfl); (case hg => rfl); (case hr => first | (go_simp; done) | (go_simp; rfl)); intro g5 hg wn hbox hb; have GE5 := Aside0.mk (by rw [hg]; exact below_size HB.out : w.heap.size ≤ g5); have NE4_5 := Aside0.mk (show g4 ≠ g5 by have := blk_lt BK4.out; omega); clear hg; have BK50 := Aside0.mk hbox; clear hbox; have n0_ := Aside0.mk (below_step HB.out hb); have m4_ := Aside0.mk (blk_below BK4.out hb); clear HB BK4 hb; have HB := n0_; have BK4 := m4_; clear n0_ m4_; have c4_0 : wn.cell? ⟨g4, 0, none⟩ = some (.string z) := (blk_cell BK4.out 0).trans rfl; have BK5 := BK50; clear BK50; have c5_0 : wn.cell? ⟨g5, 0, none⟩ = some (.int .i64 st) := (blk_cell BK5.out 0).trans rfl)
    | ((with_reducible refine gate_dst (N := 12) rfl ?_); refine Kd.R_lit Kd.string _ 9 ?hg (N := 12) ?hd (xs := ([s, z] : List ByteArray)) (inner := [.string s, .string z]) (ok := fun _ => True) (okp := fun _ => True) ?hr ?hp (fun _ hk => hk) trivial (Below.refl _ _) (Nat.le_refl _) (by simp) ?_; (case hd => rfl); (case hg => rfl); (case hr => first | (go_simp; done) | (go_simp; rfl)); (case hp => exact (Reps.one rfl (Reps.one rfl (Reps.none _ _)))); intro vl wn hol hb hg_ hnew_; clear hg_ hnew_; rw [← NL.out] at hol; obtain ⟨Al, cl, el⟩ := Kd.R_slice hol; subst el; have HL := Aside0.mk hol; clear hol; have n0_ := Aside0.mk (below_step HB.out hb); have m4_ := Aside0.mk (blk_below BK4.out hb); have m5_ := Aside0.mk (blk_below BK5.out hb); clear HB BK4 BK5 hb; have HB := n0_; have BK4 := m4_; have BK5 := m5_; clear n0_ m4_ m5_; have c4_0 : wn.cell? ⟨g4, 0, none⟩ = some (.string z) := (blk_cell BK4.out 0).trans rfl; have c5_0 : wn.cell? ⟨g5, 0, none⟩ = some (.int .i64 st) := (blk_cell BK5.out 0).trans rfl)
    | (go_at_call 47; (with_reducible refine (impl_areWaves.calls Al cl ls true _ (Kd.R_reads' HL.out).2.2 (Kd.R_reads' HL.out).2.1 (by rw [NL.out]; exact Hh1.out)).mono ?_); rintro e wn ⟨rfl, hb⟩; clear HL; have n0_ := Aside0.mk (below_step HB.out hb); have m4_ := Aside0.mk (blk_below BK4.out hb); have m5_ := Aside0.mk (blk_below BK5.out hb); clear HB BK4 BK5 hb; have HB := n0_; have BK4 := m4_; have BK5 := m5_; clear n0_ m4_ m5_; have c4_0 : wn.cell? ⟨g4, 0, none⟩ = some (.string z) := (blk_cell BK4.out 0).trans rfl; have c5_0 : wn.cell? ⟨g5, 0, none⟩ = some (.int .i64 st) := (blk_cell BK5.out 0).trans rfl)
    | (go_at_call 48; (with_reducible refine (impl_within.calls st 1 4 true _ Hh2.out).mono ?_); rintro e wn ⟨rfl, hb0⟩; (first | have hb := to_below_d hb0 | have hb := to_below_b hb0); clear hb0; have n0_ := Aside0.mk (below_step HB.out hb); have m4_ := Aside0.mk (blk_below BK4.out hb); have m5_ := Aside0.mk (blk_below BK5.out hb); clear HB BK4 BK5 hb; have HB := n0_; have BK4 := m4_; have BK5 := m5_; clear n0_ m4_ m5_; have c4_0 : wn.cell? ⟨g4, 0, none⟩ = some (.string z) := (blk_cell BK4.out 0).trans rfl; have c5_0 : wn.cell? ⟨g5, 0, none⟩ = some (.int .i64 st) := (blk_cell BK5.out 0).trans rfl)
    | (go_at_call 49; (with_reducible refine (impl_changesTo.calls 1000 s 49 (edg s 49 s.size) _ HCH.out).mono ?_); rintro e wn ⟨v1, rfl, ho0, hb⟩; have ho1 := Kd.R_mono (ok' := fun k => k < wn.heap.size) (Kd.R_bound (Kd.R_lower ho0 (below_size HB.out))) (fun _ hk => hk.2.2.1); clear ho0; obtain ⟨M, hM⟩ : ∃ M, M = wn.heap.size := ⟨_, rfl⟩; rw [← hM] at ho1; have HM := Aside0.mk (Nat.le_of_eq hM); clear hM; obtain ⟨Ao, co, eo⟩ := Kd.R_slice ho1; subst eo; have HO := Aside0.mk ho1; clear ho1; have n0_ := Aside0.mk (below_step HB.out hb); have m4_ := Aside0.mk (blk_below BK4.out hb); have m5_ := Aside0.mk (blk_below BK5.out hb); clear HB BK4 BK5 hb; have HB := n0_; have BK4 := m4_; have BK5 := m5_; clear n0_ m4_ m5_; have c4_0 : wn.cell? ⟨g4, 0, none⟩ = some (.string z) := (blk_cell BK4.out 0).trans rfl; have c5_0 : wn.cell? ⟨g5, 0, none⟩ = some (.int .i64 st) := (blk_cell BK5.out 0).trans rfl)
    | ((with_reducible refine gate_dst (N := 8) rfl ?_); refine box_event ?hg (N := 8) ?hd (cs := #[.slice none 0 0]) (t := 34) ?hr ?_; (case hd => rfl); (case hg => rfl); (case hr => first | (go_simp; done) | (go_simp; rfl)); intro g8 hg wn hbox hb; have GM8 := Aside0.mk (show M ≤ g8 by rw [hg]; exact HM.out); have GE8 := Aside0.mk (by rw [hg]; exact below_size HB.out : w.heap.size ≤ g8); have NE4_8 := Aside0.mk (show g4 ≠ g8 by have := blk_lt BK4.out; omega); have NE5_8 := Aside0.mk (show g5 ≠ g8 by have := blk_lt BK5.out; omega); clear hg; have BK80 := Aside0.mk hbox; clear hbox; have o_ := Aside0.mk (Kd.R_below HO.out hb); have o2_ := Aside0.mk (Nat.le_trans HM.out hb.size); clear HO HM; have HO := o_; have HM := o2_; clear o_ o2_; have n0_ := Aside0.mk (below_step HB.out hb); have m4_ := Aside0.mk (blk_below BK4.out hb); have m5_ := Aside0.mk (blk_below BK5.out hb); clear HB BK4 BK5 hb; have HB := n0_; have BK4 := m4_; have BK5 := m5_; clear n0_ m4_ m5_; have c4_0 : wn.cell? ⟨g4, 0, none⟩ = some (.string z) := (blk_cell BK4.out 0).trans rfl; have c5_0 : wn.cell? ⟨g5, 0, none⟩ = some (.int .i64 st) := (blk_cell BK5.out 0).trans rfl; have BK8 := BK80; clear BK80; have c8_0 : wn.cell? ⟨g8, 0, none⟩ = some (.slice none 0 0) := (blk_cell BK8.out 0).trans rfl)
    | ((with_reducible refine gate_dst (N := 9) rfl ?_); refine box_event ?hg (N := 9) ?hd (cs := #[.int .i64 0]) (t := 2) ?hr ?_; (case hd => rfl); (case hg => rfl); (case hr => first | (go_simp; done) | (go_simp; rfl)); intro g9 hg wn hbox hb; have GM9 := Aside0.mk (show M ≤ g9 by rw [hg]; exact HM.out); have GE9 := Aside0.mk (by rw [hg]; exact below_size HB.out : w.heap.size ≤ g9); have NE4_9 := Aside0.mk (show g4 ≠ g9 by have := blk_lt BK4.out; omega); have NE5_9 := Aside0.mk (show g5 ≠ g9 by have := blk_lt BK5.out; omega); have NE8_9 := Aside0.mk (show g8 ≠ g9 by have := blk_lt BK8.out; omega); clear hg; have BK90 := Aside0.mk hbox; clear hbox; have o_ := Aside0.mk (Kd.R_below HO.out hb); have o2_ := Aside0.mk (Nat.le_trans HM.out hb.size); clear HO HM; have HO := o_; have HM := o2_; clear o_ o2_; have n0_ := Aside0.mk (below_step HB.out hb); have m4_ := Aside0.mk (blk_below BK4.out hb); have m5_ := Aside0.mk (blk_below BK5.out hb); have m8_ := Aside0.mk (blk_below BK8.out hb); clear HB BK4 BK5 BK8 hb; have HB := n0_; have BK4 := m4_; have BK5 := m5_; have BK8 := m8_; clear n0_ m4_ m5_ m8_; have c4_0 : wn.cell? ⟨g4, 0, none⟩ = some (.string z) := (blk_cell BK4.out 0).trans rfl; have c5_0 : wn.cell? ⟨g5, 0, none⟩ = some (.int .i64 st) := (blk_cell BK5.out 0).trans rfl; have c8_0 : wn.cell? ⟨g8, 0, none⟩ = some (.slice none 0 0) := (blk_cell BK8.out 0).trans rfl; have BK9 := BK90; clear BK90; have c9_0 : wn.cell? ⟨g9, 0, none⟩ = some (.int .i64 0) := (blk_cell BK9.out 0).trans rfl; have z8_0 := blk_frozen BK8.out 0; have z9_0 := blk_frozen BK9.out 0; have c9s : ∀ v, (wn.setCell ⟨g8, 0, none⟩ v).cell? ⟨g9, 0, none⟩ = some (.int .i64 0) := fun v => (blk_cell (blk_far BK9.out (p := ⟨g8, 0, none⟩) (Ne.symm NE8_9.out) v) 0).trans rfl; have z9s : ∀ v, (wn.setCell ⟨g8, 0, none⟩ v).frozen? ⟨g9, 0, none⟩ = false := fun v => blk_frozen (blk_far BK9.out (p := ⟨g8, 0, none⟩) (Ne.symm NE8_9.out) v) 0)
    | (go_at_call 50; have p4 := blk_far (blk_far BK4.out (p := ⟨g8, 0, none⟩) NE4_8.out (.slice Ao (edg s 49 s.size).length co)) (p := ⟨g9, 0, none⟩) NE4_9.out (.int .i64 0); have p5 := blk_far (blk_far BK5.out (p := ⟨g8, 0, none⟩) NE5_8.out (.slice Ao (edg s 49 s.size).length co)) (p := ⟨g9, 0, none⟩) NE5_9.out (.int .i64 0); have p8 := blk_far (blk_put BK8.out 0 (.slice Ao (edg s 49 s.size).length co) (cs' := #[.slice Ao (edg s 49 s.size).length co]) rfl) (p := ⟨g9, 0, none⟩) NE8_9.out (.int .i64 0); have p9 := blk_put (blk_far BK9.out (p := ⟨g8, 0, none⟩) (Ne.symm NE8_9.out) (.slice Ao (edg s 49 s.size).length co)) 0 (.int .i64 0) (cs' := #[.int .i64 (rst s z 0)]) rfl; have pb := below_set (j := 0) (v := .int .i64 0) (below_set (j := 0) (v := .slice Ao (edg s 49 s.size).length co) HB.out GE8.out) GE9.out; have pr := Kd.R_far (p := ⟨g9, 0, none⟩) (Kd.R_far (p := ⟨g8, 0, none⟩) HO.out (fun k hk => Nat.ne_of_lt (Nat.lt_of_lt_of_le hk GM8.out)) (.slice Ao (edg s 49 s.size).length co)) (fun k hk => Nat.ne_of_lt (Nat.lt_of_lt_of_le hk GM9.out)) (.int .i64 0); (with_reducible refine (waveOf_any s.size (by omega) 51 Tryd.f51 #[.pointer (some ⟨g4, 0, none⟩), .pointer (some ⟨g9, 0, none⟩), .pointer (some ⟨g8, 0, none⟩), .pointer (some ⟨g5, 0, none⟩)] (fun i => decide (rst s z (i + 1) < st)) (fun i W => W.heap[g4]? = some (.cells #[.string z] 9 (0, 0)) ∧ W.heap[g5]? = some (.cells #[.int .i64 st] 2 (0, 0)) ∧ W.heap[g8]? = some (.cells #[.slice Ao (edg s 49 s.size).length co] 34 (0, 0)) ∧ W.heap[g9]? = some (.cells #[.int .i64 (rst s z i)] 2 (0, 0)) ∧ Kd.R (Kd.int .i64) 2 W w.heap.size (fun k => k < M) (.slice Ao (edg s 49 s.size).length co) (edg s 49 s.size)) w.heap.size ((· = g9)) _ Tryd.func51 rfl (by kernel_rfl) ⟨p4, p5, p8, p9, pr⟩ (below_size pb) (by rintro _ rfl; exact blk_lt p9) ?st ?cl).mono ?_); (case st => exact fun i wa wb hI hs => ⟨(hs g4 (blk_lt p4)).trans hI.1, (hs g5 (blk_lt p5)).trans hI.2.1, (hs g8 (blk_lt p8)).trans hI.2.2.1, (hs g9 (blk_lt p9)).trans hI.2.2.2.1, Kd.R_step hI.2.2.2.2 (fun k hk _ => hs k (Nat.lt_trans (Nat.lt_of_lt_of_le hk GM9.out) (blk_lt p9)))⟩); (case cl => exact fun i hi wr hI hsz => (ResetClo z (edg s 49 s.size) Ao co st (rst s z i) i 1000 (isE s 49 i) g4 g9 g8 g5 w.heap.size wr hI.1 hI.2.2.2.1 hI.2.2.1 hI.2.1 NE5_9.out (Kd.R_reads' hI.2.2.2.2).2.2 (Kd.R_reads' hI.2.2.2.2).2.1 (HCO.out i hi) (by omega) (by rw [HZS.out]; omega) (HRG.out i).1 (by have := (HRG.out i).2; omega) GE9.out (rst s z (i + 1)) rfl).mono fun e w' ⟨h1, h3, h4, h5⟩ => ⟨h1, ⟨blk_kept hI.1 h5 NE4_9.out, blk_kept hI.2.1 h5 NE5_9.out, blk_kept hI.2.2.1 h5 NE8_9.out, h3, Kd.R_kept hI.2.2.2.2 h5 (fun k hk he => Nat.ne_of_lt (Nat.lt_of_lt_of_le hk GM9.out) he)⟩, h4, h5⟩); rintro e wn ⟨rfl, hI, hb, hk⟩; have n0_ := Aside0.mk (pb.trans hb); clear HB hb hI hk; have HB := n0_; clear n0_))
  go_ret2
  exact ⟨rfl, HB.out⟩
def impl_ResetWave.f (a0 : ByteArray) (a1 : ByteArray) (a2 : Int) : Option (ByteArray × Bool) :=
  (impl_areWaves.f [a0, a1]).bind fun t => if t = true then (impl_within.f a2 1 4).bind fun u => if u = true then some (strOfNums (lvs (fun i => decide (rst a0 a1 (i + 1) < a2)) a0.size), true) else some (⟨#[]⟩, false) else some (⟨#[]⟩, false)
theorem impl_ResetWave.calls (a0 : ByteArray) (a1 : ByteArray) (a2 : Int) (r1 : ByteArray) (r2 : Bool) (w : World) (h : impl_ResetWave.f a0 a1 a2 = some (r1, r2)) :
    Calls Tryd.prog 12 #[.string a0, .string a1, .int .i64 a2] w fun e w' => e = .returned (.tuple #[.string r1, .bool r2]) ∧ Below w.heap.size w w' := by
  unfold impl_ResetWave.f at h
  obtain ⟨t, ht, h⟩ := Option.bind_eq_some_iff.mp h
  cases t with
  | false =>
    rw [if_neg (by simp)] at h
    simp only [Option.some.injEq, Prod.mk.injEq] at h
    obtain ⟨rfl, rfl⟩ := h
    exact Reset_no1 a0 a1 a2 w ht
  | true =>
    rw [if_pos rfl] at h
    obtain ⟨u, hu, h⟩ := Option.bind_eq_some_iff.mp h
    cases u with
    | false =>
      rw [if_neg (by simp)] at h
      simp only [Option.some.injEq, Prod.mk.injEq] at h
      obtain ⟨rfl, rfl⟩ := h
      exact Reset_no2 a0 a1 a2 w ht hu
    | true =>
      rw [if_pos rfl] at h
      simp only [Option.some.injEq, Prod.mk.injEq] at h
      obtain ⟨rfl, rfl⟩ := h
      exact Reset_yes a0 a1 a2 w ht hu
end Go.Proofs.YthkpnbelbaljdaaDoor.X
-- Written by a program of this session out of the kit's print of the loaded functions: a plain function of a Go function, and its contract.
namespace Go.Proofs.YthkpnbelbaljdaaDoor.X
open Go.RowKit Go.Proofs.YthkpnbelbaljdaaDoorW.PrintWords Go.Proofs.YthkpnbelbaljdaaDoorW.PrintLast Go.Proofs.YthkpnbelbaljdaaDoorW.PrintMore
attribute [local go_sem] max2_int min2_int max_two min_two max_three min_three max_four min_four   -- for this text's walks alone
set_option linter.unusedVariables false
set_option linter.unusedSimpArgs false
/-! ### spec_l07Three: function 44 -/
end Go.Proofs.YthkpnbelbaljdaaDoor.X
-- Written by a program of this session out of the kit's print of the loaded functions: a plain function of a Go function, and its contract.
namespace Go.Proofs.YthkpnbelbaljdaaDoor.X
open Go.RowKit Go.Proofs.YthkpnbelbaljdaaDoorW.PrintWords Go.Proofs.YthkpnbelbaljdaaDoorW.PrintLast Go.Proofs.YthkpnbelbaljdaaDoorW.PrintMore
attribute [local go_sem] max2_int min2_int max_two min_two max_three min_three max_four min_four   -- for this text's walks alone
set_option linter.unusedVariables false
set_option linter.unusedSimpArgs false
/-! ### spec_l07Level: function 46 -/
end Go.Proofs.YthkpnbelbaljdaaDoor.X
-- Written by a program of this session out of the kit's print of the loaded functions: a plain function of a Go function, and its contract.
namespace Go.Proofs.YthkpnbelbaljdaaDoor.X
open Go.RowKit Go.Proofs.YthkpnbelbaljdaaDoorW.PrintWords Go.Proofs.YthkpnbelbaljdaaDoorW.PrintLast Go.Proofs.YthkpnbelbaljdaaDoorW.PrintMore
attribute [local go_sem] max2_int min2_int max_two min_two max_three min_three max_four min_four   -- for this text's walks alone
set_option linter.unusedVariables false
set_option linter.unusedSimpArgs false
/-! ### spec_ResetWave: function 11 -/
end Go.Proofs.YthkpnbelbaljdaaDoor.X
-- Written by a program of this session out of the kit's print of the loaded functions: a plain function of a Go function, and its contract.
namespace Go.Proofs.YthkpnbelbaljdaaDoor.X
open Go.RowKit Go.Proofs.YthkpnbelbaljdaaDoorW.PrintWords Go.Proofs.YthkpnbelbaljdaaDoorW.PrintLast Go.Proofs.YthkpnbelbaljdaaDoorW.PrintMore
attribute [local go_sem] max2_int min2_int max_two min_two max_three min_three max_four min_four   -- for this text's walks alone
set_option linter.unusedVariables false
set_option linter.unusedSimpArgs false
/-! ### laws_FnExactResetWave: function 3 -/
end Go.Proofs.YthkpnbelbaljdaaDoor.X
/- Reset waves: the plain law of ResetWave. Conditions: as each lemma says. -/
namespace Go.Proofs.YthkpnbelbaljdaaDoor.X
open Go.RowKit Go.Proofs.YthkpnbelbaljdaaDoorW.PrintWords Go.Proofs.YthkpnbelbaljdaaDoorW.PrintLast Go.Proofs.YthkpnbelbaljdaaDoorW.PrintMore
set_option linter.unusedVariables false
set_option linter.unusedSimpArgs false
end Go.Proofs.YthkpnbelbaljdaaDoor.X
end
section
/- My own texts of this seat, merged: XConcat, Xp55, Xp83, XPulses, Xp86, XClean, Xp84. Conditions: as each lemma says. -/
/- The library's Concat of two lists. Conditions: small ones. -/
namespace Go.Proofs.YthkpnbelbaljdaaDoor.X
open Go.RowKit Go.Proofs.YthkpnbelbaljdaaDoorW.PrintWords Go.Proofs.YthkpnbelbaljdaaDoorW.PrintLast Go.Proofs.YthkpnbelbaljdaaDoorW.PrintMore
set_option linter.unusedVariables false
set_option linter.unusedSimpArgs false
theorem slices_Concat_pulse_infoE : (Tryd.prog.info? 61).map (fun i => (i.zero, i.size, i.bytes)) = some (some (.agg #[.int .i64 0, .int .i64 0]), (k61).sz, 16) := by kernel_rfl
set_option maxHeartbeats 4000000 in
set_option maxRecDepth 100000 in
theorem slices_Concat_pulse_grow0 (w : World) : Calls Tryd.prog 85 #[.slice none 0 0, .int .i64 0] w fun e w' => e = .returned (.slice none 0 0) ∧ w = w' := by
  go_enter Tryd.func85, Tryd.ntmps85
  go_wp2
  go_ret
  exact ⟨rfl, rfl⟩
set_option maxHeartbeats 4000000 in
set_option maxRecDepth 100000 in
theorem slices_Concat_pulse_grow (n : Nat) (h0 : 0 < n) (hn : n ≤ 100000) (w : World) : Calls Tryd.prog 85 #[.slice none 0 0, .int .i64 (n : Int)] w fun e w' => ∃ v, e = .returned v ∧ Kd.R k61 61 w' w.heap.size (fun _ => True) v [] ∧ Below w.heap.size w w' := by
  go_enter Tryd.func85, Tryd.ntmps85
  have e1 : IntKind.i64.wrap ((n : Int) - 0) = n := IntWalk.i64_in _ ⟨by omega, by omega⟩
  go_wp2_with (((with_reducible refine gate_builtin (b := .append) (xs := #[.tmp 20, .tmp 21]) rfl ?_); at_builtin; refine Kd.R_append_zeros k61 (w0 := w) w.heap.size rfl (.tmp 20) (.tmp 21) 58 3 61 (.agg #[.int .i64 0, .int .i64 0]) 16 rfl Tryd.underlying58 Tryd.underlying3 slices_Concat_pulse_infoE rfl (by decide) (by omega) (.slice none 0 0) [] (z61) (n : Int) (fun _ => True) rfl rfl ?aZ (fun _ _ => trivial) ?aO (by omega) (Below.refl _ _) (Nat.le_refl _) ?aL ?_; (case aZ => first | rfl | exact (k61_mkM _ _ _ z61)); (case aO => exact Kd.R_nil _ _ _ _ _); (case aL => simp; omega); intro v1 w1 ho hb _ _; obtain ⟨Ao, co, eo⟩ := Kd.R_slice ho; subst eo; have HO := Aside0.mk (Kd.R_take (m := 0) ho (Nat.zero_le _)); have HB := Aside0.mk hb; clear ho hb))
  go_ret
  exact ⟨_, rfl, HO.out, HB.out⟩
set_option maxHeartbeats 4000000 in
set_option maxRecDepth 100000 in
theorem slices_Concat_pulse_two (ad : Addr) (c c1 c2 : Nat) (A1 A2 : Option Addr) (xs ys : List (S61)) (hx : xs.length ≤ 1000) (hy : ys.length ≤ 1000) (hp : 0 < xs.length + ys.length) (w : World)
    (k0 : w.cell? ad = some (.slice A1 xs.length c1)) (k1 : w.cell? (ad.add 1) = some (.slice A2 ys.length c2)) (hr1 : Kd.C k61 w A1 xs.length xs) (hr2 : Kd.C k61 w A2 ys.length ys) :
    Calls Tryd.prog 54 #[.slice (some ad) 2 c] w fun e w' => ∃ v, e = .returned v ∧ Kd.R k61 61 w' w.heap.size (fun _ => True) v (xs ++ ys) ∧ Below w.heap.size w w' := by
  have g0 : w.cell? (ad.add 0) = some (.slice A1 xs.length c1) := by simpa [Addr.add] using k0
  have k1' : w.cell? ⟨ad.block, ad.off + 1, none⟩ = some (.slice A2 ys.length c2) := by simpa [Addr.add] using k1
  have s1 : IntKind.i64.wrap (0 + (xs.length : Int)) = (xs.length : Int) := by rw [IntWalk.i64_in _ ⟨by omega, by omega⟩]; omega
  have s2 : IntKind.i64.wrap ((xs.length : Int) + (ys.length : Int)) = ((xs.length + ys.length : Nat) : Int) := by rw [IntWalk.i64_in _ ⟨by omega, by omega⟩]; omega
  have t1 : ((xs.length : Int) + (ys.length : Int)) = ((xs.length + ys.length : Nat) : Int) := by omega
  have HG := Aside0.mk (slices_Concat_pulse_grow (xs.length + ys.length) hp (by omega))
  have K0 := Aside0.mk k0
  have K1 := Aside0.mk k1
  have HR1 := Aside0.mk hr1
  have HR2 := Aside0.mk hr2
  have n1 : ¬ ((xs.length : Int) < 0) := by omega
  have n2 : ¬ (((xs.length + ys.length : Nat) : Int) < 0) := by omega
  obtain ⟨m, hm⟩ : ∃ m, m = xs.length + ys.length := ⟨_, rfl⟩
  rw [← hm] at HG s2 t1 n2
  have HM := Aside0.mk hm
  clear hm hr1 hr2 hp
  go_enter Tryd.func54, Tryd.ntmps54
  go_wp2
  refine wp_loop_rounds 3 ?_
  rw [rounds_succ]
  go_wp2
  rw [rounds_succ]
  go_wp2
  rw [rounds_succ]
  go_wp2_with (go_at_call 85; (with_reducible refine (HG.out _).mono ?_); rintro e w1 ⟨v1, rfl, ho, hb⟩; have HO := Aside0.mk ho; have HB := Aside0.mk hb; have k0 := pw_cell_below hb K0.out; have k1 := pw_cell_below hb K1.out; have g0 : w1.cell? (ad.add 0) = some (.slice A1 xs.length c1) := (by simpa [Addr.add] using k0); have k1' : w1.cell? ⟨ad.block, ad.off + 1, none⟩ = some (.slice A2 ys.length c2) := (by simpa [Addr.add] using k1); clear ho hb)
  refine wp_loop_rounds 3 ?_
  rw [rounds_succ]
  go_wp2_with (((with_reducible refine gate_builtin (b := .append) (xs := #[.tmp 31, .tmp 32]) rfl ?_); at_builtin; refine Kd.R_append_rows k61 (w0 := w) w.heap.size rfl (.tmp 31) (.tmp 32) 58 61 (.agg #[.int .i64 0, .int .i64 0]) 16 rfl Tryd.underlying58 slices_Concat_pulse_infoE rfl (by decide) (by omega) v1 [] xs A1 _ c1 (fun _ => True) (fun _ => False) rfl rfl HO.out (Kd.C_below HR1.out HB.out) (fun _ _ h => h) (fun _ h => h.elim) (fun _ _ => trivial) HB.out (below_size HB.out) ?aL ?_; (case aL => simp; omega); intro v2 w2 ho hb hg _; rw [List.nil_append] at ho; have HO2 := Aside0.mk ho; have HB2 := Aside0.mk hb; have k0 := pw_cell_below hb K0.out; have k1 := pw_cell_below hb K1.out; have g0 : w2.cell? (ad.add 0) = some (.slice A1 xs.length c1) := (by simpa [Addr.add] using k0); have k1' : w2.cell? ⟨ad.block, ad.off + 1, none⟩ = some (.slice A2 ys.length c2) := (by simpa [Addr.add] using k1); clear ho hb hg))
  rw [rounds_succ]
  go_wp2_with (((with_reducible refine gate_builtin (b := .append) (xs := #[.tmp 31, .tmp 32]) rfl ?_); at_builtin; refine Kd.R_append_rows k61 (w0 := w) w.heap.size rfl (.tmp 31) (.tmp 32) 58 61 (.agg #[.int .i64 0, .int .i64 0]) 16 rfl Tryd.underlying58 slices_Concat_pulse_infoE rfl (by decide) (by omega) v2 xs ys A2 _ c2 (fun _ => True) (fun _ => False) rfl rfl HO2.out (Kd.C_below HR2.out HB2.out) (fun _ _ h => h) (fun _ h => h.elim) (fun _ _ => trivial) HB2.out (below_size HB2.out) ?aL ?_; (case aL => omega); intro v3 w3 ho hb hg _; have HO3 := Aside0.mk ho; have HB3 := Aside0.mk hb; clear ho hb hg))
  rw [rounds_succ]
  go_wp2
  go_ret
  exact ⟨_, rfl, HO3.out, HB3.out⟩
set_option maxHeartbeats 4000000 in
set_option maxRecDepth 100000 in
theorem slices_Concat_pulse_none (ad : Addr) (c c1 c2 : Nat) (A1 A2 : Option Addr) (w : World)
    (k0 : w.cell? ad = some (.slice A1 0 c1)) (k1 : w.cell? (ad.add 1) = some (.slice A2 0 c2)) (hr1 : Kd.C k61 w A1 0 []) (hr2 : Kd.C k61 w A2 0 []) :
    Calls Tryd.prog 54 #[.slice (some ad) 2 c] w fun e w' => ∃ v, e = .returned v ∧ Kd.R k61 61 w' w.heap.size (fun _ => True) v [] ∧ Below w.heap.size w w' := by
  have g0 : w.cell? (ad.add 0) = some (.slice A1 0 c1) := by simpa [Addr.add] using k0
  have k1' : w.cell? ⟨ad.block, ad.off + 1, none⟩ = some (.slice A2 0 c2) := by simpa [Addr.add] using k1
  have HG := Aside0.mk (slices_Concat_pulse_grow0)
  have HR1 := Aside0.mk hr1
  have HR2 := Aside0.mk hr2
  have HB := Aside0.mk (Below.refl w.heap.size w)
  have HO := Aside0.mk (Kd.R_nil k61 61 w w.heap.size (fun _ => True))
  have K0 := Aside0.mk k0
  have K1 := Aside0.mk k1
  clear hr1 hr2
  go_enter Tryd.func54, Tryd.ntmps54
  go_wp2
  refine wp_loop_rounds 3 ?_
  rw [rounds_succ]
  go_wp2
  rw [rounds_succ]
  go_wp2
  rw [rounds_succ]
  go_wp2_with (go_at_call 85; (with_reducible refine (HG.out _).mono ?_); rintro e wn ⟨rfl, rfl⟩)
  refine wp_loop_rounds 3 ?_
  rw [rounds_succ]
  go_wp2_with (((with_reducible refine gate_builtin (b := .append) (xs := #[.tmp 31, .tmp 32]) rfl ?_); at_builtin; refine Kd.R_append_rows k61 (w0 := w) w.heap.size rfl (.tmp 31) (.tmp 32) 58 61 (.agg #[.int .i64 0, .int .i64 0]) 16 rfl Tryd.underlying58 slices_Concat_pulse_infoE rfl (by decide) (by omega) (.slice none 0 0) [] [] A1 _ c1 (fun _ => True) (fun _ => False) rfl rfl HO.out HR1.out (fun _ _ h => h) (fun _ h => h.elim) (fun _ _ => trivial) HB.out (below_size HB.out) (by simp) ?_; intro v2 w2 ho hb hg _; rw [List.nil_append] at ho; have HO2 := Aside0.mk ho; have HB2 := Aside0.mk hb; have k0 := pw_cell_below hb K0.out; have k1 := pw_cell_below hb K1.out; have g0 : w2.cell? (ad.add 0) = some (.slice A1 0 c1) := (by simpa [Addr.add] using k0); have k1' : w2.cell? ⟨ad.block, ad.off + 1, none⟩ = some (.slice A2 0 c2) := (by simpa [Addr.add] using k1); clear ho hb hg))
  rw [rounds_succ]
  go_wp2_with (((with_reducible refine gate_builtin (b := .append) (xs := #[.tmp 31, .tmp 32]) rfl ?_); at_builtin; refine Kd.R_append_rows k61 (w0 := w) w.heap.size rfl (.tmp 31) (.tmp 32) 58 61 (.agg #[.int .i64 0, .int .i64 0]) 16 rfl Tryd.underlying58 slices_Concat_pulse_infoE rfl (by decide) (by omega) v2 [] [] A2 _ c2 (fun _ => True) (fun _ => False) rfl rfl HO2.out (Kd.C_below HR2.out HB2.out) (fun _ _ h => h) (fun _ h => h.elim) (fun _ _ => trivial) HB2.out (below_size HB2.out) (by simp) ?_; intro v3 w3 ho hb hg _; rw [List.nil_append] at ho; have HO3 := Aside0.mk ho; have HB3 := Aside0.mk hb; clear ho hb hg))
  rw [rounds_succ]
  go_wp2
  go_ret
  exact ⟨_, rfl, HO3.out, HB3.out⟩
theorem slices_Concat_pulse_pair (ad : Addr) (c c1 c2 : Nat) (A1 A2 : Option Addr) (xs ys : List (S61)) (hx : xs.length ≤ 1000) (hy : ys.length ≤ 1000) (w : World)
    (k0 : w.cell? ad = some (.slice A1 xs.length c1)) (k1 : w.cell? (ad.add 1) = some (.slice A2 ys.length c2)) (hr1 : Kd.C k61 w A1 xs.length xs) (hr2 : Kd.C k61 w A2 ys.length ys) :
    Calls Tryd.prog 54 #[.slice (some ad) 2 c] w fun e w' => ∃ v, e = .returned v ∧ Kd.R k61 61 w' w.heap.size (fun _ => True) v (xs ++ ys) ∧ Below w.heap.size w w' := by
  by_cases hp : 0 < xs.length + ys.length
  · exact slices_Concat_pulse_two ad c c1 c2 A1 A2 xs ys hx hy hp w k0 k1 hr1 hr2
  · obtain rfl : xs = [] := List.eq_nil_of_length_eq_zero (by omega)
    obtain rfl : ys = [] := List.eq_nil_of_length_eq_zero (by omega)
    exact slices_Concat_pulse_none ad c c1 c2 A1 A2 w k0 k1 hr1 hr2
end Go.Proofs.YthkpnbelbaljdaaDoor.X
-- Written by a program of this session out of the kit's print of the loaded functions: a plain function of a Go function, and its contract.
namespace Go.Proofs.YthkpnbelbaljdaaDoor.X
open Go.RowKit Go.Proofs.YthkpnbelbaljdaaDoorW.PrintWords Go.Proofs.YthkpnbelbaljdaaDoorW.PrintLast Go.Proofs.YthkpnbelbaljdaaDoorW.PrintMore
attribute [local go_sem] max2_int min2_int max_two min_two max_three min_three max_four min_four   -- for this text's walks alone
set_option linter.unusedVariables false
set_option linter.unusedSimpArgs false
/-! ### impl_pulses: function 55 -/
mutual
def impl_pulses.l0 : Nat → ByteArray → List (S61) → List Int → Int → Int → Option ((List (S61)))
  | 0, _, _, _, _, _ => none
  | k + 1, x0, x3, x10, x11, x12 => if x12 < x11 then (if 0 ≤ x12 then (if x12 < (x10.length : Int) then (impl_pulses.l1 k x0 x3 (rd x10 x12) 0 (rd x10 x12) x10 x11 x12) else (none)) else (none)) else (some x3)
def impl_pulses.l1 : Nat → ByteArray → List (S61) → Int → Int → Int → List Int → Int → Int → Option ((List (S61)))
  | 0, _, _, _, _, _, _, _, _ => none
  | k + 1, x0, x3, x5, x6, x7, x10, x11, x12 => if x7 < (x0.size : Int) then (if 0 ≤ x7 then (if (bt x0 x7) = 49 then (impl_pulses.l1 k x0 x3 x5 (wrap64 (x6 + 1)) (wrap64 (x7 + 1)) x10 x11 x12) else (if x3.length < 8796093022208 then (impl_pulses.l0 k x0 (x3 ++ [(⟨x5, x6⟩ : S61)]) x10 x11 (wrap64 (x12 + 1))) else (none))) else (none)) else (if x3.length < 8796093022208 then (impl_pulses.l0 k x0 (x3 ++ [(⟨x5, x6⟩ : S61)]) x10 x11 (wrap64 (x12 + 1))) else (none))
end
def impl_pulses.f (k : Nat) (a0 : ByteArray) : Option ((List (S61))) := (impl_changesTo.f k a0 49).bind fun t186 => (impl_pulses.l0 k a0 (([] : List (S61))) t186 (t186.length : Int) 0)
set_option maxHeartbeats 8000000 in
set_option maxRecDepth 100000 in
theorem impl_pulses.calls (k : Nat) (a0 : ByteArray) (r : List (S61)) (w : World) (h : impl_pulses.f k a0 = some r) :
    Calls Tryd.prog 55 #[.string a0] w fun e w' => ∃ v0_ : Value, e = .returned (v0_) ∧ Kd.R k61 61 w' w.heap.size (fun _ => True) v0_ r ∧ Below w.heap.size w w' := by
  have hu61 := Tryd.underlying61
  have HB := Aside0.mk (Below.refl w.heap.size w)
  have H : ((impl_changesTo.f k a0 49).bind fun t186 => (impl_pulses.l0 k a0 (([] : List (S61))) t186 (t186.length : Int) 0)) = some r := h
  clear h
  obtain ⟨y183, hy183⟩ : ∃ y_ : List (S61), y_ = (([] : List (S61))) := ⟨_, rfl⟩
  replace H : ((impl_changesTo.f k a0 49).bind fun t186 => (impl_pulses.l0 k a0 y183 t186 (t186.length : Int) 0)) = some r := by first | (rw [hy183]; with_reducible exact H) | (have H2_ := (Option.bind_some _ _).symm.trans H; rw [hy183]; with_reducible exact H2_) | (have H2_ := (Option.bind_some _ _).symm.trans H; with_reducible exact H2_) | with_reducible exact H | (rw [hy183]; exact H) | exact H
  have Ny183 := Aside0.mk hy183
  clear hy183
  replace H := Option.bind_eq_some_iff.mp H
  obtain ⟨t186, A20, H⟩ := H
  replace H : (impl_pulses.l0 k a0 y183 t186 (t186.length : Int) 0) = some r := H
  have A2 := Aside0.mk A20
  clear A20
  have H' := Aside0.mk H
  clear H
  go_enter Tryd.func55, Tryd.ntmps55
  go_wp2_with (first | ((with_reducible refine gate_dst (N := 8) rfl ?_); refine Kd.R_lit k61 _ 61 ?hg (N := 8) ?hd (xs := ([] : List (S61))) (inner := []) (ok := fun _ => True) (okp := fun _ => True) ?hr ?hp (fun _ hk => hk) trivial (Below.refl _ _) (Nat.le_refl _) (by simp) ?_; (case hd => rfl); (case hg => rfl); (case hr => first | (go_simp; done) | (go_simp; rfl)); (case hp => exact (Reps.none _ _)); intro v184 w3 ho4 hb hg_ hnew_; clear hg_ hnew_; (first | rw [← Ny183.out] at ho4 | (simp only [Int.reduceToNat] at ho4; rw [← Ny183.out] at ho4)); have n0_ := Aside0.mk (Kd.R_lower ho4 (below_size (by repeat (first | (with_reducible first | exact HB.out | apply below_alloc | apply pw_below_drewN | apply below_drew1) | exact HB.out)))); have n1_ := Aside0.mk (below_step (by repeat (first | (with_reducible first | exact HB.out | apply below_alloc | apply pw_below_drewN | apply below_drew1) | exact HB.out)) hb); clear HB; have HO185 := n0_; have HB := n1_; clear n0_ n1_; clear hb ho4) | ((with_reducible refine gate_callee (f := 49) rfl ?_); refine goesL_ (some 10) rfl rfl Tryd.func49 (by kernel_rfl) rfl #[.string a0, .int .u8 49] rfl (by (try simp only [List.map_toArray, List.map_cons, List.map_nil]); first | done | rfl | (simp only [List.length_drop, List.length_take]; rfl)) ?_; (with_reducible refine (impl_changesTo.calls k a0 49 t186 _ A2.out).mono ?_); rintro e w5 ⟨v187, rfl, ho0, hb⟩; refine ⟨_, rfl, ?_⟩; have n0_ := Aside0.mk (Kd.R_below (by (with_reducible repeat (first | apply Kd.R_alloc | apply Kd.R_drewN | apply Kd.R_drew)); exact HO185.out) hb); have n1_ := Aside0.mk (Kd.R_lower ho0 (below_size (by repeat (first | (with_reducible first | exact HB.out | apply below_alloc | apply pw_below_drewN | apply below_drew1) | exact HB.out)))); have n2_ := Aside0.mk (below_step (by repeat (first | (with_reducible first | exact HB.out | apply below_alloc | apply pw_below_drewN | apply below_drew1) | exact HB.out)) hb); clear HO185; clear HB; have HO185 := n0_; have HO188 := n1_; have HB := n2_; clear n0_ n1_ n2_; (try clear hb); (try clear hb2); (try clear hk); (try clear hi); (try clear ho0); obtain ⟨Ao6, co6, eo6⟩ := Kd.R_slice HO188.out; subst eo6))
  go_loopg [3, 12] k (fun kq v3 v12 w' => ∃ (x3_1 : List (S61)) (x12_1 : Int), v12 = .int .i64 x12_1 ∧ Aside0 (impl_pulses.l0 kq a0 x3_1 t186 (t186.length : Int) x12_1 = some r) ∧ Aside0 (kq ≤ k) ∧ Aside0 (Kd.R k61 61 w' w.heap.size (fun _ => True) v3 x3_1) ∧ Aside0 (Kd.R (Kd.int .i64) 2 w' w.heap.size (fun _ => True) (.slice Ao6 t186.length co6) t186) ∧ Aside0 (Below w.heap.size w w'))
  case atStart => exact ⟨(y183), (0), (by first | rfl | (simp; done) | (simp [*]; done)), H', ⟨Nat.le_refl _⟩, ⟨by (with_reducible repeat (first | apply Kd.R_alloc | apply Kd.R_drewN | apply Kd.R_drew)); exact HO185.out⟩, ⟨by (with_reducible repeat (first | apply Kd.R_alloc | apply Kd.R_drewN | apply Kd.R_drew)); exact HO188.out⟩, ⟨by repeat (first | (with_reducible first | exact HB.out | apply below_alloc | apply pw_below_drewN | apply below_drew1) | exact HB.out)⟩⟩
  case round =>
    clear H'
    try clear p2
    try clear c4
    try clear c5
    obtain ⟨x3_1, x12_1, rfl, HA, HK1, HO_3, HO_10, HB⟩ := hrel
    cases gk with
    | zero => exact absurd HA.out (by simp [impl_pulses.l0])
    | succ k1 =>
      have H := HA.out
      clear HA
      simp only [impl_pulses.l0] at H
      by_cases c7 : x12_1 < (t186.length : Int)
      · rw [if_pos c7] at H
        have c7b0 : decide (x12_1 < (t186.length : Int)) = true := decide_eq_true c7
        clear c7
        by_cases c8 : 0 ≤ x12_1
        · rw [if_pos c8] at H
          have c8b0 : decide (0 ≤ x12_1) = true := decide_eq_true c8
          clear c8
          by_cases c9 : x12_1 < (t186.length : Int)
          · rw [if_pos c9] at H
            have c9b0 : decide (x12_1 < (t186.length : Int)) = true := decide_eq_true c9
            clear c9
            have H' := Aside0.mk H
            clear H
            have p189 : 0 ≤ (x12_1 : Int) := of_decide_eq_true (by first | (with_reducible assumption) | assumption)
            have q189 : x12_1 < (t186.length : Int) := of_decide_eq_true (by first | (with_reducible assumption) | assumption)
            obtain ⟨ad189, e189, hx189_0⟩ := Kd.at_int (Kd.R_reads' HO_10.out).2.2 x12_1 p189 q189
            cases e189
            replace p189 := eq_true p189
            replace q189 := eq_true q189
            go_wp2
            go_loopg [6, 7] k1 (fun kq v6 v7 w' => ∃ (x6_2 : Int) (x7_2 : Int), v6 = .int .i64 x6_2 ∧ v7 = .int .i64 x7_2 ∧ Aside0 (impl_pulses.l1 kq a0 x3_1 (rd t186 x12_1) x6_2 x7_2 t186 (t186.length : Int) x12_1 = some r) ∧ Aside0 (kq ≤ k1) ∧ Aside0 (Kd.R k61 61 w' w.heap.size (fun _ => True) u3 x3_1) ∧ Aside0 (Kd.R (Kd.int .i64) 2 w' w.heap.size (fun _ => True) (.slice (some ad189) t186.length co6) t186) ∧ Aside0 (Below w.heap.size w w'))
            case atStart => exact ⟨(0), (rd t186 x12_1), (by first | rfl | (simp; done) | (simp [*]; done)), (by first | rfl | (simp; done) | (simp [*]; done)), H', ⟨Nat.le_refl _⟩, ⟨by (with_reducible repeat (first | apply Kd.R_alloc | apply Kd.R_drewN | apply Kd.R_drew)); exact HO_3.out⟩, ⟨by (with_reducible repeat (first | apply Kd.R_alloc | apply Kd.R_drewN | apply Kd.R_drew)); exact HO_10.out⟩, ⟨by repeat (first | (with_reducible first | exact HB.out | apply below_alloc | apply pw_below_drewN | apply below_drew1) | exact HB.out)⟩⟩
            case round =>
              clear H'
              try clear p1
              try clear q1
              try clear hx1
              try clear p2
              try clear c4
              try clear c5
              try clear c7
              try clear c7b0
              try clear c8
              try clear c8b0
              try clear c9
              try clear c9b0
              try clear hx189_0
              try clear p189
              try clear p2
              try clear q189
              obtain ⟨x6_2, x7_2, rfl, rfl, HA, HK2, HO_3, HO_10, HB⟩ := hrel
              cases gk with
              | zero => exact absurd HA.out (by simp [impl_pulses.l1])
              | succ k2 =>
                have H := HA.out
                clear HA
                simp only [impl_pulses.l1] at H
                by_cases c10 : x7_2 < (a0.size : Int)
                · rw [if_pos c10] at H
                  have c10b0 : decide (x7_2 < (a0.size : Int)) = true := decide_eq_true c10
                  clear c10
                  by_cases c11 : 0 ≤ x7_2
                  · rw [if_pos c11] at H
                    have c11b0 : decide (0 ≤ x7_2) = true := decide_eq_true c11
                    clear c11
                    by_cases c13 : (bt a0 x7_2) = 49
                    · rw [if_pos c13] at H
                      have c13b0 : ((bt a0 x7_2) == 49) = true := beq_iff_eq.mpr c13
                      have c13b1 : ((bt a0 x7_2) != 49) = false := bne_eq_false_iff_eq.mpr c13
                      clear c13
                      have H' := Aside0.mk H
                      clear H
                      have p12 : 0 ≤ (x7_2 : Int) := of_decide_eq_true (by first | (with_reducible assumption) | assumption)
                      have q12 : x7_2 < (a0.size : Int) := of_decide_eq_true (by first | (with_reducible assumption) | assumption)
                      have hx12 := bt_at a0 x7_2
                      replace p12 := eq_true p12
                      replace q12 := eq_true q12
                      go_wp2
                      go_roundg k2
                      case measure => have := HK1.out; have := HK2.out; omega
                      case rel => exact ⟨(wrap64 (x6_2 + 1)), (wrap64 (x7_2 + 1)), (by first | rfl | (simp; done) | (simp [*]; done)), (by first | rfl | (simp; done) | (simp [*]; done)), H', ⟨by have := HK1.out; have := HK2.out; omega⟩, ⟨by (with_reducible repeat (first | apply Kd.R_alloc | apply Kd.R_drewN | apply Kd.R_drew)); exact HO_3.out⟩, ⟨by (with_reducible repeat (first | apply Kd.R_alloc | apply Kd.R_drewN | apply Kd.R_drew)); exact HO_10.out⟩, ⟨by repeat (first | (with_reducible first | exact HB.out | apply below_alloc | apply pw_below_drewN | apply below_drew1) | exact HB.out)⟩⟩
                    · rw [if_neg c13] at H
                      have c13b0 : ((bt a0 x7_2) == 49) = false := beq_eq_false_iff_ne.mpr c13
                      have c13b1 : ((bt a0 x7_2) != 49) = true := bne_iff_ne.mpr c13
                      by_cases c14 : x3_1.length < 8796093022208
                      · rw [if_pos c14] at H
                        have LMc14 := Aside0.mk c14
                        clear c14
                        obtain ⟨y190, hy190⟩ : ∃ y_ : List (S61), y_ = (x3_1 ++ [(⟨(rd t186 x12_1), x6_2⟩ : S61)]) := ⟨_, rfl⟩
                        replace H : (impl_pulses.l0 k2 a0 y190 t186 (t186.length : Int) (wrap64 (x12_1 + 1))) = some r := by first | (rw [hy190]; with_reducible exact H) | (have H2_ := (Option.bind_some _ _).symm.trans H; rw [hy190]; with_reducible exact H2_) | (have H2_ := (Option.bind_some _ _).symm.trans H; with_reducible exact H2_) | with_reducible exact H | (rw [hy190]; exact H) | exact H
                        have Ny190 := Aside0.mk hy190
                        clear hy190
                        have H' := Aside0.mk H
                        clear H
                        have p12 : 0 ≤ (x7_2 : Int) := of_decide_eq_true (by first | (with_reducible assumption) | assumption)
                        have q12 : x7_2 < (a0.size : Int) := of_decide_eq_true (by first | (with_reducible assumption) | assumption)
                        have hx12 := bt_at a0 x7_2
                        replace p12 := eq_true p12
                        replace q12 := eq_true q12
                        go_wp2_with (first | ((with_reducible refine gate_builtin (b := .append) (xs := #[.tmp 31, .tmp 35]) rfl ?_); at_builtin; refine Kd.R_append k61 (w0 := w) w.heap.size rfl (.tmp 31) (.tmp 35) 58 61 (.agg #[(.int .i64 0), (.int .i64 0)]) 16 rfl Tryd.underlying58 info61 rfl (by decide) (by omega) u3 x3_1 (⟨(rd t186 x12_1), x6_2⟩ : S61) [.int .i64 (rd t186 x12_1), .int .i64 x6_2] (fun _ => True) (fun _ => False) rfl rfl ?aP (fun _ hk => hk.elim) ?aF ?aO ?aB ?aS ?aL ?_; (case aP => exact k61_mkM _ _ _ (⟨(rd t186 x12_1), x6_2⟩ : S61)); (case aB => exact (by repeat (first | (with_reducible first | exact HB.out | apply below_alloc | apply pw_below_drewN | apply below_drew1) | exact HB.out))); (case aF => exact (fun _ _ => trivial)); (case aO => exact (by (with_reducible repeat (first | apply Kd.R_alloc | apply Kd.R_drewN | apply Kd.R_drew)); exact HO_3.out)); (case aS => exact (below_size (by repeat (first | (with_reducible first | exact HB.out | apply below_alloc | apply pw_below_drewN | apply below_drew1) | exact HB.out)))); (case aL => have := LMc14.out; omega); intro v191 w15 ho hb hg hat; rw [← Ny190.out] at ho; have n0_ := Aside0.mk (Kd.R_over' (by (with_reducible repeat (first | apply Kd.R_alloc | apply Kd.R_drewN | apply Kd.R_drew)); exact HO_10.out) (Kd.R_typed (by (with_reducible repeat (first | apply Kd.R_alloc | apply Kd.R_drewN | apply Kd.R_drew)); exact HO_3.out)) (by decide) hg); have n1_ := Aside0.mk (hb); have n2_ := Aside0.mk (ho); clear HO_10; clear HB; clear HO_3; have HO_10 := n0_; have HB := n1_; have HO192 := n2_; clear n0_ n1_ n2_; clear ho hb hg hat))
                        go_roundg k2
                        case measure => have := HK1.out; have := HK2.out; omega
                        case rel => exact ⟨(y190), (wrap64 (x12_1 + 1)), (by first | rfl | (simp; done) | (simp [*]; done)), H', ⟨by have := HK1.out; have := HK2.out; omega⟩, ⟨by (with_reducible repeat (first | apply Kd.R_alloc | apply Kd.R_drewN | apply Kd.R_drew)); exact HO192.out⟩, ⟨by (with_reducible repeat (first | apply Kd.R_alloc | apply Kd.R_drewN | apply Kd.R_drew)); exact HO_10.out⟩, ⟨by repeat (first | (with_reducible first | exact HB.out | apply below_alloc | apply pw_below_drewN | apply below_drew1) | exact HB.out)⟩⟩
                      · rw [if_neg c14] at H
                        exact absurd H (by simp)
                  · rw [if_neg c11] at H
                    exact absurd H (by simp)
                · rw [if_neg c10] at H
                  have c10b0 : decide (x7_2 < (a0.size : Int)) = false := decide_eq_false c10
                  clear c10
                  by_cases c16 : x3_1.length < 8796093022208
                  · rw [if_pos c16] at H
                    have LMc16 := Aside0.mk c16
                    clear c16
                    obtain ⟨y193, hy193⟩ : ∃ y_ : List (S61), y_ = (x3_1 ++ [(⟨(rd t186 x12_1), x6_2⟩ : S61)]) := ⟨_, rfl⟩
                    replace H : (impl_pulses.l0 k2 a0 y193 t186 (t186.length : Int) (wrap64 (x12_1 + 1))) = some r := by first | (rw [hy193]; with_reducible exact H) | (have H2_ := (Option.bind_some _ _).symm.trans H; rw [hy193]; with_reducible exact H2_) | (have H2_ := (Option.bind_some _ _).symm.trans H; with_reducible exact H2_) | with_reducible exact H | (rw [hy193]; exact H) | exact H
                    have Ny193 := Aside0.mk hy193
                    clear hy193
                    have H' := Aside0.mk H
                    clear H
                    go_wp2_with (first | ((with_reducible refine gate_builtin (b := .append) (xs := #[.tmp 31, .tmp 35]) rfl ?_); at_builtin; refine Kd.R_append k61 (w0 := w) w.heap.size rfl (.tmp 31) (.tmp 35) 58 61 (.agg #[(.int .i64 0), (.int .i64 0)]) 16 rfl Tryd.underlying58 info61 rfl (by decide) (by omega) u3 x3_1 (⟨(rd t186 x12_1), x6_2⟩ : S61) [.int .i64 (rd t186 x12_1), .int .i64 x6_2] (fun _ => True) (fun _ => False) rfl rfl ?aP (fun _ hk => hk.elim) ?aF ?aO ?aB ?aS ?aL ?_; (case aP => exact k61_mkM _ _ _ (⟨(rd t186 x12_1), x6_2⟩ : S61)); (case aB => exact (by repeat (first | (with_reducible first | exact HB.out | apply below_alloc | apply pw_below_drewN | apply below_drew1) | exact HB.out))); (case aF => exact (fun _ _ => trivial)); (case aO => exact (by (with_reducible repeat (first | apply Kd.R_alloc | apply Kd.R_drewN | apply Kd.R_drew)); exact HO_3.out)); (case aS => exact (below_size (by repeat (first | (with_reducible first | exact HB.out | apply below_alloc | apply pw_below_drewN | apply below_drew1) | exact HB.out)))); (case aL => have := LMc16.out; omega); intro v194 w17 ho hb hg hat; rw [← Ny193.out] at ho; have n0_ := Aside0.mk (Kd.R_over' (by (with_reducible repeat (first | apply Kd.R_alloc | apply Kd.R_drewN | apply Kd.R_drew)); exact HO_10.out) (Kd.R_typed (by (with_reducible repeat (first | apply Kd.R_alloc | apply Kd.R_drewN | apply Kd.R_drew)); exact HO_3.out)) (by decide) hg); have n1_ := Aside0.mk (hb); have n2_ := Aside0.mk (ho); clear HO_10; clear HB; clear HO_3; have HO_10 := n0_; have HB := n1_; have HO195 := n2_; clear n0_ n1_ n2_; clear ho hb hg hat))
                    go_roundg k2
                    case measure => have := HK1.out; have := HK2.out; omega
                    case rel => exact ⟨(y193), (wrap64 (x12_1 + 1)), (by first | rfl | (simp; done) | (simp [*]; done)), H', ⟨by have := HK1.out; have := HK2.out; omega⟩, ⟨by (with_reducible repeat (first | apply Kd.R_alloc | apply Kd.R_drewN | apply Kd.R_drew)); exact HO195.out⟩, ⟨by (with_reducible repeat (first | apply Kd.R_alloc | apply Kd.R_drewN | apply Kd.R_drew)); exact HO_10.out⟩, ⟨by repeat (first | (with_reducible first | exact HB.out | apply below_alloc | apply pw_below_drewN | apply below_drew1) | exact HB.out)⟩⟩
                  · rw [if_neg c16] at H
                    exact absurd H (by simp)
          · rw [if_neg c9] at H
            exact absurd H (by simp)
        · rw [if_neg c8] at H
          exact absurd H (by simp)
      · rw [if_neg c7] at H
        have c7b0 : decide (x12_1 < (t186.length : Int)) = false := decide_eq_false c7
        clear c7
        obtain rfl := Option.some.inj H
        go_wp2
        go_ret
        exact ⟨_, by first | rfl | (simp [errW_none, errW_some] <;> rfl) | (simp [*, errW_none, errW_some] <;> rfl), by (with_reducible repeat (first | apply Kd.R_alloc | apply Kd.R_drewN | apply Kd.R_drew)); exact HO_3.out, by repeat (first | (with_reducible first | exact HB.out | apply below_alloc | apply pw_below_drewN | apply below_drew1) | exact HB.out)⟩
end Go.Proofs.YthkpnbelbaljdaaDoor.X
-- Written by a program of this session out of the kit's print of the loaded functions: a plain function of a Go function, and its contract.
namespace Go.Proofs.YthkpnbelbaljdaaDoor.X
open Go.RowKit Go.Proofs.YthkpnbelbaljdaaDoorW.PrintWords Go.Proofs.YthkpnbelbaljdaaDoorW.PrintLast Go.Proofs.YthkpnbelbaljdaaDoorW.PrintMore
attribute [local go_sem] max2_int min2_int max_two min_two max_three min_three max_four min_four   -- for this text's walks alone
set_option linter.unusedVariables false
set_option linter.unusedSimpArgs false
/-! ### spec_l07Pulses: function 83 -/
end Go.Proofs.YthkpnbelbaljdaaDoor.X
/- The pulses of a wave: what the program's and the reference's ways of finding them tell. Conditions: as each lemma says. -/
namespace Go.Proofs.YthkpnbelbaljdaaDoor.X
open Go.RowKit Go.Proofs.YthkpnbelbaljdaaDoorW.PrintWords Go.Proofs.YthkpnbelbaljdaaDoorW.PrintLast Go.Proofs.YthkpnbelbaljdaaDoorW.PrintMore
set_option linter.unusedVariables false
set_option linter.unusedSimpArgs false
/-- From u up to d, and no farther, a text's levels are high. -/
def Run (s : ByteArray) (u d : Int) : Prop := ∃ a b : Nat, u = a ∧ d = b ∧ a < b ∧ b ≤ s.size ∧ (∀ j : Nat, a ≤ j → j < b → bt s (j : Int) = 49) ∧ (b < s.size → bt s (b : Int) = 48)
def Runs (s : ByteArray) : List Int → List Int → Prop
  | [], [] => True
  | u :: us, d :: ds => Run s u d ∧ Runs s us ds
  | _, _ => False
theorem Runs.len {s : ByteArray} : ∀ {us ds : List Int}, Runs s us ds → us.length = ds.length
  | [], [], _ => rfl
  | _ :: _, _ :: _, h => by simp [Runs.len h.2]
  | [], _ :: _, h => h.elim
  | _ :: _, [], h => h.elim
theorem Runs.snoc {s : ByteArray} {u d : Int} (hr : Run s u d) : ∀ {us ds : List Int}, Runs s us ds → Runs s (us ++ [u]) (ds ++ [d])
  | [], [], _ => ⟨hr, trivial⟩
  | _ :: _, _ :: _, h => ⟨h.1, Runs.snoc hr h.2⟩
  | [], _ :: _, h => h.elim
  | _ :: _, [], h => h.elim
theorem runs_at (s : ByteArray) (hL : Lev s) : ∀ n : Nat, n ≤ s.size → (prv s n = 48 ∧ Runs s (edg s 49 n) (edg s 48 n)) ∨
    (prv s n = 49 ∧ ∃ (us : List Int) (a : Nat), edg s 49 n = us ++ [(a : Int)] ∧ Runs s us (edg s 48 n) ∧ a < n ∧ ∀ j : Nat, a ≤ j → j < n → bt s (j : Int) = 49)
  | 0, _ => .inl ⟨rfl, trivial⟩
  | n + 1, hn => by
    rw [prv_succ, edg_succ, edg_succ]
    rcases runs_at s hL n (by omega) with ⟨hp, hr⟩ | ⟨hp, us, a, he, hr, ha, hj⟩
    · rcases hL n (by omega) with hb | hb
      · have e1 : isE s 49 n = false := by unfold isE; rw [hb]; rfl
        have e2 : isE s 48 n = false := by unfold isE; rw [hb, hp]; rfl
        rw [e1, e2]; exact .inl ⟨hb, hr⟩
      · have e1 : isE s 49 n = true := by unfold isE; rw [hb, hp]; rfl
        have e2 : isE s 48 n = false := by unfold isE; rw [hb]; rfl
        rw [e1, e2]
        exact .inr ⟨hb, _, n, rfl, hr, by omega, fun j h1 h2 => by
          have : j = n := by omega
          rw [this]; exact hb⟩
    · rcases hL n (by omega) with hb | hb
      · have e1 : isE s 49 n = false := by unfold isE; rw [hb]; rfl
        have e2 : isE s 48 n = true := by unfold isE; rw [hb, hp]; rfl
        rw [e1, e2]
        refine .inl ⟨hb, ?_⟩
        rw [if_neg (by decide), if_pos rfl, he]
        exact Runs.snoc ⟨a, n, rfl, rfl, ha, by omega, hj, fun _ => hb⟩ hr
      · have e1 : isE s 49 n = false := by unfold isE; rw [hb, hp]; rfl
        have e2 : isE s 48 n = false := by unfold isE; rw [hb]; rfl
        rw [e1, e2]
        refine .inr ⟨hb, us, a, he, hr, by omega, fun j h1 h2 => ?_⟩
        rcases Nat.lt_or_ge j n with h | h
        · exact hj j h1 h
        · have : j = n := by omega
          rw [this]; exact hb
/-- Where the pulses of a text end. -/
def dns (s : ByteArray) : List Int := if (edg s 48 s.size).length < (edg s 49 s.size).length then edg s 48 s.size ++ [(s.size : Int)] else edg s 48 s.size
theorem runs_all (s : ByteArray) (hL : Lev s) : Runs s (edg s 49 s.size) (dns s) := by
  unfold dns
  rcases runs_at s hL s.size (Nat.le_refl _) with ⟨_, hr⟩ | ⟨_, us, a, he, hr, ha, hj⟩
  · rw [if_neg (by rw [hr.len]; omega)]; exact hr
  · have hl := hr.len
    rw [if_pos (by rw [he, ← hl]; simp), he]
    exact Runs.snoc ⟨a, s.size, rfl, rfl, ha, Nat.le_refl _, hj, fun h => absurd h (by omega)⟩ hr
/-- The pulses, each by its begin and its length. -/
def pz (us ds : List Int) : List S61 := List.zipWith (fun u d => (⟨u, d - u⟩ : S61)) us ds
theorem rd_mid (pre post : List Int) (x : Int) : rd (pre ++ x :: post) (pre.length : Int) = x := by
  rw [rd_nat _ _ (by simp)]; simp
theorem pulse_in (s : ByteArray) (hs : s.size ≤ 400) (out : List S61) (ho : out.length ≤ 1000) (a b : Nat) (l : List Int) (n : Int) (i : Nat) (hi : i ≤ 1000) (hab : b ≤ s.size) (hall : ∀ j : Nat, a ≤ j → j < b → bt s (j : Int) = 49) (hend : b < s.size → bt s (b : Int) = 48)
    (K : Nat) (v : Option (List S61)) (hv : ∀ k, K < k → impl_pulses.l0 k s (out ++ [(⟨(a : Int), (b : Int) - a⟩ : S61)]) l n ((i : Int) + 1) = v) : ∀ (d m k : Nat), a + m + d = b → K + d + 1 < k →
    impl_pulses.l1 k s out a m ((a : Int) + m) l n i = v
  | 0, m, k, hm, hk => by
    cases k with
    | zero => omega
    | succ k =>
      have e1 : (⟨(a : Int), (m : Int)⟩ : S61) = ⟨(a : Int), (b : Int) - a⟩ := by congr 1; omega
      have hv2 := hv k (by omega)
      rw [impl_pulses.l1, w64 (n := (i : Int) + 1) (by omega) (by omega), e1, if_pos (show out.length < 8796093022208 by omega)]
      by_cases h : (a : Int) + m < s.size
      · have hb := hend (by omega)
        rw [show (b : Int) = (a : Int) + m by omega] at hb
        rw [if_pos h, if_pos (by omega), hb, if_neg (by decide)]
        exact hv2
      · rw [if_neg h]; exact hv2
  | d + 1, m, k, hm, hk => by
    cases k with
    | zero => omega
    | succ k =>
      have hb := hall (a + m) (by omega) (by omega)
      rw [Int.natCast_add] at hb
      have ih := pulse_in s hs out ho a b l n i hi hab hall hend K v hv d (m + 1) k (by omega) (by omega)
      rw [impl_pulses.l1, if_pos (by omega), if_pos (by omega), hb, if_pos rfl, w64 (n := (m : Int) + 1) (by omega) (by omega), w64 (n := (a : Int) + m + 1) (by omega) (by omega)]
      rw [Int.natCast_add, Int.natCast_one, ← Int.add_assoc] at ih
      exact ih
theorem pulse_out (s : ByteArray) (hs : s.size ≤ 400) : ∀ (us ds pre : List Int) (out : List S61), Runs s us ds → out.length = pre.length → pre.length + us.length ≤ 400 →
    ∀ k, 500 * us.length + 1 < k → impl_pulses.l0 k s out (pre ++ us) ((pre ++ us).length : Int) (pre.length : Int) = some (out ++ pz us ds)
  | [], [], pre, out, _, ho, hl, k, hk => by
    cases k with
    | zero => omega
    | succ k => rw [impl_pulses.l0, if_neg (by simp)]; simp [pz]
  | u :: us, d :: ds, pre, out, hr, ho, hl, k, hk => by
    obtain ⟨⟨a, b, rfl, rfl, hab, hbs, hall, hend⟩, hr2⟩ := hr
    simp only [List.length_cons] at hl hk
    have key : ∀ k, 500 * us.length + 1 < k → impl_pulses.l0 k s (out ++ [(⟨(a : Int), (b : Int) - a⟩ : S61)]) (pre ++ (a : Int) :: us) ((pre ++ (a : Int) :: us).length : Int) ((pre.length : Int) + 1) = some (out ++ pz ((a : Int) :: us) ((b : Int) :: ds)) := by
      intro k hk
      have ih := pulse_out s hs us ds (pre ++ [(a : Int)]) (out ++ [(⟨(a : Int), (b : Int) - a⟩ : S61)]) hr2 (by simp [ho]) (by simp; omega) k hk
      simp only [List.append_assoc, List.singleton_append, List.length_append, List.length_cons, List.length_nil] at ih
      simp only [List.length_append, List.length_cons]
      have e : ((pre.length + (0 + 1) : Nat) : Int) = (pre.length : Int) + 1 := by omega
      rw [e] at ih
      rw [ih]; rfl
    cases k with
    | zero => omega
    | succ k =>
      have h := pulse_in s hs out (by omega) a b (pre ++ (a : Int) :: us) ((pre ++ (a : Int) :: us).length : Int) pre.length (by omega) hbs hall hend (500 * us.length + 1) _ key (b - a) 0 k (by omega) (by omega)
      rw [impl_pulses.l0, if_pos (by simp; omega), if_pos (by omega), if_pos (by simp; omega), rd_mid]
      simpa using h
  | [], _ :: _, _, _, hr, _, _, _, _ => hr.elim
  | _ :: _, [], _, _, hr, _, _, _, _ => hr.elim
theorem pulses_eq (k : Nat) (s : ByteArray) (hs : s.size ≤ 400) (hL : Lev s) (hk : 300000 < k) : impl_pulses.f k s = some (pz (edg s 49 s.size) (dns s)) := by
  unfold impl_pulses.f
  have hl := edg_len s 49 s.size
  rw [changes_eq k s 49 (by omega) (by omega), Option.bind_some]
  have := pulse_out s hs (edg s 49 s.size) (dns s) [] [] (runs_all s hL) rfl (by simp; omega) k (by omega)
  simpa using this
end Go.Proofs.YthkpnbelbaljdaaDoor.X
-- Written by a program of this session out of the kit's print of the loaded functions: a plain function of a Go function, and its contract.
namespace Go.Proofs.YthkpnbelbaljdaaDoor.X
open Go.RowKit Go.Proofs.YthkpnbelbaljdaaDoorW.PrintWords Go.Proofs.YthkpnbelbaljdaaDoorW.PrintLast Go.Proofs.YthkpnbelbaljdaaDoorW.PrintMore
attribute [local go_sem] max2_int min2_int max_two min_two max_three min_three max_four min_four   -- for this text's walks alone
set_option linter.unusedVariables false
set_option linter.unusedSimpArgs false
class C_impl_pulse_86 where
  f : Int → Int → Option Bool
section
variable [C_impl_pulse_86]
/-! ### impl_pulse_86: function 86 -/
def impl_pulse_86.l0 : Nat → List (S61) → Int → Int → Option (Int)
  | 0, _, _, _ => none
  | k + 1, x0, x7, x8 => if x8 < x7 then (if 0 ≤ x8 then (if x8 < (x0.length : Int) then ((C_impl_pulse_86.f ((rd_T61 x0 x8).f0) ((rd_T61 x0 x8).f1)).bind fun t197 => (if t197 = true then (some x8) else (impl_pulse_86.l0 k x0 x7 (wrap64 (x8 + 1))))) else (none)) else (none)) else (some (-1))
def impl_pulse_86.f (k : Nat) (l0 : List (S61)) (a1 : Int) : Option (Int) := impl_pulse_86.l0 k l0 (l0.length : Int) 0
set_option maxHeartbeats 8000000 in
set_option maxRecDepth 100000 in
theorem impl_pulse_86.calls (k : Nat) (A0 : Option Addr) (c0 : Nat) (l0 : List (S61)) (a1 : Int) (r : Int) (cf : Nat) (cfn : Func) (caps : Array Value) (hcf : CloIs Tryd.prog cf cfn) (w : World) (hcl : ∀ x0 x1 r W, C_impl_pulse_86.f x0 x1 = some r → Below w.heap.size w W → Calls Tryd.prog cf (#[.agg #[.int .i64 x0, .int .i64 x1]] ++ caps) W fun e w' => e = .returned (.bool r) ∧ Below W.heap.size W w') (hr0 : Kd.C k61 w A0 l0.length l0) (hc0 : l0.length ≤ c0) (h : impl_pulse_86.f k l0 a1 = some r) :
    Calls Tryd.prog 86 #[.slice A0 l0.length c0, .func (.func cf) #[] caps] w fun e w' => e = .returned (.int .i64 r) ∧ Below w.heap.size w w' := by
  have HCF := Aside0.mk hcf
  have HCL := Aside0.mk hcl
  clear hcf hcl
  have hu61 := Tryd.underlying61
  have HR0 := Aside0.mk hr0
  have HC0 := Aside0.mk hc0
  clear hr0 hc0
  have HB := Aside0.mk (Below.refl w.heap.size w)
  have H : (impl_pulse_86.l0 k l0 (l0.length : Int) 0) = some r := h
  clear h
  have H' := Aside0.mk H
  clear H
  go_enter Tryd.func86, Tryd.ntmps86
  go_wp2
  go_loopg [8] k (fun kq v8 w' => ∃ (x8_1 : Int), v8 = .int .i64 x8_1 ∧ Aside0 (impl_pulse_86.l0 kq l0 (l0.length : Int) x8_1 = some r) ∧ Aside0 (kq ≤ k) ∧ Aside0 (Below w.heap.size w w'))
  case atStart => exact ⟨(0), (by first | rfl | (simp; done) | (simp [*]; done)), H', ⟨Nat.le_refl _⟩, ⟨by repeat (first | (with_reducible first | exact HB.out | apply below_alloc | apply pw_below_drewN | apply below_drew1) | exact HB.out)⟩⟩
  case round =>
    clear H'
    try clear p2
    obtain ⟨x8_1, rfl, HA, HK1, HB⟩ := hrel
    cases gk with
    | zero => exact absurd HA.out (by simp [impl_pulse_86.l0])
    | succ k1 =>
      have H := HA.out
      clear HA
      simp only [impl_pulse_86.l0] at H
      by_cases c3 : x8_1 < (l0.length : Int)
      · rw [if_pos c3] at H
        have c3b0 : decide (x8_1 < (l0.length : Int)) = true := decide_eq_true c3
        clear c3
        by_cases c4 : 0 ≤ x8_1
        · rw [if_pos c4] at H
          have c4b0 : decide (0 ≤ x8_1) = true := decide_eq_true c4
          clear c4
          by_cases c5 : x8_1 < (l0.length : Int)
          · rw [if_pos c5] at H
            have c5b0 : decide (x8_1 < (l0.length : Int)) = true := decide_eq_true c5
            clear c5
            replace H := Option.bind_eq_some_iff.mp H
            obtain ⟨t197, A60, H⟩ := H
            replace H : (if t197 = true then (some x8_1) else (impl_pulse_86.l0 k1 l0 (l0.length : Int) (wrap64 (x8_1 + 1)))) = some r := H
            have A6 := Aside0.mk A60
            clear A60
            by_cases c7 : t197 = true
            · subst c7
              have H1 : (some x8_1) = some r := by rw [if_pos rfl] at H; exact H
              clear H
              have H := H1
              clear H1
              obtain rfl := Option.some.inj H
              have p196 : 0 ≤ (x8_1 : Int) := of_decide_eq_true (by first | (with_reducible assumption) | assumption)
              have q196 : x8_1 < (l0.length : Int) := of_decide_eq_true (by first | (with_reducible assumption) | assumption)
              obtain ⟨ad196, e196, hx196_0, hx196_1⟩ := at_T61 HR0.out x8_1 p196 q196
              cases e196
              replace hx196_0 := (HB.out.cell (World.block_lt_of_cell? w _ hx196_0)).trans hx196_0
              replace hx196_1 := (HB.out.cell (World.block_lt_of_cell? w _ hx196_1)).trans hx196_1
              replace p196 := eq_true p196
              replace q196 := eq_true q196
              go_wp2_with (first | ((with_reducible refine gate_dst (N := 16) rfl ?_); refine goesV_ (some 16) rfl rfl HCF.out.hf HCF.out.hname HCF.out.hb #[.agg #[.int .i64 ((rd_T61 l0 x8_1).f0), .int .i64 ((rd_T61 l0 x8_1).f1)]] rfl rfl (by (try simp only [List.map_toArray, List.map_cons, List.map_nil]); first | done | rfl | (simp only [List.length_drop, List.length_take]; rfl)) ?_; (refine (HCL.out ((rd_T61 l0 x8_1).f0) ((rd_T61 l0 x8_1).f1) true _ A6.out (by repeat (first | (with_reducible first | exact HB.out | apply below_alloc | apply pw_below_drewN | apply below_drew1) | exact HB.out | exact Below.refl _ _))).mono ?_); rintro e w8 ⟨rfl, hb⟩; refine ⟨_, rfl, ?_⟩; have n0_ := Aside0.mk (below_step (by repeat (first | (with_reducible first | exact HB.out | apply below_alloc | apply pw_below_drewN | apply below_drew1) | exact HB.out)) hb); clear HB; have HB := n0_; clear n0_; (try clear hb); (try clear hb2); (try clear hk); (try clear hi)))
              go_ret
              exact ⟨by first | rfl | (simp [errW_none, errW_some] <;> rfl) | (simp [*, errW_none, errW_some] <;> rfl), by repeat (first | (with_reducible first | exact HB.out | apply below_alloc | apply pw_below_drewN | apply below_drew1) | exact HB.out)⟩
            · replace c7 := Bool.eq_false_iff.mpr c7
              subst c7
              have H1 : (impl_pulse_86.l0 k1 l0 (l0.length : Int) (wrap64 (x8_1 + 1))) = some r := by rw [if_neg (show ¬ (false = true) by decide)] at H; exact H
              clear H
              have H := H1
              clear H1
              have H' := Aside0.mk H
              clear H
              have p196 : 0 ≤ (x8_1 : Int) := of_decide_eq_true (by first | (with_reducible assumption) | assumption)
              have q196 : x8_1 < (l0.length : Int) := of_decide_eq_true (by first | (with_reducible assumption) | assumption)
              obtain ⟨ad196, e196, hx196_0, hx196_1⟩ := at_T61 HR0.out x8_1 p196 q196
              cases e196
              replace hx196_0 := (HB.out.cell (World.block_lt_of_cell? w _ hx196_0)).trans hx196_0
              replace hx196_1 := (HB.out.cell (World.block_lt_of_cell? w _ hx196_1)).trans hx196_1
              replace p196 := eq_true p196
              replace q196 := eq_true q196
              go_wp2_with (first | ((with_reducible refine gate_dst (N := 16) rfl ?_); refine goesV_ (some 16) rfl rfl HCF.out.hf HCF.out.hname HCF.out.hb #[.agg #[.int .i64 ((rd_T61 l0 x8_1).f0), .int .i64 ((rd_T61 l0 x8_1).f1)]] rfl rfl (by (try simp only [List.map_toArray, List.map_cons, List.map_nil]); first | done | rfl | (simp only [List.length_drop, List.length_take]; rfl)) ?_; (refine (HCL.out ((rd_T61 l0 x8_1).f0) ((rd_T61 l0 x8_1).f1) false _ A6.out (by repeat (first | (with_reducible first | exact HB.out | apply below_alloc | apply pw_below_drewN | apply below_drew1) | exact HB.out | exact Below.refl _ _))).mono ?_); rintro e w9 ⟨rfl, hb⟩; refine ⟨_, rfl, ?_⟩; have n0_ := Aside0.mk (below_step (by repeat (first | (with_reducible first | exact HB.out | apply below_alloc | apply pw_below_drewN | apply below_drew1) | exact HB.out)) hb); clear HB; have HB := n0_; clear n0_; (try clear hb); (try clear hb2); (try clear hk); (try clear hi)))
              go_roundg k1
              case measure => have := HK1.out; omega
              case rel => exact ⟨(wrap64 (x8_1 + 1)), (by first | rfl | (simp; done) | (simp [*]; done)), H', ⟨by have := HK1.out; omega⟩, ⟨by repeat (first | (with_reducible first | exact HB.out | apply below_alloc | apply pw_below_drewN | apply below_drew1) | exact HB.out)⟩⟩
          · rw [if_neg c5] at H
            exact absurd H (by simp)
        · rw [if_neg c4] at H
          exact absurd H (by simp)
      · rw [if_neg c3] at H
        have c3b0 : decide (x8_1 < (l0.length : Int)) = false := decide_eq_false c3
        clear c3
        obtain rfl := Option.some.inj H
        go_wp2
        go_ret
        exact ⟨by first | rfl | (simp [errW_none, errW_some] <;> rfl) | (simp [*, errW_none, errW_some] <;> rfl), by repeat (first | (with_reducible first | exact HB.out | apply below_alloc | apply pw_below_drewN | apply below_drew1) | exact HB.out)⟩
end
end Go.Proofs.YthkpnbelbaljdaaDoor.X
/- The program's IsClean: what it answers. Conditions: texts not past the reach. -/
namespace Go.Proofs.YthkpnbelbaljdaaDoor.X
open Go.RowKit Go.Proofs.YthkpnbelbaljdaaDoorW.PrintWords Go.Proofs.YthkpnbelbaljdaaDoorW.PrintLast Go.Proofs.YthkpnbelbaljdaaDoorW.PrintMore
set_option linter.unusedVariables false
set_option linter.unusedSimpArgs false
theorem eqP (d : Nat) (w : World) (x0 y0 x1 y1 : Int) : (Op.equalIn (d + 2) 61 (.agg #[.int .i64 x0, .int .i64 x1]) (.agg #[.int .i64 y0, .int .i64 y1])).run Tryd.prog w = .ok (x0 == y0 && (x1 == y1)) w := by
  refine eqA_of Tryd.underlying61 (by kernel_rfl) ?_
  refine eqf_cons (by rfl) (by go_simp; rfl) (by go_simp; rfl) (by go_simp) ?_
  exact eqf_last (by rfl) (by go_simp; rfl) (by go_simp; rfl) (by go_simp)
/-- What IsClean asks of a pulse of one of the clocks. -/
def samePulse (p0 p1 : Int) (tl : Bool) (q0 q1 : Int) : Bool := (q0 == p0 && q1 == p1) || (tl && q0 == p0)
set_option maxHeartbeats 4000000 in
set_option maxRecDepth 100000 in
theorem CleanClo (q0 q1 p0 p1 : Int) (tl : Bool) (g1 g2 : Nat) (w : World) (b1 : w.heap[g1]? = some (.cells #[.int .i64 p0, .int .i64 p1] 61 (0, 0))) (b2 : w.heap[g2]? = some (.cells #[.bool tl] 4 (0, 0))) :
    Calls Tryd.prog 57 #[.agg #[.int .i64 q0, .int .i64 q1], .pointer (some ⟨g1, 0, none⟩), .pointer (some ⟨g2, 0, none⟩)] w fun e w' => e = .returned (.bool (samePulse p0 p1 tl q0 q1)) ∧ Below w.heap.size w w' := by
  have B1 := Aside0.mk b1
  have B2 := Aside0.mk b2
  have HB := Aside0.mk (Below.refl w.heap.size w)
  clear b1 b2
  have heq := fun (d : Nat) (W : World) => eqP d W q0 p0 q1 p1
  cases h0 : (q0 == p0) with
  | true =>
    cases h1 : (q1 == p1) with
    | true =>
      have hv : Aside0 (samePulse p0 p1 tl q0 q1 = true) := ⟨by unfold samePulse; rw [h0, h1]; rfl⟩
      rw [h0, h1] at heq
      clear h0 h1
      go_enter Tryd.func57, Tryd.ntmps57
      go_wp2_with (((with_reducible refine gate_dst (N := 3) rfl ?_); refine box_event ?hg (N := 3) ?hd (cs := #[.int .i64 q0, .int .i64 q1]) (t := 61) ?hr ?_; (case hd => rfl); (case hg => rfl); (case hr => first | (go_simp; done) | (go_simp; rfl)); intro g3 hg wn hbox hb; have n0_ := Aside0.mk (below_step HB.out hb); clear HB; have HB := n0_; clear n0_; have k0 := blk_cell hbox 0; have k1 := blk_cell hbox 1; have c30 : wn.cell? ⟨g3, 0, none⟩ = some (.int .i64 q0) := k0.trans rfl; have c31 : wn.cell? ⟨g3, 1, none⟩ = some (.int .i64 q1) := k1.trans rfl; have c10 : wn.cell? ⟨g1, 0, none⟩ = some (.int .i64 p0) := (blk_cell (blk_below B1.out hb) 0).trans rfl; have c11 : wn.cell? ⟨g1, 1, none⟩ = some (.int .i64 p1) := (blk_cell (blk_below B1.out hb) 1).trans rfl; have c20 : wn.cell? ⟨g2, 0, none⟩ = some (.bool tl) := (blk_cell (blk_below B2.out hb) 0).trans rfl; clear k0 k1 hb hg hbox))
      go_ret
      rw [hv.out]
      exact ⟨rfl, HB.out⟩
    | false =>
      cases tl with
      | true =>
        have hv : Aside0 (samePulse p0 p1 true q0 q1 = true) := ⟨by unfold samePulse; rw [h0, h1]; rfl⟩
        rw [h0, h1, Bool.and_false] at heq
        have hq : (q0 = p0) = True := eq_true (beq_iff_eq.1 h0)
        have hq2 : (q0 == p0) = true := h0
        clear h0 h1
        go_enter Tryd.func57, Tryd.ntmps57
        go_wp2_with (((with_reducible refine gate_dst (N := 3) rfl ?_); refine box_event ?hg (N := 3) ?hd (cs := #[.int .i64 q0, .int .i64 q1]) (t := 61) ?hr ?_; (case hd => rfl); (case hg => rfl); (case hr => first | (go_simp; done) | (go_simp; rfl)); intro g3 hg wn hbox hb; have n0_ := Aside0.mk (below_step HB.out hb); clear HB; have HB := n0_; clear n0_; have k0 := blk_cell hbox 0; have k1 := blk_cell hbox 1; have c30 : wn.cell? ⟨g3, 0, none⟩ = some (.int .i64 q0) := k0.trans rfl; have c31 : wn.cell? ⟨g3, 1, none⟩ = some (.int .i64 q1) := k1.trans rfl; have c10 : wn.cell? ⟨g1, 0, none⟩ = some (.int .i64 p0) := (blk_cell (blk_below B1.out hb) 0).trans rfl; have c11 : wn.cell? ⟨g1, 1, none⟩ = some (.int .i64 p1) := (blk_cell (blk_below B1.out hb) 1).trans rfl; have c20 : wn.cell? ⟨g2, 0, none⟩ = some (.bool true) := (blk_cell (blk_below B2.out hb) 0).trans rfl; clear k0 k1 hb hg hbox))
        go_ret
        rw [hv.out]
        exact ⟨by first | rfl | simp [hq], HB.out⟩
      | false =>
        have hv : Aside0 (samePulse p0 p1 false q0 q1 = false) := ⟨by unfold samePulse; rw [h0, h1]; rfl⟩
        rw [h0, h1, Bool.and_false] at heq
        clear h0 h1
        go_enter Tryd.func57, Tryd.ntmps57
        go_wp2_with (((with_reducible refine gate_dst (N := 3) rfl ?_); refine box_event ?hg (N := 3) ?hd (cs := #[.int .i64 q0, .int .i64 q1]) (t := 61) ?hr ?_; (case hd => rfl); (case hg => rfl); (case hr => first | (go_simp; done) | (go_simp; rfl)); intro g3 hg wn hbox hb; have n0_ := Aside0.mk (below_step HB.out hb); clear HB; have HB := n0_; clear n0_; have k0 := blk_cell hbox 0; have k1 := blk_cell hbox 1; have c30 : wn.cell? ⟨g3, 0, none⟩ = some (.int .i64 q0) := k0.trans rfl; have c31 : wn.cell? ⟨g3, 1, none⟩ = some (.int .i64 q1) := k1.trans rfl; have c10 : wn.cell? ⟨g1, 0, none⟩ = some (.int .i64 p0) := (blk_cell (blk_below B1.out hb) 0).trans rfl; have c11 : wn.cell? ⟨g1, 1, none⟩ = some (.int .i64 p1) := (blk_cell (blk_below B1.out hb) 1).trans rfl; have c20 : wn.cell? ⟨g2, 0, none⟩ = some (.bool false) := (blk_cell (blk_below B2.out hb) 0).trans rfl; clear k0 k1 hb hg hbox))
        go_ret
        rw [hv.out]
        exact ⟨rfl, HB.out⟩
  | false =>
    have hv : Aside0 (samePulse p0 p1 tl q0 q1 = false) := ⟨by unfold samePulse; rw [h0]; simp⟩
    rw [h0, Bool.false_and] at heq
    cases tl with
    | true =>
      have hq : (q0 = p0) = False := eq_false (beq_eq_false_iff_ne.1 h0)
      have hq2 : (q0 == p0) = false := h0
      go_enter Tryd.func57, Tryd.ntmps57
      go_wp2_with (((with_reducible refine gate_dst (N := 3) rfl ?_); refine box_event ?hg (N := 3) ?hd (cs := #[.int .i64 q0, .int .i64 q1]) (t := 61) ?hr ?_; (case hd => rfl); (case hg => rfl); (case hr => first | (go_simp; done) | (go_simp; rfl)); intro g3 hg wn hbox hb; have n0_ := Aside0.mk (below_step HB.out hb); clear HB; have HB := n0_; clear n0_; have k0 := blk_cell hbox 0; have k1 := blk_cell hbox 1; have c30 : wn.cell? ⟨g3, 0, none⟩ = some (.int .i64 q0) := k0.trans rfl; have c31 : wn.cell? ⟨g3, 1, none⟩ = some (.int .i64 q1) := k1.trans rfl; have c10 : wn.cell? ⟨g1, 0, none⟩ = some (.int .i64 p0) := (blk_cell (blk_below B1.out hb) 0).trans rfl; have c11 : wn.cell? ⟨g1, 1, none⟩ = some (.int .i64 p1) := (blk_cell (blk_below B1.out hb) 1).trans rfl; have c20 : wn.cell? ⟨g2, 0, none⟩ = some (.bool true) := (blk_cell (blk_below B2.out hb) 0).trans rfl; clear k0 k1 hb hg hbox))
      go_ret
      rw [hv.out]
      exact ⟨by first | rfl | simp [hq], HB.out⟩
    | false =>
      clear h0
      go_enter Tryd.func57, Tryd.ntmps57
      go_wp2_with (((with_reducible refine gate_dst (N := 3) rfl ?_); refine box_event ?hg (N := 3) ?hd (cs := #[.int .i64 q0, .int .i64 q1]) (t := 61) ?hr ?_; (case hd => rfl); (case hg => rfl); (case hr => first | (go_simp; done) | (go_simp; rfl)); intro g3 hg wn hbox hb; have n0_ := Aside0.mk (below_step HB.out hb); clear HB; have HB := n0_; clear n0_; have k0 := blk_cell hbox 0; have k1 := blk_cell hbox 1; have c30 : wn.cell? ⟨g3, 0, none⟩ = some (.int .i64 q0) := k0.trans rfl; have c31 : wn.cell? ⟨g3, 1, none⟩ = some (.int .i64 q1) := k1.trans rfl; have c10 : wn.cell? ⟨g1, 0, none⟩ = some (.int .i64 p0) := (blk_cell (blk_below B1.out hb) 0).trans rfl; have c11 : wn.cell? ⟨g1, 1, none⟩ = some (.int .i64 p1) := (blk_cell (blk_below B1.out hb) 1).trans rfl; have c20 : wn.cell? ⟨g2, 0, none⟩ = some (.bool false) := (blk_cell (blk_below B2.out hb) 0).trans rfl; clear k0 k1 hb hg hbox))
      go_ret
      rw [hv.out]
      exact ⟨rfl, HB.out⟩
set_option maxHeartbeats 4000000 in
set_option maxRecDepth 100000 in
theorem hasPul [C_impl_pulse_86] (k : Nat) (A : Option Addr) (c : Nat) (l : List S61) (r : Int) (cf : Nat) (cfn : Func) (caps : Array Value) (hcf : CloIs Tryd.prog cf cfn) (w : World)
    (hcl : ∀ x0 x1 r W, C_impl_pulse_86.f x0 x1 = some r → Below w.heap.size w W → Calls Tryd.prog cf (#[.agg #[.int .i64 x0, .int .i64 x1]] ++ caps) W fun e w' => e = .returned (.bool r) ∧ Below W.heap.size W w')
    (hr : Kd.C k61 w A l.length l) (hc : l.length ≤ c) (h : impl_pulse_86.f k l 0 = some r) :
    Calls Tryd.prog 56 #[.slice A l.length c, .func (.func cf) #[] caps] w fun e w' => e = .returned (.bool (decide (r ≥ 0))) ∧ Below w.heap.size w w' := by
  have H := Aside0.mk h
  have HR := Aside0.mk hr
  have HC := Aside0.mk hc
  have HF := Aside0.mk hcf
  have HL := Aside0.mk hcl
  clear h hr hc hcf hcl
  have HB := Aside0.mk (Below.refl w.heap.size w)
  go_enter Tryd.func56, Tryd.ntmps56
  go_wp2_with (first
    | (go_at_call 86; refine (impl_pulse_86.calls k A c l 0 r cf cfn caps HF.out _ HL.out HR.out HC.out H.out).mono ?_; rintro e wn ⟨rfl, hb⟩; have n0_ := Aside0.mk (below_step HB.out hb); clear HB hb; have HB := n0_; clear n0_))
  go_ret
  exact ⟨rfl, HB.out⟩
abbrev cleanC (p0 p1 : Int) (tl : Bool) : C_impl_pulse_86 := ⟨fun q0 q1 => some (samePulse p0 p1 tl q0 q1)⟩
theorem clean_cl (p0 p1 : Int) (tl : Bool) (g1 g2 : Nat) (W0 : World) (b1 : W0.heap[g1]? = some (.cells #[.int .i64 p0, .int .i64 p1] 61 (0, 0))) (b2 : W0.heap[g2]? = some (.cells #[.bool tl] 4 (0, 0))) :
    ∀ x0 x1 r W, (cleanC p0 p1 tl).f x0 x1 = some r → Below W0.heap.size W0 W → Calls Tryd.prog 57 (#[.agg #[.int .i64 x0, .int .i64 x1]] ++ #[.pointer (some ⟨g1, 0, none⟩), .pointer (some ⟨g2, 0, none⟩)]) W fun e w' => e = .returned (.bool r) ∧ Below W.heap.size W w' := by
  intro x0 x1 r W hx hW
  obtain rfl := Option.some.inj hx
  exact CleanClo x0 x1 p0 p1 tl g1 g2 W (blk_below b1 hW) (blk_below b2 hW)
theorem index_pul (p0 p1 : Int) (tl : Bool) (l : List S61) (hl : l.length ≤ 10000) : ∀ (d k i : Nat), i + d = l.length → d < k →
    ∃ v : Int, @impl_pulse_86.l0 (cleanC p0 p1 tl) k l l.length i = some v ∧ (v ≥ 0 ↔ ∃ q ∈ l.drop i, samePulse p0 p1 tl q.f0 q.f1 = true)
  | 0, k, i, hi, hk => by
    cases k with
    | zero => omega
    | succ k =>
      refine ⟨-1, by rw [@impl_pulse_86.l0.eq_2 (cleanC p0 p1 tl), if_neg (by omega)], ?_⟩
      rw [List.drop_eq_nil_of_le (by omega)]; simp
  | d + 1, k, i, hi, hk => by
    cases k with
    | zero => omega
    | succ k =>
      obtain ⟨v, hv, hm⟩ := index_pul p0 p1 tl l hl d k (i + 1) (by omega) (by omega)
      have hi2 : i < l.length := by omega
      have e : rd_T61 l (i : Int) = l[i] := by unfold rd_T61; simp [hi2]
      have hp : (cleanC p0 p1 tl).f l[i].f0 l[i].f1 = some (samePulse p0 p1 tl l[i].f0 l[i].f1) := rfl
      rw [@impl_pulse_86.l0.eq_2 (cleanC p0 p1 tl), if_pos (by omega), if_pos (by omega), if_pos (by omega), w64 (by omega) (by omega), e, hp, Option.bind_some]
      rw [Int.natCast_add, Int.natCast_one] at hv
      by_cases h : samePulse p0 p1 tl l[i].f0 l[i].f1 = true
      · rw [if_pos h]; exact ⟨i, rfl, by rw [List.drop_eq_getElem_cons hi2]; exact ⟨fun _ => ⟨_, List.mem_cons_self, h⟩, fun _ => by omega⟩⟩
      · rw [if_neg h]
        refine ⟨v, hv, ?_⟩
        rw [hm, List.drop_eq_getElem_cons hi2]
        constructor
        · rintro ⟨x, hx, h2⟩; exact ⟨x, List.mem_cons_of_mem _ hx, h2⟩
        · rintro ⟨x, hx, h2⟩
          rcases List.mem_cons.1 hx with rfl | hx
          · exact absurd h2 h
          · exact ⟨x, hx, h2⟩
/-- Whether a pulse is one of the clocks'. -/
def oneOf (n : Int) (both : List S61) (p : S61) : Bool := both.any fun q => samePulse p.f0 p.f1 (p.f0 + p.f1 == n) q.f0 q.f1
theorem oneOf_index (n : Int) (both : List S61) (p : S61) (hl : both.length ≤ 10000) : ∃ v : Int, @impl_pulse_86.f (cleanC p.f0 p.f1 (p.f0 + p.f1 == n)) 20000 both 0 = some v ∧ decide (v ≥ 0) = oneOf n both p := by
  obtain ⟨v, hv, hiff⟩ := index_pul p.f0 p.f1 (p.f0 + p.f1 == n) both hl both.length 20000 0 (by omega) (by omega)
  refine ⟨v, hv, ?_⟩
  unfold oneOf
  rw [Bool.eq_iff_iff, decide_eq_true_eq, hiff, List.any_eq_true, List.drop_zero]
theorem areW_three {s z y : ByteArray} (h : impl_areWaves.f [s, z, y] = some true) : s.size ≤ 400 ∧ Lev s ∧ z.size = s.size ∧ Lev z ∧ y.size = s.size ∧ Lev y := by
  unfold impl_areWaves.f at h
  split at h
  · have h := Option.some.inj h
    unfold areW badW at h
    simp only [List.headD_cons, List.any_cons, List.any_nil, Bool.or_false, Bool.not_eq_true', Bool.or_eq_false_iff, Bool.not_eq_false', decide_eq_true_eq] at h
    exact ⟨((isW_iff s).1 h.1.1).1, ((isW_iff s).1 h.1.1).2, of_decide_eq_true h.2.1.2, ((isW_iff z).1 h.2.1.1).2, of_decide_eq_true h.2.2.2, ((isW_iff y).1 h.2.2.1).2⟩
  · cases h
set_option maxHeartbeats 4000000 in
set_option maxRecDepth 100000 in
theorem Clean_no (o a b : ByteArray) (w : World) (h1 : impl_areWaves.f [o, a, b] = some false) :
    Calls Tryd.prog 14 #[.string o, .string a, .string b] w fun e w' => e = .returned (.bool false) ∧ Below w.heap.size w w' := by
  have Hh1 := Aside0.mk h1
  clear h1
  have HB := Aside0.mk (Below.refl w.heap.size w)
  obtain ⟨ls, hls⟩ : ∃ ls : List ByteArray, ls = [o, a, b] := ⟨_, rfl⟩
  have NL := Aside0.mk hls
  clear hls
  go_enter Tryd.func14, Tryd.ntmps14
  go_wp2_with (first
    | ((with_reducible refine gate_dst (N := 14) rfl ?_); refine Kd.R_lit Kd.string _ 9 ?hg (N := 14) ?hd (xs := ([o, a, b] : List ByteArray)) (inner := [.string o, .string a, .string b]) (ok := fun _ => True) (okp := fun _ => True) ?hr ?hp (fun _ hk => hk) trivial (Below.refl _ _) (Nat.le_refl _) (by simp) ?_; (case hd => rfl); (case hg => rfl); (case hr => first | (go_simp; done) | (go_simp; rfl)); (case hp => exact (Reps.one rfl (Reps.one rfl (Reps.one rfl (Reps.none _ _))))); intro vl wn hol hb hg_ hnew_; clear hg_ hnew_; rw [← NL.out] at hol; obtain ⟨Al, cl, el⟩ := Kd.R_slice hol; subst el; have HL := Aside0.mk hol; clear hol; have n0_ := Aside0.mk (below_step HB.out hb); clear HB hb; have HB := n0_; clear n0_)
    | (go_at_call 47; (with_reducible refine (impl_areWaves.calls Al cl ls false _ (Kd.R_reads' HL.out).2.2 (Kd.R_reads' HL.out).2.1 (by rw [NL.out]; exact Hh1.out)).mono ?_); rintro e wn ⟨rfl, hb⟩; clear HL; have n0_ := Aside0.mk (below_step HB.out hb); clear HB hb; have HB := n0_; clear n0_))
  go_ret
  exact ⟨rfl, HB.out⟩
set_option maxHeartbeats 8000000 in
set_option maxRecDepth 100000 in
theorem Clean_yes (o a b : ByteArray) (po pa pb : List S61) (k : Nat) (w : World) (h1 : impl_areWaves.f [o, a, b] = some true) (h2 : impl_pulses.f k o = some po) (h3 : impl_pulses.f k a = some pa) (h4 : impl_pulses.f k b = some pb) (l1 : po.length ≤ 400) (l2 : pa.length ≤ 400) (l3 : pb.length ≤ 400)
    (hin : ∀ p ∈ po, ∃ x n : Nat, p = ⟨(x : Int), (n : Int)⟩ ∧ x + n ≤ o.size) :
    Calls Tryd.prog 14 #[.string o, .string a, .string b] w fun e w' => e = .returned (.bool (po.all (oneOf o.size (pa ++ pb)))) ∧ Below w.heap.size w w' := by
  obtain ⟨hs, _⟩ := areW_three h1
  have Hh1 := Aside0.mk h1
  have H2 := Aside0.mk h2
  have H3 := Aside0.mk h3
  have H4 := Aside0.mk h4
  have HIN := Aside0.mk hin
  clear h1 h2 h3 h4 hin
  have HB := Aside0.mk (Below.refl w.heap.size w)
  obtain ⟨ls, hls⟩ : ∃ ls : List ByteArray, ls = [o, a, b] := ⟨_, rfl⟩
  have NL := Aside0.mk hls
  clear hls
  obtain ⟨both, hbo⟩ : ∃ both, both = pa ++ pb := ⟨_, rfl⟩
  have hbl : both.length ≤ 10000 := by rw [hbo, List.length_append]; omega
  have NB := Aside0.mk hbo
  rw [← hbo]
  clear hbo
  go_enter Tryd.func14, Tryd.ntmps14
  go_wp2_with (first
    | ((with_reducible refine gate_dst (N := 14) rfl ?_); refine Kd.R_lit Kd.string _ 9 ?hg (N := 14) ?hd (xs := ([o, a, b] : List ByteArray)) (inner := [.string o, .string a, .string b]) (ok := fun _ => True) (okp := fun _ => True) ?hr ?hp (fun _ hk => hk) trivial (Below.refl _ _) (Nat.le_refl _) (by simp) ?_; (case hd => rfl); (case hg => rfl); (case hr => first | (go_simp; done) | (go_simp; rfl)); (case hp => exact (Reps.one rfl (Reps.one rfl (Reps.one rfl (Reps.none _ _))))); intro vl wn hol hb hg_ hnew_; clear hg_ hnew_; rw [← NL.out] at hol; obtain ⟨Al, cl, el⟩ := Kd.R_slice hol; subst el; have HL := Aside0.mk hol; clear hol; have n0_ := Aside0.mk (below_step HB.out hb); clear HB hb; have HB := n0_; clear n0_)
    | (go_at_call 47; (with_reducible refine (impl_areWaves.calls Al cl ls true _ (Kd.R_reads' HL.out).2.2 (Kd.R_reads' HL.out).2.1 (by rw [NL.out]; exact Hh1.out)).mono ?_); rintro e wn ⟨rfl, hb⟩; clear HL; have n0_ := Aside0.mk (below_step HB.out hb); clear HB hb; have HB := n0_; clear n0_)
    | (go_at_call 55; (with_reducible refine (impl_pulses.calls k a pa _ H3.out).mono ?_); rintro e w3 ⟨v3, rfl, ho, hb⟩; obtain ⟨A3, c3, e3⟩ := Kd.R_slice ho; subst e3; have R3 := Aside0.mk (Kd.R_reads' ho).2.2; have n0_ := Aside0.mk (below_step HB.out hb); clear HB hb ho; have HB := n0_; clear n0_)
    | (go_at_call 55; (with_reducible refine (impl_pulses.calls k b pb _ H4.out).mono ?_); rintro e w4 ⟨v4, rfl, ho, hb⟩; obtain ⟨A4, c4, e4⟩ := Kd.R_slice ho; subst e4; have R4 := Aside0.mk (Kd.R_reads' ho).2.2; have n1_ := Aside0.mk (Kd.C_below R3.out hb); have n0_ := Aside0.mk (below_step HB.out hb); clear HB R3 hb ho; have HB := n0_; have R3 := n1_; clear n0_ n1_)
    | (go_at_call 54; (with_reducible refine (slices_Concat_pulse_pair ⟨w4.heap.size, 0, none⟩ 2 c3 c4 A3 A4 pa pb (by omega) (by omega) _ ?k0 ?k1 ?r1 ?r2).mono ?_); (case k0 => exact (blk_cell (blk_new w4 _) 0).trans rfl); (case k1 => rw [add_plain]; exact (blk_cell (blk_new w4 _) 1).trans rfl); (case r1 => exact Kd.C_alloc R3.out _); (case r2 => exact Kd.C_alloc R4.out _); rintro e w5 ⟨v5, rfl, ho, hb⟩; rw [← NB.out] at ho; obtain ⟨A5, c5, e5⟩ := Kd.R_slice ho; subst e5; have R5 := Aside0.mk (Kd.R_reads' ho).2.2; have C5 := Aside0.mk (Kd.R_reads' ho).2.1; have n0_ := Aside0.mk (below_step (below_alloc HB.out _) hb); clear HB R3 R4 hb ho; have HB := n0_; clear n0_)
    | (go_at_call 55; (with_reducible refine (impl_pulses.calls k o po _ H2.out).mono ?_); rintro e w6 ⟨v6, rfl, ho, hb⟩; obtain ⟨A6, c6, e6⟩ := Kd.R_slice ho; subst e6; have R6 := Aside0.mk (Kd.R_reads' ho).2.2; have n1_ := Aside0.mk (Kd.C_below R5.out hb); have n0_ := Aside0.mk (below_step HB.out hb); clear HB R5 hb ho; have HB := n0_; have R5 := n1_; clear n0_ n1_))
  clear H2 H3 H4 Hh1 NL NB
  go_loopg [26] po.length (fun kq v26 wr => ∃ i : Nat, v26 = .int .i64 (i : Int) ∧ Aside0 (i + kq = po.length) ∧ Aside0 (po.all (oneOf o.size both) = (po.drop i).all (oneOf o.size both)) ∧ Aside0 (Kd.C k61 wr A6 po.length po) ∧ Aside0 (Kd.C k61 wr A5 both.length both) ∧ Aside0 (Below w.heap.size w wr))
  case atStart => exact ⟨0, rfl, ⟨by omega⟩, ⟨by rw [List.drop_zero]⟩, R6, R5, HB⟩
  case round =>
    clear R6 R5 HB
    obtain ⟨i, rfl, HE, HA, R6, R5, HB⟩ := hrel
    by_cases hlt : i < po.length
    · cases gk with
      | zero => have := HE.out; omega
      | succ g1 =>
      obtain ⟨x, n, hp, hxn⟩ := HIN.out po[i] (List.getElem_mem hlt)
      obtain ⟨ad, he, hx0, hx1⟩ := at_T61 R6.out (i : Int) (by omega) (by omega)
      have hrd : rd_T61 po (i : Int) = ⟨(x : Int), (n : Int)⟩ := by
        unfold rd_T61
        rw [Int.toNat_natCast, List.getD_eq_getElem?_getD, List.getElem?_eq_getElem hlt, Option.getD_some, hp]
      rw [hrd, Int.toNat_natCast] at hx0 hx1
      subst he
      have HD : Aside0 ((po.drop i).all (oneOf o.size both) = (oneOf o.size both ⟨(x : Int), (n : Int)⟩ && (po.drop (i + 1)).all (oneOf o.size both))) := ⟨by rw [List.drop_eq_getElem_cons hlt, List.all_cons, hp]⟩
      obtain ⟨r, hr, hrv⟩ := oneOf_index o.size both ⟨(x : Int), (n : Int)⟩ hbl
      obtain ⟨tl, htl⟩ : ∃ tl : Bool, tl = ((x : Int) + (n : Int) == (o.size : Int)) := ⟨_, rfl⟩
      have hr' : @impl_pulse_86.f (cleanC (x : Int) (n : Int) tl) 20000 both 0 = some r := by rw [htl]; exact hr
      have HR := Aside0.mk hr'
      have HRV := Aside0.mk hrv
      have HTL := Aside0.mk htl
      have s1 : IntKind.i64.wrap ((x : Int) + (n : Int)) = (x : Int) + (n : Int) := IntWalk.i64_in _ ⟨by omega, by omega⟩
      clear hp hrd hr hr' hrv htl
      have ht2 : ((x : Int) + (n : Int) == (o.size : Int)) = tl := HTL.out.symm
      cases hov : oneOf o.size both ⟨(x : Int), (n : Int)⟩ with
      | false =>
        rw [hov] at HRV HD
        clear hov
        go_wp2_with (first
          | ((with_reducible refine gate_dst (N := 9) rfl ?_); refine box_event ?hg (N := 9) ?hd (cs := #[.int .i64 0, .int .i64 0]) (t := 61) ?hr ?_; (case hd => rfl); (case hg => rfl); (case hr => first | (go_simp; done) | (go_simp; rfl)); intro g9 hg wn hbox hb; have BK9 := Aside0.mk hbox; have GE9 := Aside0.mk (by rw [hg]; exact below_size HB.out : w.heap.size ≤ g9); have n0_ := Aside0.mk (below_step HB.out hb); have n1_ := Aside0.mk (Kd.C_below R6.out hb); have n2_ := Aside0.mk (Kd.C_below R5.out hb); have LT9 := Aside0.mk (blk_lt hbox); have GW9 := Aside0.mk (show wr.heap.size ≤ g9 by omega); have KB9 := Aside0.mk hb; clear HB hb hbox hg; have HB := n0_; clear n0_ n1_ n2_; have z0 : wn.cell? ⟨g9, 0, none⟩ = some (.int .i64 0) := (blk_cell BK9.out 0).trans rfl; have z1 : wn.cell? ⟨g9, 1, none⟩ = some (.int .i64 0) := (blk_cell BK9.out 1).trans rfl; have f0 := blk_frozen BK9.out 0; have f1 := blk_frozen BK9.out 1)
          | ((with_reducible refine gate_dst (N := 10) rfl ?_); have q9 := Aside0.mk (blk_put (blk_put BK9.out 0 (.int .i64 (x : Int)) (cs' := #[.int .i64 (x : Int), .int .i64 0]) rfl) 1 (.int .i64 (n : Int)) (cs' := #[.int .i64 (x : Int), .int .i64 (n : Int)]) rfl); have qB := Aside0.mk (below_set (j := 1) (v := .int .i64 (n : Int)) (below_set (j := 0) (v := .int .i64 (x : Int)) HB.out GE9.out) GE9.out); have qK := Aside0.mk (below_set (j := 1) (v := .int .i64 (n : Int)) (below_set (j := 0) (v := .int .i64 (x : Int)) KB9.out GW9.out) GW9.out); refine box_event ?hg (N := 10) ?hd (cs := #[.bool false]) (t := 4) ?hr ?_; (case hd => rfl); (case hg => rfl); (case hr => first | (go_simp; done) | (go_simp; rfl)); intro g10 hg wm hbox hb; have BK10 := Aside0.mk hbox; have GE10 := Aside0.mk (by rw [hg]; exact below_size qB.out : w.heap.size ≤ g10); have GW10 := Aside0.mk (by rw [hg]; exact below_size qK.out : wr.heap.size ≤ g10); have NE := Aside0.mk (show g9 ≠ g10 by have := blk_lt q9.out; omega); have m9 := Aside0.mk (blk_below q9.out hb); have mB := Aside0.mk (below_step qB.out hb); have mK := Aside0.mk (below_step qK.out hb); clear HB KB9 q9 qB qK hb hbox hg z0 z1 f0 f1; have z2 : wm.cell? ⟨g10, 0, none⟩ = some (.bool false) := (blk_cell BK10.out 0).trans rfl; have f2 := blk_frozen BK10.out 0)
          | (go_at_call 56; have n9 := blk_far m9.out (p := ⟨g10, 0, none⟩) NE.out (.bool tl); have n10 := blk_put BK10.out 0 (.bool tl) (cs' := #[.bool tl]) rfl; have nB := below_set (j := 0) (v := .bool tl) mB.out GE10.out; have nK := below_set (j := 0) (v := .bool tl) mK.out GW10.out; refine (@hasPul (cleanC (x : Int) (n : Int) tl) 20000 A5 c5 both r 57 Tryd.f57 #[.pointer (some ⟨g9, 0, none⟩), .pointer (some ⟨g10, 0, none⟩)] ⟨Tryd.func57, rfl, by kernel_rfl⟩ _ (clean_cl (x : Int) (n : Int) tl g9 g10 _ n9 n10) (Kd.C_below R5.out nK) C5.out HR.out).mono ?_; rintro e wz ⟨rfl, hb⟩; have zB := Aside0.mk (below_step nB hb); have zK := Aside0.mk (below_step nK hb); rw [HRV.out]; clear m9 BK10 mB mK n9 n10 nB nK hb z2 f2))
        go_ret
        exact ⟨by rw [HA.out, HD.out]; rfl, zB.out⟩
      | true =>
        rw [hov] at HRV HD
        clear hov
        go_wp2_with (first
          | ((with_reducible refine gate_dst (N := 9) rfl ?_); refine box_event ?hg (N := 9) ?hd (cs := #[.int .i64 0, .int .i64 0]) (t := 61) ?hr ?_; (case hd => rfl); (case hg => rfl); (case hr => first | (go_simp; done) | (go_simp; rfl)); intro g9 hg wn hbox hb; have BK9 := Aside0.mk hbox; have GE9 := Aside0.mk (by rw [hg]; exact below_size HB.out : w.heap.size ≤ g9); have n0_ := Aside0.mk (below_step HB.out hb); have n1_ := Aside0.mk (Kd.C_below R6.out hb); have n2_ := Aside0.mk (Kd.C_below R5.out hb); have LT9 := Aside0.mk (blk_lt hbox); have GW9 := Aside0.mk (show wr.heap.size ≤ g9 by omega); have KB9 := Aside0.mk hb; clear HB hb hbox hg; have HB := n0_; clear n0_ n1_ n2_; have z0 : wn.cell? ⟨g9, 0, none⟩ = some (.int .i64 0) := (blk_cell BK9.out 0).trans rfl; have z1 : wn.cell? ⟨g9, 1, none⟩ = some (.int .i64 0) := (blk_cell BK9.out 1).trans rfl; have f0 := blk_frozen BK9.out 0; have f1 := blk_frozen BK9.out 1)
          | ((with_reducible refine gate_dst (N := 10) rfl ?_); have q9 := Aside0.mk (blk_put (blk_put BK9.out 0 (.int .i64 (x : Int)) (cs' := #[.int .i64 (x : Int), .int .i64 0]) rfl) 1 (.int .i64 (n : Int)) (cs' := #[.int .i64 (x : Int), .int .i64 (n : Int)]) rfl); have qB := Aside0.mk (below_set (j := 1) (v := .int .i64 (n : Int)) (below_set (j := 0) (v := .int .i64 (x : Int)) HB.out GE9.out) GE9.out); have qK := Aside0.mk (below_set (j := 1) (v := .int .i64 (n : Int)) (below_set (j := 0) (v := .int .i64 (x : Int)) KB9.out GW9.out) GW9.out); refine box_event ?hg (N := 10) ?hd (cs := #[.bool false]) (t := 4) ?hr ?_; (case hd => rfl); (case hg => rfl); (case hr => first | (go_simp; done) | (go_simp; rfl)); intro g10 hg wm hbox hb; have BK10 := Aside0.mk hbox; have GE10 := Aside0.mk (by rw [hg]; exact below_size qB.out : w.heap.size ≤ g10); have GW10 := Aside0.mk (by rw [hg]; exact below_size qK.out : wr.heap.size ≤ g10); have NE := Aside0.mk (show g9 ≠ g10 by have := blk_lt q9.out; omega); have m9 := Aside0.mk (blk_below q9.out hb); have mB := Aside0.mk (below_step qB.out hb); have mK := Aside0.mk (below_step qK.out hb); clear HB KB9 q9 qB qK hb hbox hg z0 z1 f0 f1; have z2 : wm.cell? ⟨g10, 0, none⟩ = some (.bool false) := (blk_cell BK10.out 0).trans rfl; have f2 := blk_frozen BK10.out 0)
          | (go_at_call 56; have n9 := blk_far m9.out (p := ⟨g10, 0, none⟩) NE.out (.bool tl); have n10 := blk_put BK10.out 0 (.bool tl) (cs' := #[.bool tl]) rfl; have nB := below_set (j := 0) (v := .bool tl) mB.out GE10.out; have nK := below_set (j := 0) (v := .bool tl) mK.out GW10.out; refine (@hasPul (cleanC (x : Int) (n : Int) tl) 20000 A5 c5 both r 57 Tryd.f57 #[.pointer (some ⟨g9, 0, none⟩), .pointer (some ⟨g10, 0, none⟩)] ⟨Tryd.func57, rfl, by kernel_rfl⟩ _ (clean_cl (x : Int) (n : Int) tl g9 g10 _ n9 n10) (Kd.C_below R5.out nK) C5.out HR.out).mono ?_; rintro e wz ⟨rfl, hb⟩; have zB := Aside0.mk (below_step nB hb); have zK := Aside0.mk (below_step nK hb); rw [HRV.out]; clear m9 BK10 mB mK n9 n10 nB nK hb z2 f2))
        go_roundg g1
        case measure => omega
        case rel => exact ⟨i + 1, by go_num, ⟨by have := HE.out; omega⟩, ⟨by rw [HA.out, HD.out, Bool.true_and]⟩, ⟨Kd.C_below R6.out zK.out⟩, ⟨Kd.C_below R5.out zK.out⟩, zB⟩
    · have e : i = po.length := by have := HE.out; omega
      subst e
      go_wp2
      go_ret
      exact ⟨by rw [HA.out, List.drop_eq_nil_of_le (Nat.le_refl _)]; rfl, HB.out⟩
def cleanB (o a b : ByteArray) : Bool := (pz (edg o 49 o.size) (dns o)).all (oneOf o.size (pz (edg a 49 a.size) (dns a) ++ pz (edg b 49 b.size) (dns b)))
def impl_IsClean.f (a0 a1 a2 : ByteArray) : Option Bool := (impl_areWaves.f [a0, a1, a2]).bind fun t => if t = true then some (cleanB a0 a1 a2) else some false
theorem pz_in2 (s : ByteArray) : ∀ us ds : List Int, Runs s us ds → ∀ p ∈ pz us ds, ∃ a n : Nat, p = ⟨(a : Int), (n : Int)⟩ ∧ a + n ≤ s.size
  | [], [], _, p, hp => by simp [pz] at hp
  | u :: us, d :: ds, h, p, hp => by
    rw [show pz (u :: us) (d :: ds) = ⟨u, d - u⟩ :: pz us ds from rfl, List.mem_cons] at hp
    rcases hp with rfl | hp
    · obtain ⟨a, b, rfl, rfl, h1, h2, _⟩ := h.1
      exact ⟨a, b - a, by congr 1; omega, by omega⟩
    · exact pz_in2 s us ds h.2 p hp
  | [], _ :: _, h, _, _ => h.elim
  | _ :: _, [], h, _, _ => h.elim
theorem pz_len2 (s : ByteArray) (hs : s.size ≤ 400) : (pz (edg s 49 s.size) (dns s)).length ≤ 400 := by
  unfold pz
  rw [List.length_zipWith]
  exact Nat.le_trans (Nat.min_le_left _ _) (Nat.le_trans (edg_len _ _ _) hs)
theorem impl_IsClean.calls (a0 a1 a2 : ByteArray) (r : Bool) (w : World) (h : impl_IsClean.f a0 a1 a2 = some r) :
    Calls Tryd.prog 14 #[.string a0, .string a1, .string a2] w fun e w' => e = .returned (.bool r) ∧ Below w.heap.size w w' := by
  unfold impl_IsClean.f at h
  obtain ⟨t, ht, h⟩ := Option.bind_eq_some_iff.mp h
  cases t with
  | false =>
    rw [if_neg (by simp)] at h
    obtain rfl := Option.some.inj h
    exact Clean_no a0 a1 a2 w ht
  | true =>
    rw [if_pos rfl] at h
    obtain rfl := Option.some.inj h
    obtain ⟨h1, h2, h3, h4, h5, h6⟩ := areW_three ht
    exact Clean_yes a0 a1 a2 _ _ _ 300001 w ht (pulses_eq 300001 a0 h1 h2 (by omega)) (pulses_eq 300001 a1 (by omega) h4 (by omega)) (pulses_eq 300001 a2 (by omega) h6 (by omega)) (pz_len2 a0 h1) (pz_len2 a1 (by omega)) (pz_len2 a2 (by omega)) (pz_in2 a0 _ _ (runs_all a0 h2))
end Go.Proofs.YthkpnbelbaljdaaDoor.X
-- Written by a program of this session out of the kit's print of the loaded functions: a plain function of a Go function, and its contract.
namespace Go.Proofs.YthkpnbelbaljdaaDoor.X
open Go.RowKit Go.Proofs.YthkpnbelbaljdaaDoorW.PrintWords Go.Proofs.YthkpnbelbaljdaaDoorW.PrintLast Go.Proofs.YthkpnbelbaljdaaDoorW.PrintMore
attribute [local go_sem] max2_int min2_int max_two min_two max_three min_three max_four min_four   -- for this text's walks alone
set_option linter.unusedVariables false
set_option linter.unusedSimpArgs false
/-! ### spec_l07Has: function 84 -/
end Go.Proofs.YthkpnbelbaljdaaDoor.X
end
section
/- My own texts of this seat, merged: Xp53, Xp13, Xp4, CClean. Conditions: as each lemma says. -/
-- Written by a program of this session out of the kit's print of the loaded functions: a plain function of a Go function, and its contract.
namespace Go.Proofs.YthkpnbelbaljdaaDoor.X
open Go.RowKit Go.Proofs.YthkpnbelbaljdaaDoorW.PrintWords Go.Proofs.YthkpnbelbaljdaaDoorW.PrintLast Go.Proofs.YthkpnbelbaljdaaDoorW.PrintMore
attribute [local go_sem] max2_int min2_int max_two min_two max_three min_three max_four min_four   -- for this text's walks alone
set_option linter.unusedVariables false
set_option linter.unusedSimpArgs false
/-! ### spec_l07Clean: function 53 -/
end Go.Proofs.YthkpnbelbaljdaaDoor.X
-- Written by a program of this session out of the kit's print of the loaded functions: a plain function of a Go function, and its contract.
namespace Go.Proofs.YthkpnbelbaljdaaDoor.X
open Go.RowKit Go.Proofs.YthkpnbelbaljdaaDoorW.PrintWords Go.Proofs.YthkpnbelbaljdaaDoorW.PrintLast Go.Proofs.YthkpnbelbaljdaaDoorW.PrintMore
attribute [local go_sem] max2_int min2_int max_two min_two max_three min_three max_four min_four   -- for this text's walks alone
set_option linter.unusedVariables false
set_option linter.unusedSimpArgs false
/-! ### spec_IsClean: function 13 -/
end Go.Proofs.YthkpnbelbaljdaaDoor.X
-- Written by a program of this session out of the kit's print of the loaded functions: a plain function of a Go function, and its contract.
namespace Go.Proofs.YthkpnbelbaljdaaDoor.X
open Go.RowKit Go.Proofs.YthkpnbelbaljdaaDoorW.PrintWords Go.Proofs.YthkpnbelbaljdaaDoorW.PrintLast Go.Proofs.YthkpnbelbaljdaaDoorW.PrintMore
attribute [local go_sem] max2_int min2_int max_two min_two max_three min_three max_four min_four   -- for this text's walks alone
set_option linter.unusedVariables false
set_option linter.unusedSimpArgs false
/-! ### laws_FnExactIsClean: function 4 -/
end Go.Proofs.YthkpnbelbaljdaaDoor.X
/- Clean waves: the plain law of IsClean. Conditions: as each lemma says. -/
namespace Go.Proofs.YthkpnbelbaljdaaDoor.X
open Go.RowKit Go.Proofs.YthkpnbelbaljdaaDoorW.PrintWords Go.Proofs.YthkpnbelbaljdaaDoorW.PrintLast Go.Proofs.YthkpnbelbaljdaaDoorW.PrintMore
set_option linter.unusedVariables false
set_option linter.unusedSimpArgs false
theorem are3_eq (s z y : ByteArray) (hs : s.size ≤ 140737488351232) (hz : z.size ≤ 140737488351232) (hy : y.size ≤ 140737488351232) : impl_areWaves.f [s, z, y] = some (isW s && isW z && isW y && decide (s.size = z.size) && decide (z.size = y.size)) := by
  unfold impl_areWaves.f areW badW
  rw [if_pos ⟨by simp, by simp, by intro x hx; rcases List.mem_cons.1 hx with rfl | hx; omega; rcases List.mem_cons.1 hx with rfl | hx; omega; rcases List.mem_cons.1 hx with rfl | hx; omega; simp at hx⟩]
  congr 1
  simp only [List.headD_cons, List.any_cons, List.any_nil, Bool.or_false, decide_true, Bool.not_true]
  cases isW s <;> cases isW z <;> cases isW y <;> simp only [Bool.not_true, Bool.not_false, Bool.true_and, Bool.false_and, Bool.and_false, Bool.and_true, Bool.false_or, Bool.true_or, Bool.or_true, Bool.or_false, Bool.not_or, Bool.not_not]
  rw [Bool.eq_iff_iff]
  constructor
  · intro h
    have h := Bool.and_eq_true_iff.1 h
    have h1 := of_decide_eq_true h.1
    have h2 := of_decide_eq_true h.2
    simp [h1, h2]
  · intro h
    have h := Bool.and_eq_true_iff.1 h
    have h1 := of_decide_eq_true h.1
    have h2 := of_decide_eq_true h.2
    exact Bool.and_eq_true_iff.2 ⟨decide_eq_true (by omega), decide_eq_true (by omega)⟩
end Go.Proofs.YthkpnbelbaljdaaDoor.X
end
section
/- My own texts of this seat, merged: XSpec, XSpecI, XSRun, Xp58, XEnS, Xp5, CEn. Conditions: as each lemma says. -/
/- The reference's side of a switch: what is done at a tick, and what it has at first. Conditions: as each lemma says. -/
namespace Go.Proofs.YthkpnbelbaljdaaDoor.X
open Go.RowKit Go.Proofs.YthkpnbelbaljdaaDoorW.PrintWords Go.Proofs.YthkpnbelbaljdaaDoorW.PrintLast Go.Proofs.YthkpnbelbaljdaaDoorW.PrintMore
set_option linter.unusedVariables false
set_option linter.unusedSimpArgs false
end Go.Proofs.YthkpnbelbaljdaaDoor.X
/- The reference's switch: what lies in memory behind so many ticks. Conditions: as each lemma says. -/
namespace Go.Proofs.YthkpnbelbaljdaaDoor.X
open Go.RowKit Go.Proofs.YthkpnbelbaljdaaDoorW.PrintWords Go.Proofs.YthkpnbelbaljdaaDoorW.PrintLast Go.Proofs.YthkpnbelbaljdaaDoorW.PrintMore
set_option linter.unusedVariables false
set_option linter.unusedSimpArgs false
def RowU (B : Nat) (w : World) (v : Value) (l : List Int) : Prop := w.ownsRow B 5 1 v l.length (encs (Value.int .u8) l)
structure SpW (gx gy B : Nat) (w0 w : World) (e0 e1 : Bool) (r0 r1 : List Bool) (x0 x1 : Value) (l1 l2 : List Int) (v1 v2 : Value) : Prop where
  bx : w.heap[gx]? = some (.cells #[.bool e0, x0] 99 (0, 0))
  bY : w.heap[gy]? = some (.cells #[.bool e1, x1] 99 (0, 0))
  o0 : RowB B w x0 r0
  o1 : RowB B w x1 r1
  q1 : RowU B w v1 l1
  q2 : RowU B w v2 l2
  ne : NeRow v1 v2
  nxy : gx ≠ gy
  hx : B ≤ gx
  hy : B ≤ gy
  hB : B ≤ w.heap.size
  fb : Below B w0 w
section
variable {gx gy B : Nat} {w0 w : World} {e0 e1 : Bool} {r0 r1 : List Bool} {x0 x1 : Value} {l1 l2 : List Int} {v1 v2 : Value}
theorem SpW.move (h : SpW gx gy B w0 w e0 e1 r0 r1 x0 x1 l1 l2 v1 v2) {w1 : World} (hb : Below w.heap.size w w1) : SpW gx gy B w0 w1 e0 e1 r0 r1 x0 x1 l1 l2 v1 v2 :=
  { h with
    bx := blk_below h.bx hb, bY := blk_below h.bY hb
    o0 := own_move h.o0 (fun k hk => hb.block k (own_lt h.o0 k hk)), o1 := own_move h.o1 (fun k hk => hb.block k (own_lt h.o1 k hk))
    q1 := own_move h.q1 (fun k hk => hb.block k (own_lt h.q1 k hk)), q2 := own_move h.q2 (fun k hk => hb.block k (own_lt h.q2 k hk))
    hB := Nat.le_trans h.hB hb.size, fb := h.fb.trans (hb.mono h.hB) }
end
end Go.Proofs.YthkpnbelbaljdaaDoor.X
/- The reference's EnablesOf: what it answers. Conditions: as each lemma says. -/
namespace Go.Proofs.YthkpnbelbaljdaaDoor.X
open Go.RowKit Go.Proofs.YthkpnbelbaljdaaDoorW.PrintWords Go.Proofs.YthkpnbelbaljdaaDoorW.PrintLast Go.Proofs.YthkpnbelbaljdaaDoorW.PrintMore
set_option linter.unusedVariables false
set_option linter.unusedSimpArgs false
theorem SpW.drew {gx gy B : Nat} {w0 w : World} {e0 e1 : Bool} {r0 r1 : List Bool} {x0 x1 : Value} {l1 l2 : List Int} {v1 v2 : Value} (h : SpW gx gy B w0 w e0 e1 r0 r1 x0 x1 l1 l2 v1 v2) : SpW gx gy B w0 w.drew e0 e1 r0 r1 x0 x1 l1 l2 v1 v2 := h.move (below_drew1 (Below.refl _ _))
end Go.Proofs.YthkpnbelbaljdaaDoor.X
-- Written by a program of this session out of the kit's print of the loaded functions: a plain function of a Go function, and its contract.
namespace Go.Proofs.YthkpnbelbaljdaaDoor.X
open Go.RowKit Go.Proofs.YthkpnbelbaljdaaDoorW.PrintWords Go.Proofs.YthkpnbelbaljdaaDoorW.PrintLast Go.Proofs.YthkpnbelbaljdaaDoorW.PrintMore
attribute [local go_sem] max2_int min2_int max_two min_two max_three min_three max_four min_four   -- for this text's walks alone
set_option linter.unusedVariables false
set_option linter.unusedSimpArgs false
/-- A state of type 30 at block g of W; what its slices lead to came in by w0. -/
def IsS30 (w0 W : World) (g : Nat) (f0 : Int) (f1 : Int) : Prop := W.heap[g]? = some (.cells #[.int .i64 f0, .int .i64 f1] 30 (0, 0)) ∧ w0.heap.size ≤ g
theorem IsS30.grown {w0 W : World} {g : Nat} {f0 : Int} {f1 : Int} {W1 : World} {row : Option Nat} (h : IsS30 w0 W g f0 f1) (hw : W.grownBy W1 row) (hne : some g ≠ row) : IsS30 w0 W1 g f0 f1 := by
  obtain ⟨hb, hg⟩ := h
  exact ⟨blk_grown hb hw hne, hg⟩
theorem IsS30.kept {w0 W : World} {g : Nat} {f0 : Int} {f1 : Int} {W1 : World} {S : Nat → Prop} (h : IsS30 w0 W g f0 f1) (hk : Kept W W1 S) (hne : ¬ S g) : IsS30 w0 W1 g f0 f1 := by
  obtain ⟨hb, hg⟩ := h
  exact ⟨blk_kept hb hk hne, hg⟩
theorem IsS30.below {w0 W : World} {g : Nat} {f0 : Int} {f1 : Int} {W1 : World} (h : IsS30 w0 W g f0 f1) (hw : Below W.heap.size W W1) : IsS30 w0 W1 g f0 f1 := h.grown (grown_of_below hw none) (by simp)
theorem IsS30.alloc {w0 W : World} {g : Nat} {f0 : Int} {f1 : Int} (h : IsS30 w0 W g f0 f1) (o : Obj) : IsS30 w0 (W.alloc o) g f0 f1 := h.below (below_alloc (Below.refl _ _) o)
theorem IsS30.drewN {w0 W : World} {g : Nat} {f0 : Int} {f1 : Int} (h : IsS30 w0 W g f0 f1) (m : Nat) : IsS30 w0 (W.drewN m) g f0 f1 := h
theorem IsS30.drew {w0 W : World} {g : Nat} {f0 : Int} {f1 : Int} (h : IsS30 w0 W g f0 f1) : IsS30 w0 W.drew g f0 f1 := h
theorem IsS30.at_ {w0 W : World} {g : Nat} {f0 : Int} {f1 : Int} {w' : World} {m : Nat} (hq : W.drewN m = w') (h : IsS30 w0 W g f0 f1) : IsS30 w0 w' g f0 f1 := by subst hq; exact IsS30.drewN h m
theorem IsS30.apart {w0 W : World} {g : Nat} {f0 : Int} {f1 : Int} {α : Type} {d : Kd α} {e : Nat} {base : Nat} {ok : Nat → Prop} {v : Value} {xs : List α} (h : IsS30 w0 W g f0 f1) (ho : d.R e W base ok v xs) (ht : ∀ q, q ∈ e :: d.E → q ≠ 30) : d.R e W base (fun k => ok k ∧ k ≠ g) v xs := by
  obtain ⟨hb, hg⟩ := h
  exact Kd.R_types ho hb ht
theorem IsS30.own_ne {w0 W : World} {g : Nat} {f0 : Int} {f1 : Int} {α : Type} {d : Kd α} {e : Nat} {base : Nat} {ok : Nat → Prop} {v : Value} {xs : List α} (h : IsS30 w0 W g f0 f1) (ho : d.R e W base ok v xs) (ht : e ≠ 30) : some g ≠ v.ownBlock := by
  obtain ⟨hb, hg⟩ := h
  exact Kd.R_ne ho hb ht
theorem IsS30.ge {w0 W : World} {g : Nat} {f0 : Int} {f1 : Int} (h : IsS30 w0 W g f0 f1) : w0.heap.size ≤ g := by
  obtain ⟨hb, hg⟩ := h
  exact hg
theorem IsS30.far {w0 W : World} {g : Nat} {f0 : Int} {f1 : Int} {p : Addr} (h : IsS30 w0 W g f0 f1) (hne : g ≠ p.block) (u : Value) : IsS30 w0 (W.setCell p u) g f0 f1 := by
  obtain ⟨hb, hg⟩ := h
  exact ⟨blk_far hb hne u, hg⟩
theorem IsS30.set_1 {w0 W : World} {g : Nat} {f0 : Int} {f1 : Int} (h : IsS30 w0 W g f0 f1) (x : Int) : IsS30 w0 (W.setCell ⟨g, 1, none⟩ (.int .i64 x)) g f0 x := by
  obtain ⟨hb, hg⟩ := h
  exact ⟨by simpa using blk_set hb 1 (.int .i64 x), hg⟩
/-! ### spec_l07Is: function 58 -/
end Go.Proofs.YthkpnbelbaljdaaDoor.X
/- The reference's EnablesOf: what it answers. Conditions: small texts. -/
namespace Go.Proofs.YthkpnbelbaljdaaDoor.X
open Go.RowKit Go.Proofs.YthkpnbelbaljdaaDoorW.PrintWords Go.Proofs.YthkpnbelbaljdaaDoorW.PrintLast Go.Proofs.YthkpnbelbaljdaaDoorW.PrintMore
set_option linter.unusedVariables false
set_option linter.unusedSimpArgs false
end Go.Proofs.YthkpnbelbaljdaaDoor.X
-- Written by a program of this session out of the kit's print of the loaded functions: a plain function of a Go function, and its contract.
namespace Go.Proofs.YthkpnbelbaljdaaDoor.X
open Go.RowKit Go.Proofs.YthkpnbelbaljdaaDoorW.PrintWords Go.Proofs.YthkpnbelbaljdaaDoorW.PrintLast Go.Proofs.YthkpnbelbaljdaaDoorW.PrintMore
attribute [local go_sem] max2_int min2_int max_two min_two max_three min_three max_four min_four   -- for this text's walks alone
set_option linter.unusedVariables false
set_option linter.unusedSimpArgs false
/-! ### laws_FnExactEnablesOf: function 5 -/
end Go.Proofs.YthkpnbelbaljdaaDoor.X
/- The enables of a switch: the plain law of EnablesOf. Conditions: as each lemma says. -/
namespace Go.Proofs.YthkpnbelbaljdaaDoor.X
open Go.RowKit Go.Proofs.YthkpnbelbaljdaaDoorW.PrintWords Go.Proofs.YthkpnbelbaljdaaDoorW.PrintLast Go.Proofs.YthkpnbelbaljdaaDoorW.PrintMore
set_option linter.unusedVariables false
set_option linter.unusedSimpArgs false
end Go.Proofs.YthkpnbelbaljdaaDoor.X
end
section
/- My own texts of this seat, merged: Xp61, Xp18, Xp19, Xp6, CSafe. Conditions: as each lemma says. -/
-- Written by a program of this session out of the kit's print of the loaded functions: a plain function of a Go function, and its contract.
namespace Go.Proofs.YthkpnbelbaljdaaDoor.X
open Go.RowKit Go.Proofs.YthkpnbelbaljdaaDoorW.PrintWords Go.Proofs.YthkpnbelbaljdaaDoorW.PrintLast Go.Proofs.YthkpnbelbaljdaaDoorW.PrintMore
attribute [local go_sem] max2_int min2_int max_two min_two max_three min_three max_four min_four   -- for this text's walks alone
set_option linter.unusedVariables false
set_option linter.unusedSimpArgs false
/-! ### spec_l01Join: function 61 -/
end Go.Proofs.YthkpnbelbaljdaaDoor.X
-- Written by a program of this session out of the kit's print of the loaded functions: a plain function of a Go function, and its contract.
namespace Go.Proofs.YthkpnbelbaljdaaDoor.X
open Go.RowKit Go.Proofs.YthkpnbelbaljdaaDoorW.PrintWords Go.Proofs.YthkpnbelbaljdaaDoorW.PrintLast Go.Proofs.YthkpnbelbaljdaaDoorW.PrintMore
attribute [local go_sem] max2_int min2_int max_two min_two max_three min_three max_four min_four   -- for this text's walks alone
set_option linter.unusedVariables false
set_option linter.unusedSimpArgs false
/-! ### spec_SafeSwitch: function 18 -/
end Go.Proofs.YthkpnbelbaljdaaDoor.X
-- Written by a program of this session out of the kit's print of the loaded functions: a plain function of a Go function, and its contract.
namespace Go.Proofs.YthkpnbelbaljdaaDoor.X
open Go.RowKit Go.Proofs.YthkpnbelbaljdaaDoorW.PrintWords Go.Proofs.YthkpnbelbaljdaaDoorW.PrintLast Go.Proofs.YthkpnbelbaljdaaDoorW.PrintMore
attribute [local go_sem] max2_int min2_int max_two min_two max_three min_three max_four min_four   -- for this text's walks alone
set_option linter.unusedVariables false
set_option linter.unusedSimpArgs false
/-! ### impl_SafeSwitch: function 19 -/
end Go.Proofs.YthkpnbelbaljdaaDoor.X
-- Written by a program of this session out of the kit's print of the loaded functions: a plain function of a Go function, and its contract.
namespace Go.Proofs.YthkpnbelbaljdaaDoor.X
open Go.RowKit Go.Proofs.YthkpnbelbaljdaaDoorW.PrintWords Go.Proofs.YthkpnbelbaljdaaDoorW.PrintLast Go.Proofs.YthkpnbelbaljdaaDoorW.PrintMore
attribute [local go_sem] max2_int min2_int max_two min_two max_three min_three max_four min_four   -- for this text's walks alone
set_option linter.unusedVariables false
set_option linter.unusedSimpArgs false
/-! ### laws_FnExactSafeSwitch: function 6 -/
end Go.Proofs.YthkpnbelbaljdaaDoor.X
/- A switch's output: the plain law of SafeSwitch. Conditions: as each lemma says. -/
namespace Go.Proofs.YthkpnbelbaljdaaDoor.X
open Go.RowKit Go.Proofs.YthkpnbelbaljdaaDoorW.PrintWords Go.Proofs.YthkpnbelbaljdaaDoorW.PrintLast Go.Proofs.YthkpnbelbaljdaaDoorW.PrintMore
set_option linter.unusedVariables false
set_option linter.unusedSimpArgs false
theorem bt_str (xs : List Int) (i : Nat) (hi : i < xs.length) (h0 : 0 ≤ xs[i]) (h1 : xs[i] < 256) : bt (strOfNums xs) (i : Int) = xs[i] := by
  have hs : i < (strOfNums xs).size := by rw [strOfNums_size]; exact hi
  unfold bt
  rw [dif_pos (by simpa using hs)]
  show (((strOfNums xs).data[(i : Int).toNat]'(by simpa using hs)).toNat : Int) = _
  simp only [Int.toNat_natCast]
  have : (strOfNums xs).data[i] = (strOfNums xs).data.toList[i]'(by simpa using hs) := by simp
  rw [this]
  have e : (strOfNums xs).data.toList = xs.map fun n => UInt8.ofNat n.toNat := strOfNums_data xs
  simp only [e, List.getElem_map]
  rw [UInt8.toNat_ofNat']
  omega
theorem lvs_at (lv : Nat → Bool) (n i : Nat) (hi : i < n) : (bt (strOfNums (lvs lv n)) (i : Int) == 49) = lv i := by
  have hl : i < (lvs lv n).length := by rw [lvs_len]; exact hi
  have e : (lvs lv n)[i] = if lv i = true then 49 else 48 := by simp [lvs]
  rw [bt_str _ i hl (by rw [e]; split <;> omega) (by rw [e]; split <;> omega), e]
  cases lv i <;> rfl
theorem lvs_size (lv : Nat → Bool) (n : Nat) : (strOfNums (lvs lv n)).size = n := by rw [strOfNums_size, lvs_len]
end Go.Proofs.YthkpnbelbaljdaaDoor.X
end
section
/- A stub: the text lies in G6. -/
end
section
-- Written by a program of this session out of the kit's print of the loaded functions: a plain function of a Go function, and its contract.
namespace Go.Proofs.YthkpnbelbaljdaaDoor.X
open Go.RowKit Go.Proofs.YthkpnbelbaljdaaDoorW.PrintWords Go.Proofs.YthkpnbelbaljdaaDoorW.PrintLast Go.Proofs.YthkpnbelbaljdaaDoorW.PrintMore
attribute [local go_sem] max2_int min2_int max_two min_two max_three min_three max_four min_four   -- for this text's walks alone
set_option linter.unusedVariables false
set_option linter.unusedSimpArgs false
/-! ### laws_b10At: function 26 -/
def laws_b10At.f (l0 : List Int) (a1 : Int) (a2 : Int) : Option (Int) := if a2 ≤ 1 then (some 0) else (if a1 < (l0.length : Int) then (if 0 ≤ a1 then (if a2 = 0 then (none) else (some (Int.tmod (wrap64 (rd l0 a1)) a2))) else (none)) else (if a2 = 0 then (none) else (some (Int.tmod (wrap64 ((wrap64 (a1 * 37)) + 11)) a2))))
set_option maxHeartbeats 8000000 in
set_option maxRecDepth 100000 in
theorem laws_b10At.calls (A0 : Option Addr) (c0 : Nat) (l0 : List Int) (a1 : Int) (a2 : Int) (r : Int) (w : World) (hr0 : Kd.C (Kd.int .u8) w A0 l0.length l0) (hc0 : l0.length ≤ c0) (h : laws_b10At.f l0 a1 a2 = some r) :
    Calls Tryd.prog 26 #[.slice A0 l0.length c0, .int .i64 a1, .int .i64 a2] w fun e w' => e = .returned (.int .i64 r) ∧ Drawn0 w w' := by
  have HR0 := Aside0.mk hr0
  have HC0 := Aside0.mk hc0
  clear hr0 hc0
  have H : (if a2 ≤ 1 then (some 0) else (if a1 < (l0.length : Int) then (if 0 ≤ a1 then (if a2 = 0 then (none) else (some (Int.tmod (wrap64 (rd l0 a1)) a2))) else (none)) else (if a2 = 0 then (none) else (some (Int.tmod (wrap64 ((wrap64 (a1 * 37)) + 11)) a2))))) = some r := h
  clear h
  by_cases c4 : a2 ≤ 1
  · rw [if_pos c4] at H
    have c4b0 : decide (a2 ≤ 1) = true := decide_eq_true c4
    clear c4
    obtain rfl := Option.some.inj H
    go_enter Tryd.func26, Tryd.ntmps26
    go_wp2
    go_ret
    exact ⟨by first | rfl | (simp; done) | (simp [*]; done), by repeat (first | exact Drawn0.refl _ | apply Drawn0.step)⟩
  · rw [if_neg c4] at H
    have c4b0 : decide (a2 ≤ 1) = false := decide_eq_false c4
    clear c4
    by_cases c5 : a1 < (l0.length : Int)
    · rw [if_pos c5] at H
      have c5b0 : decide (a1 < (l0.length : Int)) = true := decide_eq_true c5
      clear c5
      by_cases c6 : 0 ≤ a1
      · rw [if_pos c6] at H
        have c6b0 : decide (0 ≤ a1) = true := decide_eq_true c6
        clear c6
        by_cases c7 : a2 = 0
        · rw [if_pos c7] at H
          exact absurd H (by simp)
        · rw [if_neg c7] at H
          have c7b0 : (a2 == 0) = false := beq_eq_false_iff_ne.mpr c7
          have c7b1 : (a2 != 0) = true := bne_iff_ne.mpr c7
          obtain rfl := Option.some.inj H
          have p341 : 0 ≤ (a1 : Int) := of_decide_eq_true (by first | (with_reducible assumption) | assumption)
          have q341 : a1 < (l0.length : Int) := of_decide_eq_true (by first | (with_reducible assumption) | assumption)
          obtain ⟨ad341, e341, hx341_0⟩ := Kd.at_int HR0.out a1 p341 q341
          cases e341
          replace p341 := eq_true p341
          replace q341 := eq_true q341
          go_enter Tryd.func26, Tryd.ntmps26
          go_wp2
          go_ret
          exact ⟨by first | rfl | (simp; done) | (simp [*]; done), by repeat (first | exact Drawn0.refl _ | apply Drawn0.step)⟩
      · rw [if_neg c6] at H
        exact absurd H (by simp)
    · rw [if_neg c5] at H
      have c5b0 : decide (a1 < (l0.length : Int)) = false := decide_eq_false c5
      clear c5
      by_cases c8 : a2 = 0
      · rw [if_pos c8] at H
        exact absurd H (by simp)
      · rw [if_neg c8] at H
        have c8b0 : (a2 == 0) = false := beq_eq_false_iff_ne.mpr c8
        have c8b1 : (a2 != 0) = true := bne_iff_ne.mpr c8
        obtain rfl := Option.some.inj H
        go_enter Tryd.func26, Tryd.ntmps26
        go_wp2
        go_ret
        exact ⟨by first | rfl | (simp; done) | (simp [*]; done), by repeat (first | exact Drawn0.refl _ | apply Drawn0.step)⟩
end Go.Proofs.YthkpnbelbaljdaaDoor.X
end
section
-- Written by a program of this session out of the kit's print of the loaded functions: a plain function of a Go function, and its contract.
namespace Go.Proofs.YthkpnbelbaljdaaDoor.X
open Go.RowKit Go.Proofs.YthkpnbelbaljdaaDoorW.PrintWords Go.Proofs.YthkpnbelbaljdaaDoorW.PrintLast Go.Proofs.YthkpnbelbaljdaaDoorW.PrintMore
attribute [local go_sem] max2_int min2_int max_two min_two max_three min_three max_four min_four   -- for this text's walks alone
set_option linter.unusedVariables false
set_option linter.unusedSimpArgs false
/-! ### spec_B10Clock: function 27 -/
end Go.Proofs.YthkpnbelbaljdaaDoor.X
end
