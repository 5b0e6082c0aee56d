/- My own texts of this seat, merged: XLast, XStretch, Xp11, Xp36, XMajority, Xp12, Xp65, Xp38, XDebounce, Xp13, CFilt. Conditions: as each lemma says. -/
import Derived.Test.YtcpfkfaiakpfjaaDoorG0
import Derived.Test.YtcpfkfaiakpfjaaDoorG5
import Derived.Test.YtcpfkfaiakpfjaaDoorG2
/- How many of the last ticks of a wave are high: what the program's levelsBack and the reference's l09Last tell. Conditions: as each lemma says. -/
namespace Go.Proofs.YtcpfkfaiakpfjaaDoor.X
open Go.RowKit Go.Proofs.YtcpfkfaiakpfjaaDoorW.PrintWords Go.Proofs.YtcpfkfaiakpfjaaDoorW.PrintLast Go.Proofs.YtcpfkfaiakpfjaaDoorW.PrintMore
set_option linter.unusedVariables false
set_option linter.unusedSimpArgs false

theorem lev_mem {s : ByteArray} (hL : Lev s) : ∀ c ∈ s.data.toList, c = 48 ∨ c = 49 := by
  intro c hc
  have := List.all_eq_true.1 ((all_lev s).2 hL) c hc
  unfold isLev at this
  rw [Bool.or_eq_true, beq_iff_eq, beq_iff_eq] at this
  exact this
/-- How many bytes of a list are ones. -/
def ones (l : List UInt8) : Nat := l.count 49
theorem ones_le (l : List UInt8) : ones l ≤ l.length := List.count_le_length
theorem ones_loop (s : ByteArray) (hs : s.size ≤ 1000000) (hm : ∀ c ∈ s.data.toList, c = 48 ∨ c = 49) : ∀ (d k i : Nat), i + d = s.size → d < k → spec_l01Ones.l0 k s (ones (s.data.toList.take i)) i = some (ones s.data.toList : Int)
  | 0, k, i, hi, hk => by
    cases k with
    | zero => omega
    | succ k => rw [spec_l01Ones.l0, if_neg (by omega), List.take_of_length_le (by simp; omega)]
  | d + 1, k, i, hi, hk => by
    cases k with
    | zero => omega
    | succ k =>
      have ih := ones_loop s hs hm d k (i + 1) (by omega) (by omega)
      have hi2 : i < s.size := by omega
      have hi3 : i < s.data.toList.length := by simpa using hi2
      have hlen := ones_le (s.data.toList.take i)
      have h4 : (s.data.toList.take i).length ≤ i := by rw [List.length_take]; omega
      have hb := bt_get s i hi2
      rw [spec_l01Ones.l0, if_pos (by omega), if_pos (by omega), w64 (n := (i : Int) + 1) (by omega) (by omega)]
      have e : wrap64 ((ones (s.data.toList.take i) : Int) + (bt s (i : Int) - 48) % 256) = (ones (s.data.toList.take (i + 1)) : Int) := by
        have ht : s.data.toList.take (i + 1) = s.data.toList.take i ++ [s.data.toList[i]] := by rw [List.take_append_getElem]
        rw [ht]
        unfold ones at *
        rw [List.count_append, hb]
        have : s.data[i] = s.data.toList[i] := by simp
        rw [this]
        rcases hm _ (List.getElem_mem hi3) with h | h
        · rw [h]; rw [w64] <;> simp <;> omega
        · rw [h]; rw [w64] <;> simp <;> omega
      rw [e, ← Int.natCast_one, ← Int.natCast_add]
      exact ih
theorem l01Ones_eq (k : Nat) (s : ByteArray) (hs : s.size ≤ 1000000) (hm : ∀ c ∈ s.data.toList, c = 48 ∨ c = 49) (hk : s.size < k) : spec_l01Ones.f k s = some (ones s.data.toList : Int) := by
  unfold spec_l01Ones.f
  have := ones_loop s hs hm s.size k 0 (by omega) hk
  simpa [ones] using this
/-- How many of the last t ticks up to tick i are high. -/
def cnt (s : ByteArray) (i t : Nat) : Nat := ones ((s.data.toList.take (i + 1)).drop (i + 1 - t))
theorem cnt_le (s : ByteArray) (i t : Nat) : cnt s i t ≤ t := by
  have := ones_le ((s.data.toList.take (i + 1)).drop (i + 1 - t))
  unfold cnt
  rw [List.length_drop, List.length_take] at this
  omega
theorem ext_list (s : ByteArray) (a b : Nat) (hab : a ≤ b) (hb : b ≤ s.size) : (s.extract a b).data.toList = (s.data.toList.take b).drop a := by
  rw [ByteArray.data_extract, Array.toList_extract, List.extract_eq_take_drop, List.drop_take]
theorem len_size (s : ByteArray) : s.data.toList.length = s.size := by simp
theorem l09Last_eq (k : Nat) (s : ByteArray) (hs : s.size ≤ 400) (hL : Lev s) (i t : Nat) (hi : i < s.size) (h1 : 1 ≤ t) (h2 : t ≤ 50) (hk : 400 < k) : spec_l09Last.f k s i t = some (cnt s i t : Int) := by
  have e2 : ∀ x y : Int, spec_l00Max.f x y = some (max x y) := by intro x y; unfold spec_l00Max.f; split <;> (congr 1; omega)
  unfold spec_l09Last.f
  rw [w64 (n := (i : Int) + 1) (by omega) (by omega), w64 (n := (i : Int) + 1 - t) (by omega) (by omega), e2, Option.bind_some, if_pos (by omega), if_pos (by omega), if_pos (by omega)]
  have ha : (max 0 ((i : Int) + 1 - t)).toNat = i + 1 - t := by omega
  have hb : ((i : Int) + 1).toNat = i + 1 := by omega
  rw [ha, hb]
  have hl := ext_list s (i + 1 - t) (i + 1) (by omega) (by omega)
  have hz : (s.extract (i + 1 - t) (i + 1)).size ≤ 400 := by
    rw [← len_size, hl, List.length_drop, List.length_take, len_size]; omega
  rw [l01Ones_eq k _ (by omega) (by rw [hl]; intro c hc; exact lev_mem hL c (List.mem_of_mem_take (List.mem_of_mem_drop hc))) (by omega), Option.bind_some, hl]
  rfl
theorem rep_zero (t : Nat) : (repS (⟨#[48]⟩ : ByteArray) t).data.toList = List.replicate t 48 := by
  unfold repS
  have := Go.Lib.repeatL_replicate 48 1 t
  simpa using this
/-- The levels of a tick and of those before it. -/
def lback (s : ByteArray) (i t : Nat) : ByteArray := (repS (⟨#[48]⟩ : ByteArray) t ++ s).extract (i + 1) (i + 1 + t)
theorem levelsBack_eq (s : ByteArray) (hs : s.size ≤ 400) (i t : Nat) (hi : i < s.size) (h1 : 1 ≤ t) (h2 : t ≤ 50) : impl_levelsBack.f s i t = some (lback s i t) := by
  have hz : (repS (⟨#[48]⟩ : ByteArray) t).size = t := by have := congrArg List.length (rep_zero t); simpa using this
  have e : ((repS (⟨#[48]⟩ : ByteArray) t) ++ s).size = t + s.size := by rw [ByteArray.size_append, hz]
  unfold impl_levelsBack.f strings_Repeat.f
  rw [if_pos ⟨by omega, by omega, by decide⟩, Option.bind_some, Int.toNat_natCast, w64 (n := (i : Int) + 1) (by omega) (by omega), w64 (n := (i : Int) + 1 + t) (by omega) (by omega), if_pos (by omega), if_pos (by omega), if_pos (by omega), if_pos (by omega)]
  congr 1
theorem lback_list (s : ByteArray) (i t : Nat) (hi : i < s.size) : (lback s i t).data.toList = (List.replicate t 48).drop (i + 1) ++ (s.data.toList.take (i + 1)).drop (i + 1 - t) := by
  have hl : s.data.toList.length = s.size := by simp
  unfold lback
  have hz : (repS (⟨#[48]⟩ : ByteArray) t).size = t := by have := congrArg List.length (rep_zero t); simpa using this
  rw [ext_list _ _ _ (by omega) (by rw [ByteArray.size_append, hz]; omega), ByteArray.data_append, Array.toList_append, rep_zero, List.take_append, List.length_replicate, List.drop_append, List.length_take, List.length_replicate]
  rw [List.take_of_length_le (by rw [List.length_replicate]; omega), show i + 1 + t - t = i + 1 by omega, show min (i + 1 + t) t = t by omega]
theorem lback_ones (s : ByteArray) (i t : Nat) (hi : i < s.size) : ones (lback s i t).data.toList = cnt s i t := by
  unfold cnt
  rw [lback_list s i t hi]
  unfold ones
  rw [List.count_append, List.drop_replicate, List.count_replicate]
  simp
theorem index_ones (l : List UInt8) : (0 ≤ Go.Lib.indexByte l 49) ↔ 0 < ones l := by
  unfold ones
  rw [List.count_pos_iff]
  rcases Int.lt_or_le (Go.Lib.indexByte l 49) 0 with h | h
  · have hm : Go.Lib.indexByte l 49 = -1 := by have := Go.Lib.indexByte_ge l 49; omega
    refine ⟨fun h2 => by omega, fun h2 => ?_⟩
    obtain ⟨j, hj, e⟩ := List.getElem_of_mem h2
    exact absurd (by rw [List.getElem?_eq_getElem hj, e]) (Go.Lib.indexByte_none hm j)
  · obtain ⟨o, ho⟩ : ∃ o : Nat, Go.Lib.indexByte l 49 = o := ⟨_, (Int.toNat_of_nonneg h).symm⟩
    have := (Go.Lib.indexByte_some ho).1
    exact ⟨fun _ => List.mem_of_getElem? this, fun _ => h⟩
theorem l07_level (b : Bool) : spec_l07Level.f b = some (if b = true then 49 else 48) := by unfold spec_l07Level.f; cases b <;> rfl
end Go.Proofs.YtcpfkfaiakpfjaaDoor.X

/- The program's StretchPulses: what it answers. Conditions: none. -/
namespace Go.Proofs.YtcpfkfaiakpfjaaDoor.X
open Go.RowKit Go.Proofs.YtcpfkfaiakpfjaaDoorW.PrintWords Go.Proofs.YtcpfkfaiakpfjaaDoorW.PrintLast Go.Proofs.YtcpfkfaiakpfjaaDoorW.PrintMore
set_option linter.unusedVariables false
set_option linter.unusedSimpArgs false
set_option maxHeartbeats 4000000 in
set_option maxRecDepth 100000 in
theorem StretchPulses_no (s : ByteArray) (t : Int) (w : World) (h1 : impl_isFilter.f s t = some false) :
    Calls Tryd.prog 35 #[.string s, .int .i64 t] w fun e w' => e = .returned (.tuple #[.string ⟨#[]⟩, .bool false]) ∧ Below w.heap.size w w' := by
  have Hh1 := Aside0.mk h1
  clear h1
  have HB := Aside0.mk (Below.refl w.heap.size w)
  go_enter Tryd.func35, Tryd.ntmps35
  go_wp2_with (first
    | ((with_reducible refine gate_dst (N := 2) rfl ?_); refine box_event ?hg (N := 2) ?hd (cs := #[.string s]) (t := 9) ?hr ?_; (case hd => rfl); (case hg => rfl); (case hr => first | (go_simp; done) | (go_simp; rfl)); intro g2 hg wn hbox hb; have GE2 := Aside0.mk (by rw [hg]; exact below_size HB.out : w.heap.size ≤ g2); clear hg; have BK20 := Aside0.mk hbox; clear hbox; have n0_ := Aside0.mk (below_step HB.out hb); clear HB  hb; have HB := n0_; clear n0_ ; have BK2 := BK20; clear BK20; have c2_0 : wn.cell? ⟨g2, 0, none⟩ = some (.string s) := (blk_cell BK2.out 0).trans rfl)
    | ((with_reducible refine gate_dst (N := 3) rfl ?_); refine box_event ?hg (N := 3) ?hd (cs := #[.int .i64 t]) (t := 2) ?hr ?_; (case hd => rfl); (case hg => rfl); (case hr => first | (go_simp; done) | (go_simp; rfl)); intro g3 hg wn hbox hb; have GE3 := Aside0.mk (by rw [hg]; exact below_size HB.out : w.heap.size ≤ g3); have NE2_3 := Aside0.mk (show g2 ≠ g3 by have := blk_lt BK2.out; omega); clear hg; have BK30 := Aside0.mk hbox; clear hbox; have n0_ := Aside0.mk (below_step HB.out hb); have m2_ := Aside0.mk (blk_below BK2.out hb); clear HB BK2 hb; have HB := n0_; have BK2 := m2_; clear n0_ m2_; have c2_0 : wn.cell? ⟨g2, 0, none⟩ = some (.string s) := (blk_cell BK2.out 0).trans rfl; have BK3 := BK30; clear BK30; have c3_0 : wn.cell? ⟨g3, 0, none⟩ = some (.int .i64 t) := (blk_cell BK3.out 0).trans rfl)
    | (go_at_call 42; (with_reducible refine (impl_isFilter.calls s t false _ Hh1.out).mono ?_); rintro e wn ⟨rfl, hb0⟩; (first | have hb := to_below_d hb0 | have hb := to_below_b hb0); clear hb0; have n0_ := Aside0.mk (below_step HB.out hb); have m2_ := Aside0.mk (blk_below BK2.out hb); have m3_ := Aside0.mk (blk_below BK3.out hb); clear HB BK2 BK3 hb; have HB := n0_; have BK2 := m2_; have BK3 := m3_; clear n0_ m2_ m3_; have c2_0 : wn.cell? ⟨g2, 0, none⟩ = some (.string s) := (blk_cell BK2.out 0).trans rfl; have c3_0 : wn.cell? ⟨g3, 0, none⟩ = some (.int .i64 t) := (blk_cell BK3.out 0).trans rfl))
  go_ret2
  exact ⟨rfl, HB.out⟩
set_option maxHeartbeats 4000000 in
set_option maxRecDepth 100000 in
theorem StretchPulses_yes (s : ByteArray) (t : Int) (w : World) (h1 : impl_isFilter.f s t = some true) :
    Calls Tryd.prog 35 #[.string s, .int .i64 t] w fun e w' => e = .returned (.tuple #[.string (strOfNums (lvs (fun i => decide (0 < cnt s i t.toNat)) s.size)), .bool true]) ∧ Below w.heap.size w w' := by
  have Hh1 := Aside0.mk h1
  clear h1
  have HB := Aside0.mk (Below.refl w.heap.size w)
  obtain ⟨hs, hL, ht1, ht2⟩ := isFilter_true Hh1.out
  obtain ⟨tn, htn⟩ : ∃ n : Nat, t = n := ⟨t.toNat, by omega⟩
  have htn2 : t.toNat = tn := by omega
  have HLV : Aside0 (∀ i, i < s.size → decide (0 ≤ Lib.indexByte (lback s i tn).data.toList 49) = (fun i => decide (0 < cnt s i t.toNat)) i) := ⟨fun i hi => by rw [decide_eq_decide, index_ones, lback_ones s i tn hi, htn2]⟩
  have HLB : Aside0 (∀ i : Nat, i < s.size → impl_levelsBack.f s i t = some (lback s i tn)) := ⟨fun i hi => by rw [htn]; exact levelsBack_eq s hs i tn hi (by omega) (by omega)⟩
  have HTN := Aside0.mk htn
  have htn3 : tn ≤ 50 := by omega
  clear htn htn2
  go_enter Tryd.func35, Tryd.ntmps35
  go_wp2_with (first
    | ((with_reducible refine gate_dst (N := 2) rfl ?_); refine box_event ?hg (N := 2) ?hd (cs := #[.string s]) (t := 9) ?hr ?_; (case hd => rfl); (case hg => rfl); (case hr => first | (go_simp; done) | (go_simp; rfl)); intro g2 hg wn hbox hb; have GE2 := Aside0.mk (by rw [hg]; exact below_size HB.out : w.heap.size ≤ g2); clear hg; have BK20 := Aside0.mk hbox; clear hbox; have n0_ := Aside0.mk (below_step HB.out hb); clear HB  hb; have HB := n0_; clear n0_ ; have BK2 := BK20; clear BK20; have c2_0 : wn.cell? ⟨g2, 0, none⟩ = some (.string s) := (blk_cell BK2.out 0).trans rfl)
    | ((with_reducible refine gate_dst (N := 3) rfl ?_); refine box_event ?hg (N := 3) ?hd (cs := #[.int .i64 t]) (t := 2) ?hr ?_; (case hd => rfl); (case hg => rfl); (case hr => first | (go_simp; done) | (go_simp; rfl)); intro g3 hg wn hbox hb; have GE3 := Aside0.mk (by rw [hg]; exact below_size HB.out : w.heap.size ≤ g3); have NE2_3 := Aside0.mk (show g2 ≠ g3 by have := blk_lt BK2.out; omega); clear hg; have BK30 := Aside0.mk hbox; clear hbox; have n0_ := Aside0.mk (below_step HB.out hb); have m2_ := Aside0.mk (blk_below BK2.out hb); clear HB BK2 hb; have HB := n0_; have BK2 := m2_; clear n0_ m2_; have c2_0 : wn.cell? ⟨g2, 0, none⟩ = some (.string s) := (blk_cell BK2.out 0).trans rfl; have BK3 := BK30; clear BK30; have c3_0 : wn.cell? ⟨g3, 0, none⟩ = some (.int .i64 t) := (blk_cell BK3.out 0).trans rfl)
    | (go_at_call 42; (with_reducible refine (impl_isFilter.calls s t true _ Hh1.out).mono ?_); rintro e wn ⟨rfl, hb0⟩; (first | have hb := to_below_d hb0 | have hb := to_below_b hb0); clear hb0; have n0_ := Aside0.mk (below_step HB.out hb); have m2_ := Aside0.mk (blk_below BK2.out hb); have m3_ := Aside0.mk (blk_below BK3.out hb); clear HB BK2 BK3 hb; have HB := n0_; have BK2 := m2_; have BK3 := m3_; clear n0_ m2_ m3_; have c2_0 : wn.cell? ⟨g2, 0, none⟩ = some (.string s) := (blk_cell BK2.out 0).trans rfl; have c3_0 : wn.cell? ⟨g3, 0, none⟩ = some (.int .i64 t) := (blk_cell BK3.out 0).trans rfl)
    | (go_at_call 49; (with_reducible refine (waveOf_any s.size (by omega) 60 Tryd.f60 #[.pointer (some ⟨g2, 0, none⟩), .pointer (some ⟨g3, 0, none⟩)] (fun i => decide (0 < cnt s i t.toNat)) (fun _ W => W.heap[g2]? = some (.cells #[.string s] 9 (0, 0)) ∧ W.heap[g3]? = some (.cells #[.int .i64 t] 2 (0, 0))) w.heap.size (fun _ => False) _ Tryd.func60 rfl (by kernel_rfl) ⟨BK2.out, BK3.out⟩ (below_size HB.out) (fun _ hk => hk.elim) ?st ?cl).mono ?_); (case st => exact fun i wa wb hI hs => ⟨(hs g2 (blk_lt BK2.out)).trans hI.1, (hs g3 (blk_lt BK3.out)).trans hI.2⟩); (case cl => exact fun i hi wr hI hsz => (StretchClo s (lback s i tn) t i g2 g3 wr hI.1 hI.2 (HLB.out i hi)).mono fun e w' ⟨h1, h2⟩ => ⟨h1.trans (by rw [HLV.out i hi]), ⟨blk_below hI.1 h2, blk_below hI.2 h2⟩, h2.mono (Nat.le_trans (below_size HB.out) hsz), Kept.of_below h2 _⟩); rintro e wn ⟨rfl, hI, hb, hk⟩; have n0_ := Aside0.mk (HB.out.trans hb); clear HB hb hI hk; have HB := n0_; clear n0_))
  go_ret2
  exact ⟨rfl, HB.out⟩
def impl_StretchPulses.f (a0 : ByteArray) (a1 : Int) : Option (ByteArray × Bool) :=
  (impl_isFilter.f a0 a1).bind fun t => if t = true then some (strOfNums (lvs (fun i => decide (0 < cnt a0 i a1.toNat)) a0.size), true) else some (⟨#[]⟩, false)
theorem impl_StretchPulses.calls (a0 : ByteArray) (a1 : Int) (r1 : ByteArray) (r2 : Bool) (w : World) (h : impl_StretchPulses.f a0 a1 = some (r1, r2)) :
    Calls Tryd.prog 35 #[.string a0, .int .i64 a1] w fun e w' => e = .returned (.tuple #[.string r1, .bool r2]) ∧ Below w.heap.size w w' := by
  unfold impl_StretchPulses.f at h
  obtain ⟨t, ht, h⟩ := Option.bind_eq_some_iff.mp h
  cases t with
  | false =>
    rw [if_neg (by simp)] at h
    simp only [Option.some.injEq, Prod.mk.injEq] at h
    obtain ⟨rfl, rfl⟩ := h
    exact StretchPulses_no a0 a1 w ht
  | true =>
    rw [if_pos rfl] at h
    simp only [Option.some.injEq, Prod.mk.injEq] at h
    obtain ⟨rfl, rfl⟩ := h
    exact StretchPulses_yes a0 a1 w ht
end Go.Proofs.YtcpfkfaiakpfjaaDoor.X

-- Written by a program of this session out of the kit's print of the loaded functions: a plain function of a Go function, and its contract.
namespace Go.Proofs.YtcpfkfaiakpfjaaDoor.X
open Go.RowKit Go.Proofs.YtcpfkfaiakpfjaaDoorW.PrintWords Go.Proofs.YtcpfkfaiakpfjaaDoorW.PrintLast Go.Proofs.YtcpfkfaiakpfjaaDoorW.PrintMore
attribute [local go_sem] max2_int min2_int max_two min_two max_three min_three max_four min_four   -- for this text's walks alone
set_option linter.unusedVariables false
set_option linter.unusedSimpArgs false

/-! ### laws_FnExactStretchPulses: function 11 -/
def laws_FnExactStretchPulses.f (k : Nat) (a0 : ByteArray) (a1 : Int) : Option (Bool) := if (a0.size : Int) > 1048576 then (some true) else ((spec_StretchPulses.f k a0 a1).bind fun bt328 => ((impl_StretchPulses.f a0 a1).bind fun bt330 => (if bt330.1.toList = bt328.1.toList then (if (bt330.2 != bt328.2) = true then (some false) else (some true)) else (some false))))
theorem laws_FnExactStretchPulses.mono : ∀ a0 a1 k, LeO (laws_FnExactStretchPulses.f k a0 a1) (laws_FnExactStretchPulses.f (k + 1) a0 a1) := by
  intro a0 a1 k
  unfold laws_FnExactStretchPulses.f
  repeat' first
      | (with_reducible exact spec_StretchPulses.mono _ _ _)
      | (with_reducible exact LeO.refl _)
      | (with_reducible exact LeO.none _)
      | (with_reducible refine LeO.ite ?_ ?_)
      | (with_reducible refine LeO.bind ?_ (fun _ => ?_))
      | exact spec_StretchPulses.mono _ _ _
      | exact LeO.none _
      | refine LeO.ite ?_ ?_
      | refine LeO.bind ?_ (fun _ => ?_)
set_option maxHeartbeats 8000000 in
set_option maxRecDepth 100000 in
theorem laws_FnExactStretchPulses.calls (k : Nat) (a0 : ByteArray) (a1 : Int) (r : Bool) (w : World) (h : laws_FnExactStretchPulses.f k a0 a1 = some r) :
    Calls Tryd.prog 11 #[.string a0, .int .i64 a1] w fun e w' => e = .returned (.bool r) ∧ Below w.heap.size w w' := by
  have HB := Aside0.mk (Below.refl w.heap.size w)
  have H : (if (a0.size : Int) > 1048576 then (some true) else ((spec_StretchPulses.f k a0 a1).bind fun bt328 => ((impl_StretchPulses.f a0 a1).bind fun bt330 => (if bt330.1.toList = bt328.1.toList then (if (bt330.2 != bt328.2) = true then (some false) else (some true)) else (some false))))) = some r := h
  clear h
  by_cases c3 : (a0.size : Int) > 1048576
  · rw [if_pos c3] at H
    have c3b0 : decide (1048576 < (a0.size : Int)) = true := decide_eq_true c3
    have c3b1 : decide (1048576 < a0.size) = true := decide_eq_true (by omega)
    clear c3
    obtain rfl := Option.some.inj H
    go_enter Tryd.func11, Tryd.ntmps11
    go_wp2
    go_ret
    exact ⟨by first | rfl | (simp [errW_none, errW_some] <;> rfl) | (simp [*, errW_none, errW_some] <;> rfl), by repeat (first | (with_reducible first | exact HB.out | apply below_alloc | apply pw_below_drewN | apply below_drew1) | exact HB.out)⟩
  · rw [if_neg c3] at H
    have c3b0 : decide (1048576 < (a0.size : Int)) = false := decide_eq_false c3
    have c3b1 : decide (1048576 < a0.size) = false := decide_eq_false (by omega)
    clear c3
    replace H := Option.bind_eq_some_iff.mp H
    obtain ⟨⟨t328, t329⟩, A40, H⟩ := H
    replace H : ((impl_StretchPulses.f a0 a1).bind fun bt330 => (if bt330.1.toList = t328.toList then (if (bt330.2 != t329) = true then (some false) else (some true)) else (some false))) = some r := H
    have A4 := Aside0.mk A40
    clear A40
    replace H := Option.bind_eq_some_iff.mp H
    obtain ⟨⟨t330, t331⟩, A50, H⟩ := H
    replace H : (if t330.toList = t328.toList then (if (t331 != t329) = true then (some false) else (some true)) else (some false)) = some r := H
    have A5 := Aside0.mk A50
    clear A50
    by_cases c6 : t330.toList = t328.toList
    · rw [if_pos c6] at H
      have c6b0 : (t330.toList == t328.toList) = true := beq_iff_eq.mpr c6
      have c6b1 : (t330.toList != t328.toList) = false := bne_eq_false_iff_eq.mpr c6
      clear c6
      by_cases c7 : (t331 != t329) = true
      · rw [if_pos c7] at H
        have c7b0 : (t331 != t329) = true := c7
        (try (have c7b1 : decide (t331 = t329) = false := by simpa using c7))
        (try (have c7b2 : (t331 == t329) = false := by simpa using c7))
        (try (have c7b3 : ¬ (t331 = t329) := by simpa using c7))
        clear c7
        obtain rfl := Option.some.inj H
        go_enter Tryd.func11, Tryd.ntmps11
        go_wp2_with (first | ((with_reducible refine gate_callee (f := 34) rfl ?_); refine goesL_ (some 15) rfl rfl Tryd.func34 (by kernel_rfl) rfl #[.string a0, .int .i64 a1] rfl (by (try simp only [List.map_toArray, List.map_cons, List.map_nil]); first | done | rfl | (simp only [List.length_drop, List.length_take]; rfl)) ?_; (with_reducible refine (spec_StretchPulses.calls k a0 a1 t328 t329 _ A4.out).mono ?_); rintro e w8 ⟨rfl, hb⟩; refine ⟨_, rfl, ?_⟩; have n0_ := Aside0.mk (below_step (by repeat (first | (with_reducible first | exact HB.out | apply below_alloc | apply pw_below_drewN | apply below_drew1) | exact HB.out)) hb); clear HB; have HB := n0_; clear n0_; (try clear hb); (try clear hb2); (try clear hk); (try clear hi)) | ((with_reducible refine gate_callee (f := 35) rfl ?_); refine goesL_ (some 21) rfl rfl Tryd.func35 (by kernel_rfl) rfl #[.string a0, .int .i64 a1] rfl (by (try simp only [List.map_toArray, List.map_cons, List.map_nil]); first | done | rfl | (simp only [List.length_drop, List.length_take]; rfl)) ?_; (with_reducible refine (impl_StretchPulses.calls a0 a1 t330 t331 _ A5.out).mono ?_); rintro e w9 ⟨rfl, hb⟩; refine ⟨_, rfl, ?_⟩; have n0_ := Aside0.mk (below_step (by repeat (first | (with_reducible first | exact HB.out | apply below_alloc | apply pw_below_drewN | apply below_drew1) | exact HB.out)) hb); clear HB; have HB := n0_; clear n0_; (try clear hb); (try clear hb2); (try clear hk); (try clear hi)))
        go_ret
        exact ⟨by first | rfl | (simp [errW_none, errW_some] <;> rfl) | (simp [*, errW_none, errW_some] <;> rfl), by repeat (first | (with_reducible first | exact HB.out | apply below_alloc | apply pw_below_drewN | apply below_drew1) | exact HB.out)⟩
      · rw [if_neg c7] at H
        have c7b0 : (t331 != t329) = false := by simpa using c7
        (try (have c7b1 : decide (t331 = t329) = true := by simpa using c7))
        (try (have c7b2 : (t331 == t329) = true := by simpa using c7))
        clear c7
        obtain rfl := Option.some.inj H
        go_enter Tryd.func11, Tryd.ntmps11
        go_wp2_with (first | ((with_reducible refine gate_callee (f := 34) rfl ?_); refine goesL_ (some 15) rfl rfl Tryd.func34 (by kernel_rfl) rfl #[.string a0, .int .i64 a1] rfl (by (try simp only [List.map_toArray, List.map_cons, List.map_nil]); first | done | rfl | (simp only [List.length_drop, List.length_take]; rfl)) ?_; (with_reducible refine (spec_StretchPulses.calls k a0 a1 t328 t329 _ A4.out).mono ?_); rintro e w10 ⟨rfl, hb⟩; refine ⟨_, rfl, ?_⟩; have n0_ := Aside0.mk (below_step (by repeat (first | (with_reducible first | exact HB.out | apply below_alloc | apply pw_below_drewN | apply below_drew1) | exact HB.out)) hb); clear HB; have HB := n0_; clear n0_; (try clear hb); (try clear hb2); (try clear hk); (try clear hi)) | ((with_reducible refine gate_callee (f := 35) rfl ?_); refine goesL_ (some 21) rfl rfl Tryd.func35 (by kernel_rfl) rfl #[.string a0, .int .i64 a1] rfl (by (try simp only [List.map_toArray, List.map_cons, List.map_nil]); first | done | rfl | (simp only [List.length_drop, List.length_take]; rfl)) ?_; (with_reducible refine (impl_StretchPulses.calls a0 a1 t330 t331 _ A5.out).mono ?_); rintro e w11 ⟨rfl, hb⟩; refine ⟨_, rfl, ?_⟩; have n0_ := Aside0.mk (below_step (by repeat (first | (with_reducible first | exact HB.out | apply below_alloc | apply pw_below_drewN | apply below_drew1) | exact HB.out)) hb); clear HB; have HB := n0_; clear n0_; (try clear hb); (try clear hb2); (try clear hk); (try clear hi)))
        go_ret
        exact ⟨by first | rfl | (simp [errW_none, errW_some] <;> rfl) | (simp [*, errW_none, errW_some] <;> rfl), by repeat (first | (with_reducible first | exact HB.out | apply below_alloc | apply pw_below_drewN | apply below_drew1) | exact HB.out)⟩
    · rw [if_neg c6] at H
      have c6b0 : (t330.toList == t328.toList) = false := beq_eq_false_iff_ne.mpr c6
      have c6b1 : (t330.toList != t328.toList) = true := bne_iff_ne.mpr c6
      obtain rfl := Option.some.inj H
      go_enter Tryd.func11, Tryd.ntmps11
      go_wp2_with (first | ((with_reducible refine gate_callee (f := 34) rfl ?_); refine goesL_ (some 15) rfl rfl Tryd.func34 (by kernel_rfl) rfl #[.string a0, .int .i64 a1] rfl (by (try simp only [List.map_toArray, List.map_cons, List.map_nil]); first | done | rfl | (simp only [List.length_drop, List.length_take]; rfl)) ?_; (with_reducible refine (spec_StretchPulses.calls k a0 a1 t328 t329 _ A4.out).mono ?_); rintro e w12 ⟨rfl, hb⟩; refine ⟨_, rfl, ?_⟩; have n0_ := Aside0.mk (below_step (by repeat (first | (with_reducible first | exact HB.out | apply below_alloc | apply pw_below_drewN | apply below_drew1) | exact HB.out)) hb); clear HB; have HB := n0_; clear n0_; (try clear hb); (try clear hb2); (try clear hk); (try clear hi)) | ((with_reducible refine gate_callee (f := 35) rfl ?_); refine goesL_ (some 21) rfl rfl Tryd.func35 (by kernel_rfl) rfl #[.string a0, .int .i64 a1] rfl (by (try simp only [List.map_toArray, List.map_cons, List.map_nil]); first | done | rfl | (simp only [List.length_drop, List.length_take]; rfl)) ?_; (with_reducible refine (impl_StretchPulses.calls a0 a1 t330 t331 _ A5.out).mono ?_); rintro e w13 ⟨rfl, hb⟩; refine ⟨_, rfl, ?_⟩; have n0_ := Aside0.mk (below_step (by repeat (first | (with_reducible first | exact HB.out | apply below_alloc | apply pw_below_drewN | apply below_drew1) | exact HB.out)) hb); clear HB; have HB := n0_; clear n0_; (try clear hb); (try clear hb2); (try clear hk); (try clear hi)))
      go_ret
      exact ⟨by first | rfl | (simp [errW_none, errW_some] <;> rfl) | (simp [*, errW_none, errW_some] <;> rfl), by repeat (first | (with_reducible first | exact HB.out | apply below_alloc | apply pw_below_drewN | apply below_drew1) | exact HB.out)⟩

/-- THE ONE PURE STATEMENT of laws_FnExactStretchPulses: yours. -/
def laws_FnExactStretchPulses.Pure : Prop := ∀ (a0 : ByteArray) (a1 : Int), a0.size ≤ 140737488351232 → (Lit.int .i64 a1).wf = true → ∃ k, laws_FnExactStretchPulses.f k a0 a1 = some true
theorem laws_FnExactStretchPulses.walk (P : laws_FnExactStretchPulses.Pure) (a0 : ByteArray) (a1 : Int) (w : World) (w0 : a0.size ≤ 140737488351232) (w1 : (Lit.int .i64 a1).wf = true) :
    Calls Tryd.prog 11 #[.string a0, .int .i64 a1] w fun e w' => e = .returned (.bool true) ∧ Below w.heap.size w w' := by
  obtain ⟨k, h⟩ := P a0 a1 w0 w1
  refine (laws_FnExactStretchPulses.calls k a0 a1 true w h).mono ?_
  rintro e w' ⟨rfl, hd⟩
  exact ⟨rfl, hd⟩

end Go.Proofs.YtcpfkfaiakpfjaaDoor.X

-- Written by a program of this session out of the kit's print of the loaded functions: a plain function of a Go function, and its contract.
namespace Go.Proofs.YtcpfkfaiakpfjaaDoor.X
open Go.RowKit Go.Proofs.YtcpfkfaiakpfjaaDoorW.PrintWords Go.Proofs.YtcpfkfaiakpfjaaDoorW.PrintLast Go.Proofs.YtcpfkfaiakpfjaaDoorW.PrintMore
attribute [local go_sem] max2_int min2_int max_two min_two max_three min_three max_four min_four   -- for this text's walks alone
set_option linter.unusedVariables false
set_option linter.unusedSimpArgs false

/-! ### spec_MajorityWave: function 36 -/
mutual
def spec_MajorityWave.j0 : Nat → ByteArray → Int → Bool → Option (ByteArray × Bool)
  | 0, _, _, _ => none
  | k + 1, x0, x1, x16 => if x16 = true then (some ((⟨#[]⟩ : ByteArray), false)) else (spec_MajorityWave.l0 k x0 x1 (([] : List Int)) 0)
def spec_MajorityWave.l0 : Nat → ByteArray → Int → List Int → Int → Option (ByteArray × Bool)
  | 0, _, _, _, _ => none
  | k + 1, x0, x1, x6, x7 => if x7 < (x0.size : Int) then ((spec_l09Last.f k x0 x7 x1).bind fun t336 => ((spec_l07Level.f (decide ((wrap64 (2 * t336)) > x1))).bind fun t337 => (if x6.length < 140737488355328 then (spec_MajorityWave.l0 k x0 x1 (x6 ++ [t337]) (wrap64 (x7 + 1))) else (none)))) else (some (strOfNums x6, true))
end
def spec_MajorityWave.f (k : Nat) (a0 : ByteArray) (a1 : Int) : Option (ByteArray × Bool) := (spec_l09Filter.f k a0 a1).bind fun t332 => (if t332 = true then (spec_MajorityWave.j0 k a0 a1 ((Int.tmod a1 2) == 0)) else (spec_MajorityWave.j0 k a0 a1 true))
theorem spec_MajorityWave.mono_l : ∀ k, (∀ y0 y1 y2, LeO (spec_MajorityWave.j0 k y0 y1 y2) (spec_MajorityWave.j0 (k + 1) y0 y1 y2)) ∧ (∀ y0 y1 y2 y3, LeO (spec_MajorityWave.l0 k y0 y1 y2 y3) (spec_MajorityWave.l0 (k + 1) y0 y1 y2 y3))
  | 0 => ⟨fun _ _ _ r h => by simp [spec_MajorityWave.j0] at h, fun _ _ _ _ r h => by simp [spec_MajorityWave.l0] at h⟩
  | k + 1 => by
    obtain ⟨ih0, ih1⟩ := spec_MajorityWave.mono_l k
    refine ⟨?_, ?_⟩
    · intro y0 y1 y2
      unfold spec_MajorityWave.j0
      repeat' first
      | (with_reducible exact ih0 _ _ _)
      | (with_reducible exact ih1 _ _ _ _)
      | (with_reducible exact spec_l09Filter.mono _ _ _)
      | (with_reducible exact spec_l09Last.mono _ _ _ _)
      | (with_reducible exact LeO.refl _)
      | (with_reducible exact LeO.none _)
      | (with_reducible refine LeO.ite ?_ ?_)
      | (with_reducible refine LeO.bind ?_ (fun _ => ?_))
      | exact ih0 _ _ _
      | exact ih1 _ _ _ _
      | exact spec_l09Filter.mono _ _ _
      | exact spec_l09Last.mono _ _ _ _
      | exact LeO.none _
      | refine LeO.ite ?_ ?_
      | refine LeO.bind ?_ (fun _ => ?_)
    · intro y0 y1 y2 y3
      unfold spec_MajorityWave.l0
      repeat' first
      | (with_reducible exact ih0 _ _ _)
      | (with_reducible exact ih1 _ _ _ _)
      | (with_reducible exact spec_l09Filter.mono _ _ _)
      | (with_reducible exact spec_l09Last.mono _ _ _ _)
      | (with_reducible exact LeO.refl _)
      | (with_reducible exact LeO.none _)
      | (with_reducible refine LeO.ite ?_ ?_)
      | (with_reducible refine LeO.bind ?_ (fun _ => ?_))
      | exact ih0 _ _ _
      | exact ih1 _ _ _ _
      | exact spec_l09Filter.mono _ _ _
      | exact spec_l09Last.mono _ _ _ _
      | exact LeO.none _
      | refine LeO.ite ?_ ?_
      | refine LeO.bind ?_ (fun _ => ?_)
theorem spec_MajorityWave.mono : ∀ a0 a1 k, LeO (spec_MajorityWave.f k a0 a1) (spec_MajorityWave.f (k + 1) a0 a1) := by
  intro a0 a1 k
  obtain ⟨ih0, ih1⟩ := spec_MajorityWave.mono_l k
  unfold spec_MajorityWave.f
  repeat' first
      | (with_reducible exact ih0 _ _ _)
      | (with_reducible exact ih1 _ _ _ _)
      | (with_reducible exact spec_l09Filter.mono _ _ _)
      | (with_reducible exact spec_l09Last.mono _ _ _ _)
      | (with_reducible exact LeO.refl _)
      | (with_reducible exact LeO.none _)
      | (with_reducible refine LeO.ite ?_ ?_)
      | (with_reducible refine LeO.bind ?_ (fun _ => ?_))
      | exact ih0 _ _ _
      | exact ih1 _ _ _ _
      | exact spec_l09Filter.mono _ _ _
      | exact spec_l09Last.mono _ _ _ _
      | exact LeO.none _
      | refine LeO.ite ?_ ?_
      | refine LeO.bind ?_ (fun _ => ?_)
set_option maxHeartbeats 8000000 in
set_option maxRecDepth 100000 in
theorem spec_MajorityWave.calls (k : Nat) (a0 : ByteArray) (a1 : Int) (r1 : ByteArray) (r2 : Bool) (w : World) (h : spec_MajorityWave.f k a0 a1 = some (r1, r2)) :
    Calls Tryd.prog 36 #[.string a0, .int .i64 a1] w fun e w' => e = .returned (.tuple #[.string r1, .bool r2]) ∧ Below w.heap.size w w' := by
  have HB := Aside0.mk (Below.refl w.heap.size w)
  have H : ((spec_l09Filter.f k a0 a1).bind fun t332 => (if t332 = true then (spec_MajorityWave.j0 k a0 a1 ((Int.tmod a1 2) == 0)) else (spec_MajorityWave.j0 k a0 a1 true))) = some (r1, r2) := h
  clear h
  have HC3 := Aside0.mk H
  clear H
  go_enter Tryd.func36, Tryd.ntmps36
  go_upto_region 1 with (fail)
  go_cut [16] (fun v16 wc => ∃ (kq : Nat) (x16_2 : Bool), v16 = .bool x16_2 ∧ Aside0 (spec_MajorityWave.j0 kq a0 a1 x16_2 = some (r1, r2)) ∧ Aside0 (kq ≤ k) ∧ Aside0 (Below w.heap.size w wc))
  case first =>
    have H := HC3.out
    clear HC3
    replace H := Option.bind_eq_some_iff.mp H
    obtain ⟨t332, A40, H⟩ := H
    replace H : (if t332 = true then (spec_MajorityWave.j0 k a0 a1 ((Int.tmod a1 2) == 0)) else (spec_MajorityWave.j0 k a0 a1 true)) = some (r1, r2) := H
    have A4 := Aside0.mk A40
    clear A40
    by_cases c5 : t332 = true
    · subst c5
      have H1 : (spec_MajorityWave.j0 k a0 a1 ((Int.tmod a1 2) == 0)) = some (r1, r2) := by rw [if_pos rfl] at H; exact H
      clear H
      have H := H1
      clear H1
      have H' := Aside0.mk H
      clear H
      go_wp2_with (first | ((with_reducible refine gate_callee (f := 40) rfl ?_); refine goesL_ (some 10) rfl rfl Tryd.func40 (by kernel_rfl) rfl #[.string a0, .int .i64 a1] rfl (by (try simp only [List.map_toArray, List.map_cons, List.map_nil]); first | done | rfl | (simp only [List.length_drop, List.length_take]; rfl)) ?_; (with_reducible refine (spec_l09Filter.calls k a0 a1 true _ A4.out).mono ?_); rintro e w' ⟨rfl, ⟨nd, rfl⟩⟩; refine ⟨_, rfl, ?_⟩))
      go_meet
      case rel => exact ⟨_, (((Int.tmod a1 2) == 0)), (by first | rfl | (simp; done) | (simp [*]; done)), H', ⟨by first | omega | exact Nat.le_refl _⟩, ⟨by repeat (first | (with_reducible first | exact HB.out | apply below_alloc | apply pw_below_drewN | apply below_drew1) | exact HB.out)⟩⟩
    · replace c5 := Bool.eq_false_iff.mpr c5
      subst c5
      have H1 : (spec_MajorityWave.j0 k a0 a1 true) = some (r1, r2) := by rw [if_neg (show ¬ (false = true) by decide)] at H; exact H
      clear H
      have H := H1
      clear H1
      have H' := Aside0.mk H
      clear H
      go_wp2_with (first | ((with_reducible refine gate_callee (f := 40) rfl ?_); refine goesL_ (some 10) rfl rfl Tryd.func40 (by kernel_rfl) rfl #[.string a0, .int .i64 a1] rfl (by (try simp only [List.map_toArray, List.map_cons, List.map_nil]); first | done | rfl | (simp only [List.length_drop, List.length_take]; rfl)) ?_; (with_reducible refine (spec_l09Filter.calls k a0 a1 false _ A4.out).mono ?_); rintro e w' ⟨rfl, ⟨nd, rfl⟩⟩; refine ⟨_, rfl, ?_⟩))
      go_meet
      case rel => exact ⟨_, (true), (by first | rfl | (simp; done) | (simp [*]; done)), H', ⟨by first | omega | exact Nat.le_refl _⟩, ⟨by repeat (first | (with_reducible first | exact HB.out | apply below_alloc | apply pw_below_drewN | apply below_drew1) | exact HB.out)⟩⟩
  case rest =>
    clear HC3
    try clear p2
    try clear c3
    try clear c4
    try clear c5
    obtain ⟨kq, x16_2, rfl, HA, HJ2, HB⟩ := hcut
    cases kq with
    | zero => exact absurd HA.out (by simp [spec_MajorityWave.j0])
    | succ kj2 =>
      have H := HA.out
      clear HA
      simp only [spec_MajorityWave.j0] at H
      by_cases c6 : x16_2 = true
      · subst c6
        have H1 : (some ((⟨#[]⟩ : ByteArray), false)) = some (r1, r2) := by rw [if_pos rfl] at H; exact H
        clear H
        have H := H1
        clear H1
        simp only [Option.some.injEq, Prod.mk.injEq] at H
        obtain ⟨rfl, rfl⟩ := H
        go_wp2
        go_ret2
        exact ⟨by first | rfl | (simp [errW_none, errW_some] <;> rfl) | (simp [*, errW_none, errW_some] <;> rfl), by repeat (first | (with_reducible first | exact HB.out | apply below_alloc | apply pw_below_drewN | apply below_drew1) | exact HB.out)⟩
      · replace c6 := Bool.eq_false_iff.mpr c6
        subst c6
        have H1 : (spec_MajorityWave.l0 kj2 a0 a1 (([] : List Int)) 0) = some (r1, r2) := by rw [if_neg (show ¬ (false = true) by decide)] at H; exact H
        clear H
        have H := H1
        clear H1
        obtain ⟨y333, hy333⟩ : ∃ y_ : List Int, y_ = (([] : List Int)) := ⟨_, rfl⟩
        replace H : (spec_MajorityWave.l0 kj2 a0 a1 y333 0) = some (r1, r2) := by first | (rw [hy333]; with_reducible exact H) | (have H2_ := (Option.bind_some _ _).symm.trans H; rw [hy333]; with_reducible exact H2_) | (have H2_ := (Option.bind_some _ _).symm.trans H; with_reducible exact H2_) | with_reducible exact H | (rw [hy333]; exact H) | exact H
        have Ny333 := Aside0.mk hy333
        clear hy333
        have H' := Aside0.mk H
        clear H
        go_wp2_with (first | ((with_reducible refine gate_dst (N := 17) rfl ?_); refine Kd.R_lit (Kd.int .u8) _ 5 ?hg (N := 17) ?hd (xs := ([] : List Int)) (inner := []) (ok := fun _ => True) (okp := fun _ => True) ?hr ?hp (fun _ hk => hk) trivial (Below.refl _ _) (Nat.le_refl _) (by simp) ?_; (case hd => rfl); (case hg => rfl); (case hr => first | (go_simp; done) | (go_simp; rfl)); (case hp => exact (Reps.none _ _)); intro v334 w7 ho8 hb hg_ hnew_; clear hg_ hnew_; (first | rw [← Ny333.out] at ho8 | (simp only [Int.reduceToNat] at ho8; rw [← Ny333.out] at ho8)); have n0_ := Aside0.mk (Kd.R_lower ho8 (below_size (by repeat (first | (with_reducible first | exact HB.out | apply below_alloc | apply pw_below_drewN | apply below_drew1) | exact HB.out)))); have n1_ := Aside0.mk (below_step (by repeat (first | (with_reducible first | exact HB.out | apply below_alloc | apply pw_below_drewN | apply below_drew1) | exact HB.out)) hb); clear HB; have HO335 := n0_; have HB := n1_; clear n0_ n1_; clear hb ho8))
        go_loopg [6, 7] kj2 (fun kq v6 v7 w' => ∃ (x6_2 : List Int) (x7_2 : Int), v7 = .int .i64 x7_2 ∧ Aside0 (spec_MajorityWave.l0 kq a0 a1 x6_2 x7_2 = some (r1, r2)) ∧ Aside0 (kq ≤ kj2) ∧ Aside0 (Kd.R (Kd.int .u8) 5 w' w.heap.size (fun _ => True) v6 x6_2) ∧ Aside0 (Below w.heap.size w w'))
        case atStart => exact ⟨(y333), (0), (by first | rfl | (simp; done) | (simp [*]; done)), H', ⟨Nat.le_refl _⟩, ⟨by (with_reducible repeat (first | apply Kd.R_alloc | apply Kd.R_drewN | apply Kd.R_drew)); exact HO335.out⟩, ⟨by repeat (first | (with_reducible first | exact HB.out | apply below_alloc | apply pw_below_drewN | apply below_drew1) | exact HB.out)⟩⟩
        case round =>
          clear H'
          try clear p2
          try clear c3
          try clear c4
          try clear c5
          try clear c6
          try clear p2
          obtain ⟨x6_2, x7_2, rfl, HA, HK2, HO_6, HB⟩ := hrel
          cases gk with
          | zero => exact absurd HA.out (by simp [spec_MajorityWave.l0])
          | succ k2 =>
            have H := HA.out
            clear HA
            simp only [spec_MajorityWave.l0] at H
            by_cases c9 : x7_2 < (a0.size : Int)
            · rw [if_pos c9] at H
              have c9b0 : decide (x7_2 < (a0.size : Int)) = true := decide_eq_true c9
              clear c9
              replace H := Option.bind_eq_some_iff.mp H
              obtain ⟨t336, A100, H⟩ := H
              replace H : ((spec_l07Level.f (decide ((wrap64 (2 * t336)) > a1))).bind fun t337 => (if x6_2.length < 140737488355328 then (spec_MajorityWave.l0 k2 a0 a1 (x6_2 ++ [t337]) (wrap64 (x7_2 + 1))) else (none))) = some (r1, r2) := H
              have A10 := Aside0.mk A100
              clear A100
              replace H := Option.bind_eq_some_iff.mp H
              obtain ⟨t337, A110, H⟩ := H
              replace H : (if x6_2.length < 140737488355328 then (spec_MajorityWave.l0 k2 a0 a1 (x6_2 ++ [t337]) (wrap64 (x7_2 + 1))) else (none)) = some (r1, r2) := H
              have A11 := Aside0.mk A110
              clear A110
              by_cases c12 : x6_2.length < 140737488355328
              · rw [if_pos c12] at H
                have LMc12 := Aside0.mk c12
                clear c12
                obtain ⟨y338, hy338⟩ : ∃ y_ : List Int, y_ = (x6_2 ++ [t337]) := ⟨_, rfl⟩
                replace H : (spec_MajorityWave.l0 k2 a0 a1 y338 (wrap64 (x7_2 + 1))) = some (r1, r2) := by first | (rw [hy338]; with_reducible exact H) | (have H2_ := (Option.bind_some _ _).symm.trans H; rw [hy338]; with_reducible exact H2_) | (have H2_ := (Option.bind_some _ _).symm.trans H; with_reducible exact H2_) | with_reducible exact H | (rw [hy338]; exact H) | exact H
                have Ny338 := Aside0.mk hy338
                clear hy338
                have H' := Aside0.mk H
                clear H
                go_wp2_with (first | ((with_reducible refine gate_callee (f := 59) rfl ?_); refine goesL_ (some 28) rfl rfl Tryd.func59 (by kernel_rfl) rfl #[.string a0, .int .i64 x7_2, .int .i64 a1] rfl (by (try simp only [List.map_toArray, List.map_cons, List.map_nil]); first | done | rfl | (simp only [List.length_drop, List.length_take]; rfl)) ?_; (with_reducible refine (spec_l09Last.calls k2 a0 x7_2 a1 t336 _ A10.out).mono ?_); rintro e w' ⟨rfl, ⟨nd, rfl⟩⟩; refine ⟨_, rfl, ?_⟩) | ((with_reducible refine gate_callee (f := 45) rfl ?_); refine goesL_ (some 32) rfl rfl Tryd.func45 (by kernel_rfl) rfl #[.bool (decide ((wrap64 (2 * t336)) > a1))] rfl (by (try simp only [List.map_toArray, List.map_cons, List.map_nil]); first | done | rfl | (simp only [List.length_drop, List.length_take]; rfl)) ?_; (with_reducible refine (spec_l07Level.calls (decide ((wrap64 (2 * t336)) > a1)) t337 _ A11.out).mono ?_); rintro e w' ⟨rfl, ⟨nd, rfl⟩⟩; refine ⟨_, rfl, ?_⟩) | ((with_reducible refine gate_builtin (b := .append) (xs := #[.tmp 24, .tmp 33]) rfl ?_); at_builtin; refine Kd.R_append (Kd.int .u8) (w0 := w) w.heap.size rfl (.tmp 24) (.tmp 33) 34 5 (.int .u8 0) 1 rfl Tryd.underlying34 info5 rfl (by decide) (by omega) u6 x6_2 t337 [.int .u8 t337] (fun _ => True) (fun _ => False) rfl rfl ?aP (fun _ hk => hk.elim) ?aF ?aO ?aB ?aS ?aL ?_; (case aP => exact rfl); (case aB => exact (by repeat (first | (with_reducible first | exact HB.out | apply below_alloc | apply pw_below_drewN | apply below_drew1) | exact HB.out))); (case aF => exact (fun _ _ => trivial)); (case aO => exact (by (with_reducible repeat (first | apply Kd.R_alloc | apply Kd.R_drewN | apply Kd.R_drew)); exact HO_6.out)); (case aS => exact (below_size (by repeat (first | (with_reducible first | exact HB.out | apply below_alloc | apply pw_below_drewN | apply below_drew1) | exact HB.out)))); (case aL => have := LMc12.out; omega); intro v339 w13 ho hb hg hat; rw [← Ny338.out] at ho; have n0_ := Aside0.mk (hb); have n1_ := Aside0.mk (ho); clear HB; clear HO_6; have HB := n0_; have HO340 := n1_; clear n0_ n1_; clear ho hb hg hat))
                go_roundg k2
                case measure => have := HJ2.out; have := HK2.out; omega
                case rel => exact ⟨(y338), (wrap64 (x7_2 + 1)), (by first | rfl | (simp; done) | (simp [*]; done)), H', ⟨by have := HJ2.out; have := HK2.out; omega⟩, ⟨by (with_reducible repeat (first | apply Kd.R_alloc | apply Kd.R_drewN | apply Kd.R_drew)); exact HO340.out⟩, ⟨by repeat (first | (with_reducible first | exact HB.out | apply below_alloc | apply pw_below_drewN | apply below_drew1) | exact HB.out)⟩⟩
              · rw [if_neg c12] at H
                exact absurd H (by simp)
            · rw [if_neg c9] at H
              have c9b0 : decide (x7_2 < (a0.size : Int)) = false := decide_eq_false c9
              clear c9
              simp only [Option.some.injEq, Prod.mk.injEq] at H
              obtain ⟨rfl, rfl⟩ := H
              have hcv14 := own_string (P := Tryd.prog) Tryd.underlying34 Tryd.underlying5 Tryd.underlying9 (Kd.own_of_R HO_6.out)
              go_wp2
              go_ret2
              exact ⟨by first | rfl | (simp [errW_none, errW_some] <;> rfl) | (simp [*, errW_none, errW_some] <;> rfl), by repeat (first | (with_reducible first | exact HB.out | apply below_alloc | apply pw_below_drewN | apply below_drew1) | exact HB.out)⟩

end Go.Proofs.YtcpfkfaiakpfjaaDoor.X

/- The program's MajorityWave: what it answers. Conditions: none. -/
namespace Go.Proofs.YtcpfkfaiakpfjaaDoor.X
open Go.RowKit Go.Proofs.YtcpfkfaiakpfjaaDoorW.PrintWords Go.Proofs.YtcpfkfaiakpfjaaDoorW.PrintLast Go.Proofs.YtcpfkfaiakpfjaaDoorW.PrintMore
set_option linter.unusedVariables false
set_option linter.unusedSimpArgs false
set_option maxHeartbeats 4000000 in
set_option maxRecDepth 100000 in
theorem MajorityWave_no (s : ByteArray) (t : Int) (w : World) (h1 : impl_isFilter.f s t = some false) :
    Calls Tryd.prog 37 #[.string s, .int .i64 t] w fun e w' => e = .returned (.tuple #[.string ⟨#[]⟩, .bool false]) ∧ Below w.heap.size w w' := by
  have Hh1 := Aside0.mk h1
  clear h1
  have HB := Aside0.mk (Below.refl w.heap.size w)
  go_enter Tryd.func37, Tryd.ntmps37
  go_wp2_with (first
    | ((with_reducible refine gate_dst (N := 2) rfl ?_); refine box_event ?hg (N := 2) ?hd (cs := #[.string s]) (t := 9) ?hr ?_; (case hd => rfl); (case hg => rfl); (case hr => first | (go_simp; done) | (go_simp; rfl)); intro g2 hg wn hbox hb; have GE2 := Aside0.mk (by rw [hg]; exact below_size HB.out : w.heap.size ≤ g2); clear hg; have BK20 := Aside0.mk hbox; clear hbox; have n0_ := Aside0.mk (below_step HB.out hb); clear HB  hb; have HB := n0_; clear n0_ ; have BK2 := BK20; clear BK20; have c2_0 : wn.cell? ⟨g2, 0, none⟩ = some (.string s) := (blk_cell BK2.out 0).trans rfl)
    | ((with_reducible refine gate_dst (N := 3) rfl ?_); refine box_event ?hg (N := 3) ?hd (cs := #[.int .i64 t]) (t := 2) ?hr ?_; (case hd => rfl); (case hg => rfl); (case hr => first | (go_simp; done) | (go_simp; rfl)); intro g3 hg wn hbox hb; have GE3 := Aside0.mk (by rw [hg]; exact below_size HB.out : w.heap.size ≤ g3); have NE2_3 := Aside0.mk (show g2 ≠ g3 by have := blk_lt BK2.out; omega); clear hg; have BK30 := Aside0.mk hbox; clear hbox; have n0_ := Aside0.mk (below_step HB.out hb); have m2_ := Aside0.mk (blk_below BK2.out hb); clear HB BK2 hb; have HB := n0_; have BK2 := m2_; clear n0_ m2_; have c2_0 : wn.cell? ⟨g2, 0, none⟩ = some (.string s) := (blk_cell BK2.out 0).trans rfl; have BK3 := BK30; clear BK30; have c3_0 : wn.cell? ⟨g3, 0, none⟩ = some (.int .i64 t) := (blk_cell BK3.out 0).trans rfl)
    | (go_at_call 42; (with_reducible refine (impl_isFilter.calls s t false _ Hh1.out).mono ?_); rintro e wn ⟨rfl, hb0⟩; (first | have hb := to_below_d hb0 | have hb := to_below_b hb0); clear hb0; have n0_ := Aside0.mk (below_step HB.out hb); have m2_ := Aside0.mk (blk_below BK2.out hb); have m3_ := Aside0.mk (blk_below BK3.out hb); clear HB BK2 BK3 hb; have HB := n0_; have BK2 := m2_; have BK3 := m3_; clear n0_ m2_ m3_; have c2_0 : wn.cell? ⟨g2, 0, none⟩ = some (.string s) := (blk_cell BK2.out 0).trans rfl; have c3_0 : wn.cell? ⟨g3, 0, none⟩ = some (.int .i64 t) := (blk_cell BK3.out 0).trans rfl))
  go_ret2
  exact ⟨rfl, HB.out⟩
set_option maxHeartbeats 4000000 in
set_option maxRecDepth 100000 in
theorem MajorityWave_no0 (s : ByteArray) (t : Int) (hz : (t.tmod 2 == 0) = true) (w : World) (h1 : impl_isFilter.f s t = some true) :
    Calls Tryd.prog 37 #[.string s, .int .i64 t] w fun e w' => e = .returned (.tuple #[.string ⟨#[]⟩, .bool false]) ∧ Below w.heap.size w w' := by
  have Hh1 := Aside0.mk h1
  clear h1
  have HB := Aside0.mk (Below.refl w.heap.size w)
  have hz1 : (t.tmod 2 == 0) = true := hz
  go_enter Tryd.func37, Tryd.ntmps37
  go_wp2_with (first
    | ((with_reducible refine gate_dst (N := 2) rfl ?_); refine box_event ?hg (N := 2) ?hd (cs := #[.string s]) (t := 9) ?hr ?_; (case hd => rfl); (case hg => rfl); (case hr => first | (go_simp; done) | (go_simp; rfl)); intro g2 hg wn hbox hb; have GE2 := Aside0.mk (by rw [hg]; exact below_size HB.out : w.heap.size ≤ g2); clear hg; have BK20 := Aside0.mk hbox; clear hbox; have n0_ := Aside0.mk (below_step HB.out hb); clear HB  hb; have HB := n0_; clear n0_ ; have BK2 := BK20; clear BK20; have c2_0 : wn.cell? ⟨g2, 0, none⟩ = some (.string s) := (blk_cell BK2.out 0).trans rfl)
    | ((with_reducible refine gate_dst (N := 3) rfl ?_); refine box_event ?hg (N := 3) ?hd (cs := #[.int .i64 t]) (t := 2) ?hr ?_; (case hd => rfl); (case hg => rfl); (case hr => first | (go_simp; done) | (go_simp; rfl)); intro g3 hg wn hbox hb; have GE3 := Aside0.mk (by rw [hg]; exact below_size HB.out : w.heap.size ≤ g3); have NE2_3 := Aside0.mk (show g2 ≠ g3 by have := blk_lt BK2.out; omega); clear hg; have BK30 := Aside0.mk hbox; clear hbox; have n0_ := Aside0.mk (below_step HB.out hb); have m2_ := Aside0.mk (blk_below BK2.out hb); clear HB BK2 hb; have HB := n0_; have BK2 := m2_; clear n0_ m2_; have c2_0 : wn.cell? ⟨g2, 0, none⟩ = some (.string s) := (blk_cell BK2.out 0).trans rfl; have BK3 := BK30; clear BK30; have c3_0 : wn.cell? ⟨g3, 0, none⟩ = some (.int .i64 t) := (blk_cell BK3.out 0).trans rfl)
    | (go_at_call 42; (with_reducible refine (impl_isFilter.calls s t true _ Hh1.out).mono ?_); rintro e wn ⟨rfl, hb0⟩; (first | have hb := to_below_d hb0 | have hb := to_below_b hb0); clear hb0; have n0_ := Aside0.mk (below_step HB.out hb); have m2_ := Aside0.mk (blk_below BK2.out hb); have m3_ := Aside0.mk (blk_below BK3.out hb); clear HB BK2 BK3 hb; have HB := n0_; have BK2 := m2_; have BK3 := m3_; clear n0_ m2_ m3_; have c2_0 : wn.cell? ⟨g2, 0, none⟩ = some (.string s) := (blk_cell BK2.out 0).trans rfl; have c3_0 : wn.cell? ⟨g3, 0, none⟩ = some (.int .i64 t) := (blk_cell BK3.out 0).trans rfl))
  go_ret2
  exact ⟨rfl, HB.out⟩
set_option maxHeartbeats 4000000 in
set_option maxRecDepth 100000 in
theorem MajorityWave_yes (s : ByteArray) (t : Int) (hz : (t.tmod 2 == 0) = false) (w : World) (h1 : impl_isFilter.f s t = some true) :
    Calls Tryd.prog 37 #[.string s, .int .i64 t] w fun e w' => e = .returned (.tuple #[.string (strOfNums (lvs (fun i => decide (2 * (cnt s i t.toNat : Int) > t)) s.size)), .bool true]) ∧ Below w.heap.size w w' := by
  have Hh1 := Aside0.mk h1
  clear h1
  have HB := Aside0.mk (Below.refl w.heap.size w)
  obtain ⟨hs, hL, ht1, ht2⟩ := isFilter_true Hh1.out
  obtain ⟨tn, htn⟩ : ∃ n : Nat, t = n := ⟨t.toNat, by omega⟩
  have htn2 : t.toNat = tn := by omega
  have hz1 : (t.tmod 2 == 0) = false := hz
  have hz2 : (t % 2 == 0) = false := by rw [← tmodp (show 0 ≤ t by omega)]; exact hz
  have HLV : Aside0 (∀ i, i < s.size → decide (2 * (cnt s i tn : Int) > t) = (fun i => decide (2 * (cnt s i t.toNat : Int) > t)) i) := ⟨fun i hi => by rw [htn2]⟩
  have HLB : Aside0 (∀ i : Nat, i < s.size → impl_levelsBack.f s i t = some (lback s i tn)) := ⟨fun i hi => by rw [htn]; exact levelsBack_eq s hs i tn hi (by omega) (by omega)⟩
  have HTN := Aside0.mk htn
  have htn3 : tn ≤ 50 := by omega
  clear htn htn2
  go_enter Tryd.func37, Tryd.ntmps37
  go_wp2_with (first
    | ((with_reducible refine gate_dst (N := 2) rfl ?_); refine box_event ?hg (N := 2) ?hd (cs := #[.string s]) (t := 9) ?hr ?_; (case hd => rfl); (case hg => rfl); (case hr => first | (go_simp; done) | (go_simp; rfl)); intro g2 hg wn hbox hb; have GE2 := Aside0.mk (by rw [hg]; exact below_size HB.out : w.heap.size ≤ g2); clear hg; have BK20 := Aside0.mk hbox; clear hbox; have n0_ := Aside0.mk (below_step HB.out hb); clear HB  hb; have HB := n0_; clear n0_ ; have BK2 := BK20; clear BK20; have c2_0 : wn.cell? ⟨g2, 0, none⟩ = some (.string s) := (blk_cell BK2.out 0).trans rfl)
    | ((with_reducible refine gate_dst (N := 3) rfl ?_); refine box_event ?hg (N := 3) ?hd (cs := #[.int .i64 t]) (t := 2) ?hr ?_; (case hd => rfl); (case hg => rfl); (case hr => first | (go_simp; done) | (go_simp; rfl)); intro g3 hg wn hbox hb; have GE3 := Aside0.mk (by rw [hg]; exact below_size HB.out : w.heap.size ≤ g3); have NE2_3 := Aside0.mk (show g2 ≠ g3 by have := blk_lt BK2.out; omega); clear hg; have BK30 := Aside0.mk hbox; clear hbox; have n0_ := Aside0.mk (below_step HB.out hb); have m2_ := Aside0.mk (blk_below BK2.out hb); clear HB BK2 hb; have HB := n0_; have BK2 := m2_; clear n0_ m2_; have c2_0 : wn.cell? ⟨g2, 0, none⟩ = some (.string s) := (blk_cell BK2.out 0).trans rfl; have BK3 := BK30; clear BK30; have c3_0 : wn.cell? ⟨g3, 0, none⟩ = some (.int .i64 t) := (blk_cell BK3.out 0).trans rfl)
    | (go_at_call 42; (with_reducible refine (impl_isFilter.calls s t true _ Hh1.out).mono ?_); rintro e wn ⟨rfl, hb0⟩; (first | have hb := to_below_d hb0 | have hb := to_below_b hb0); clear hb0; have n0_ := Aside0.mk (below_step HB.out hb); have m2_ := Aside0.mk (blk_below BK2.out hb); have m3_ := Aside0.mk (blk_below BK3.out hb); clear HB BK2 BK3 hb; have HB := n0_; have BK2 := m2_; have BK3 := m3_; clear n0_ m2_ m3_; have c2_0 : wn.cell? ⟨g2, 0, none⟩ = some (.string s) := (blk_cell BK2.out 0).trans rfl; have c3_0 : wn.cell? ⟨g3, 0, none⟩ = some (.int .i64 t) := (blk_cell BK3.out 0).trans rfl)
    | (go_at_call 49; (with_reducible refine (waveOf_any s.size (by omega) 63 Tryd.f63 #[.pointer (some ⟨g2, 0, none⟩), .pointer (some ⟨g3, 0, none⟩)] (fun i => decide (2 * (cnt s i t.toNat : Int) > t)) (fun _ W => W.heap[g2]? = some (.cells #[.string s] 9 (0, 0)) ∧ W.heap[g3]? = some (.cells #[.int .i64 t] 2 (0, 0))) w.heap.size (fun _ => False) _ Tryd.func63 rfl (by kernel_rfl) ⟨BK2.out, BK3.out⟩ (below_size HB.out) (fun _ hk => hk.elim) ?st ?cl).mono ?_); (case st => exact fun i wa wb hI hs => ⟨(hs g2 (blk_lt BK2.out)).trans hI.1, (hs g3 (blk_lt BK3.out)).trans hI.2⟩); (case cl => exact fun i hi wr hI hsz => (MajorClo s (lback s i tn) t i g2 g3 wr hI.1 hI.2 (HLB.out i hi) (cnt s i tn) (lback_ones s i tn hi) (by have := cnt_le s i tn; omega)).mono fun e w' ⟨h1, h2⟩ => ⟨h1.trans (by rw [HLV.out i hi]), ⟨blk_below hI.1 h2, blk_below hI.2 h2⟩, h2.mono (Nat.le_trans (below_size HB.out) hsz), Kept.of_below h2 _⟩); rintro e wn ⟨rfl, hI, hb, hk⟩; have n0_ := Aside0.mk (HB.out.trans hb); clear HB hb hI hk; have HB := n0_; clear n0_))
  go_ret2
  exact ⟨rfl, HB.out⟩
def impl_MajorityWave.f (a0 : ByteArray) (a1 : Int) : Option (ByteArray × Bool) :=
  (impl_isFilter.f a0 a1).bind fun t => if t = true then (if (a1.tmod 2 == 0) = true then some (⟨#[]⟩, false) else some (strOfNums (lvs (fun i => decide (2 * (cnt a0 i a1.toNat : Int) > a1)) a0.size), true)) else some (⟨#[]⟩, false)
theorem impl_MajorityWave.calls (a0 : ByteArray) (a1 : Int) (r1 : ByteArray) (r2 : Bool) (w : World) (h : impl_MajorityWave.f a0 a1 = some (r1, r2)) :
    Calls Tryd.prog 37 #[.string a0, .int .i64 a1] w fun e w' => e = .returned (.tuple #[.string r1, .bool r2]) ∧ Below w.heap.size w w' := by
  unfold impl_MajorityWave.f at h
  obtain ⟨t, ht, h⟩ := Option.bind_eq_some_iff.mp h
  cases t with
  | false =>
    rw [if_neg (by simp)] at h
    simp only [Option.some.injEq, Prod.mk.injEq] at h
    obtain ⟨rfl, rfl⟩ := h
    exact MajorityWave_no a0 a1 w ht
  | true =>
    rw [if_pos rfl] at h
    cases hz : (a1.tmod 2 == 0) with
    | true =>
      rw [hz, if_pos rfl] at h
      simp only [Option.some.injEq, Prod.mk.injEq] at h
      obtain ⟨rfl, rfl⟩ := h
      exact MajorityWave_no0 a0 a1 hz w ht
    | false =>
      rw [hz, if_neg (by decide)] at h
      simp only [Option.some.injEq, Prod.mk.injEq] at h
      obtain ⟨rfl, rfl⟩ := h
      exact MajorityWave_yes a0 a1 hz w ht
end Go.Proofs.YtcpfkfaiakpfjaaDoor.X

-- Written by a program of this session out of the kit's print of the loaded functions: a plain function of a Go function, and its contract.
namespace Go.Proofs.YtcpfkfaiakpfjaaDoor.X
open Go.RowKit Go.Proofs.YtcpfkfaiakpfjaaDoorW.PrintWords Go.Proofs.YtcpfkfaiakpfjaaDoorW.PrintLast Go.Proofs.YtcpfkfaiakpfjaaDoorW.PrintMore
attribute [local go_sem] max2_int min2_int max_two min_two max_three min_three max_four min_four   -- for this text's walks alone
set_option linter.unusedVariables false
set_option linter.unusedSimpArgs false

/-! ### laws_FnExactMajorityWave: function 12 -/
def laws_FnExactMajorityWave.f (k : Nat) (a0 : ByteArray) (a1 : Int) : Option (Bool) := if (a0.size : Int) > 1048576 then (some true) else ((spec_MajorityWave.f k a0 a1).bind fun bt341 => ((impl_MajorityWave.f a0 a1).bind fun bt343 => (if bt343.1.toList = bt341.1.toList then (if (bt343.2 != bt341.2) = true then (some false) else (some true)) else (some false))))
theorem laws_FnExactMajorityWave.mono : ∀ a0 a1 k, LeO (laws_FnExactMajorityWave.f k a0 a1) (laws_FnExactMajorityWave.f (k + 1) a0 a1) := by
  intro a0 a1 k
  unfold laws_FnExactMajorityWave.f
  repeat' first
      | (with_reducible exact spec_MajorityWave.mono _ _ _)
      | (with_reducible exact LeO.refl _)
      | (with_reducible exact LeO.none _)
      | (with_reducible refine LeO.ite ?_ ?_)
      | (with_reducible refine LeO.bind ?_ (fun _ => ?_))
      | exact spec_MajorityWave.mono _ _ _
      | exact LeO.none _
      | refine LeO.ite ?_ ?_
      | refine LeO.bind ?_ (fun _ => ?_)
set_option maxHeartbeats 8000000 in
set_option maxRecDepth 100000 in
theorem laws_FnExactMajorityWave.calls (k : Nat) (a0 : ByteArray) (a1 : Int) (r : Bool) (w : World) (h : laws_FnExactMajorityWave.f k a0 a1 = some r) :
    Calls Tryd.prog 12 #[.string a0, .int .i64 a1] w fun e w' => e = .returned (.bool r) ∧ Below w.heap.size w w' := by
  have HB := Aside0.mk (Below.refl w.heap.size w)
  have H : (if (a0.size : Int) > 1048576 then (some true) else ((spec_MajorityWave.f k a0 a1).bind fun bt341 => ((impl_MajorityWave.f a0 a1).bind fun bt343 => (if bt343.1.toList = bt341.1.toList then (if (bt343.2 != bt341.2) = true then (some false) else (some true)) else (some false))))) = some r := h
  clear h
  by_cases c3 : (a0.size : Int) > 1048576
  · rw [if_pos c3] at H
    have c3b0 : decide (1048576 < (a0.size : Int)) = true := decide_eq_true c3
    have c3b1 : decide (1048576 < a0.size) = true := decide_eq_true (by omega)
    clear c3
    obtain rfl := Option.some.inj H
    go_enter Tryd.func12, Tryd.ntmps12
    go_wp2
    go_ret
    exact ⟨by first | rfl | (simp [errW_none, errW_some] <;> rfl) | (simp [*, errW_none, errW_some] <;> rfl), by repeat (first | (with_reducible first | exact HB.out | apply below_alloc | apply pw_below_drewN | apply below_drew1) | exact HB.out)⟩
  · rw [if_neg c3] at H
    have c3b0 : decide (1048576 < (a0.size : Int)) = false := decide_eq_false c3
    have c3b1 : decide (1048576 < a0.size) = false := decide_eq_false (by omega)
    clear c3
    replace H := Option.bind_eq_some_iff.mp H
    obtain ⟨⟨t341, t342⟩, A40, H⟩ := H
    replace H : ((impl_MajorityWave.f a0 a1).bind fun bt343 => (if bt343.1.toList = t341.toList then (if (bt343.2 != t342) = true then (some false) else (some true)) else (some false))) = some r := H
    have A4 := Aside0.mk A40
    clear A40
    replace H := Option.bind_eq_some_iff.mp H
    obtain ⟨⟨t343, t344⟩, A50, H⟩ := H
    replace H : (if t343.toList = t341.toList then (if (t344 != t342) = true then (some false) else (some true)) else (some false)) = some r := H
    have A5 := Aside0.mk A50
    clear A50
    by_cases c6 : t343.toList = t341.toList
    · rw [if_pos c6] at H
      have c6b0 : (t343.toList == t341.toList) = true := beq_iff_eq.mpr c6
      have c6b1 : (t343.toList != t341.toList) = false := bne_eq_false_iff_eq.mpr c6
      clear c6
      by_cases c7 : (t344 != t342) = true
      · rw [if_pos c7] at H
        have c7b0 : (t344 != t342) = true := c7
        (try (have c7b1 : decide (t344 = t342) = false := by simpa using c7))
        (try (have c7b2 : (t344 == t342) = false := by simpa using c7))
        (try (have c7b3 : ¬ (t344 = t342) := by simpa using c7))
        clear c7
        obtain rfl := Option.some.inj H
        go_enter Tryd.func12, Tryd.ntmps12
        go_wp2_with (first | ((with_reducible refine gate_callee (f := 36) rfl ?_); refine goesL_ (some 15) rfl rfl Tryd.func36 (by kernel_rfl) rfl #[.string a0, .int .i64 a1] rfl (by (try simp only [List.map_toArray, List.map_cons, List.map_nil]); first | done | rfl | (simp only [List.length_drop, List.length_take]; rfl)) ?_; (with_reducible refine (spec_MajorityWave.calls k a0 a1 t341 t342 _ A4.out).mono ?_); rintro e w8 ⟨rfl, hb⟩; refine ⟨_, rfl, ?_⟩; have n0_ := Aside0.mk (below_step (by repeat (first | (with_reducible first | exact HB.out | apply below_alloc | apply pw_below_drewN | apply below_drew1) | exact HB.out)) hb); clear HB; have HB := n0_; clear n0_; (try clear hb); (try clear hb2); (try clear hk); (try clear hi)) | ((with_reducible refine gate_callee (f := 37) rfl ?_); refine goesL_ (some 21) rfl rfl Tryd.func37 (by kernel_rfl) rfl #[.string a0, .int .i64 a1] rfl (by (try simp only [List.map_toArray, List.map_cons, List.map_nil]); first | done | rfl | (simp only [List.length_drop, List.length_take]; rfl)) ?_; (with_reducible refine (impl_MajorityWave.calls a0 a1 t343 t344 _ A5.out).mono ?_); rintro e w9 ⟨rfl, hb⟩; refine ⟨_, rfl, ?_⟩; have n0_ := Aside0.mk (below_step (by repeat (first | (with_reducible first | exact HB.out | apply below_alloc | apply pw_below_drewN | apply below_drew1) | exact HB.out)) hb); clear HB; have HB := n0_; clear n0_; (try clear hb); (try clear hb2); (try clear hk); (try clear hi)))
        go_ret
        exact ⟨by first | rfl | (simp [errW_none, errW_some] <;> rfl) | (simp [*, errW_none, errW_some] <;> rfl), by repeat (first | (with_reducible first | exact HB.out | apply below_alloc | apply pw_below_drewN | apply below_drew1) | exact HB.out)⟩
      · rw [if_neg c7] at H
        have c7b0 : (t344 != t342) = false := by simpa using c7
        (try (have c7b1 : decide (t344 = t342) = true := by simpa using c7))
        (try (have c7b2 : (t344 == t342) = true := by simpa using c7))
        clear c7
        obtain rfl := Option.some.inj H
        go_enter Tryd.func12, Tryd.ntmps12
        go_wp2_with (first | ((with_reducible refine gate_callee (f := 36) rfl ?_); refine goesL_ (some 15) rfl rfl Tryd.func36 (by kernel_rfl) rfl #[.string a0, .int .i64 a1] rfl (by (try simp only [List.map_toArray, List.map_cons, List.map_nil]); first | done | rfl | (simp only [List.length_drop, List.length_take]; rfl)) ?_; (with_reducible refine (spec_MajorityWave.calls k a0 a1 t341 t342 _ A4.out).mono ?_); rintro e w10 ⟨rfl, hb⟩; refine ⟨_, rfl, ?_⟩; have n0_ := Aside0.mk (below_step (by repeat (first | (with_reducible first | exact HB.out | apply below_alloc | apply pw_below_drewN | apply below_drew1) | exact HB.out)) hb); clear HB; have HB := n0_; clear n0_; (try clear hb); (try clear hb2); (try clear hk); (try clear hi)) | ((with_reducible refine gate_callee (f := 37) rfl ?_); refine goesL_ (some 21) rfl rfl Tryd.func37 (by kernel_rfl) rfl #[.string a0, .int .i64 a1] rfl (by (try simp only [List.map_toArray, List.map_cons, List.map_nil]); first | done | rfl | (simp only [List.length_drop, List.length_take]; rfl)) ?_; (with_reducible refine (impl_MajorityWave.calls a0 a1 t343 t344 _ A5.out).mono ?_); rintro e w11 ⟨rfl, hb⟩; refine ⟨_, rfl, ?_⟩; have n0_ := Aside0.mk (below_step (by repeat (first | (with_reducible first | exact HB.out | apply below_alloc | apply pw_below_drewN | apply below_drew1) | exact HB.out)) hb); clear HB; have HB := n0_; clear n0_; (try clear hb); (try clear hb2); (try clear hk); (try clear hi)))
        go_ret
        exact ⟨by first | rfl | (simp [errW_none, errW_some] <;> rfl) | (simp [*, errW_none, errW_some] <;> rfl), by repeat (first | (with_reducible first | exact HB.out | apply below_alloc | apply pw_below_drewN | apply below_drew1) | exact HB.out)⟩
    · rw [if_neg c6] at H
      have c6b0 : (t343.toList == t341.toList) = false := beq_eq_false_iff_ne.mpr c6
      have c6b1 : (t343.toList != t341.toList) = true := bne_iff_ne.mpr c6
      obtain rfl := Option.some.inj H
      go_enter Tryd.func12, Tryd.ntmps12
      go_wp2_with (first | ((with_reducible refine gate_callee (f := 36) rfl ?_); refine goesL_ (some 15) rfl rfl Tryd.func36 (by kernel_rfl) rfl #[.string a0, .int .i64 a1] rfl (by (try simp only [List.map_toArray, List.map_cons, List.map_nil]); first | done | rfl | (simp only [List.length_drop, List.length_take]; rfl)) ?_; (with_reducible refine (spec_MajorityWave.calls k a0 a1 t341 t342 _ A4.out).mono ?_); rintro e w12 ⟨rfl, hb⟩; refine ⟨_, rfl, ?_⟩; have n0_ := Aside0.mk (below_step (by repeat (first | (with_reducible first | exact HB.out | apply below_alloc | apply pw_below_drewN | apply below_drew1) | exact HB.out)) hb); clear HB; have HB := n0_; clear n0_; (try clear hb); (try clear hb2); (try clear hk); (try clear hi)) | ((with_reducible refine gate_callee (f := 37) rfl ?_); refine goesL_ (some 21) rfl rfl Tryd.func37 (by kernel_rfl) rfl #[.string a0, .int .i64 a1] rfl (by (try simp only [List.map_toArray, List.map_cons, List.map_nil]); first | done | rfl | (simp only [List.length_drop, List.length_take]; rfl)) ?_; (with_reducible refine (impl_MajorityWave.calls a0 a1 t343 t344 _ A5.out).mono ?_); rintro e w13 ⟨rfl, hb⟩; refine ⟨_, rfl, ?_⟩; have n0_ := Aside0.mk (below_step (by repeat (first | (with_reducible first | exact HB.out | apply below_alloc | apply pw_below_drewN | apply below_drew1) | exact HB.out)) hb); clear HB; have HB := n0_; clear n0_; (try clear hb); (try clear hb2); (try clear hk); (try clear hi)))
      go_ret
      exact ⟨by first | rfl | (simp [errW_none, errW_some] <;> rfl) | (simp [*, errW_none, errW_some] <;> rfl), by repeat (first | (with_reducible first | exact HB.out | apply below_alloc | apply pw_below_drewN | apply below_drew1) | exact HB.out)⟩

/-- THE ONE PURE STATEMENT of laws_FnExactMajorityWave: yours. -/
def laws_FnExactMajorityWave.Pure : Prop := ∀ (a0 : ByteArray) (a1 : Int), a0.size ≤ 140737488351232 → (Lit.int .i64 a1).wf = true → ∃ k, laws_FnExactMajorityWave.f k a0 a1 = some true
theorem laws_FnExactMajorityWave.walk (P : laws_FnExactMajorityWave.Pure) (a0 : ByteArray) (a1 : Int) (w : World) (w0 : a0.size ≤ 140737488351232) (w1 : (Lit.int .i64 a1).wf = true) :
    Calls Tryd.prog 12 #[.string a0, .int .i64 a1] w fun e w' => e = .returned (.bool true) ∧ Below w.heap.size w w' := by
  obtain ⟨k, h⟩ := P a0 a1 w0 w1
  refine (laws_FnExactMajorityWave.calls k a0 a1 true w h).mono ?_
  rintro e w' ⟨rfl, hd⟩
  exact ⟨rfl, hd⟩

end Go.Proofs.YtcpfkfaiakpfjaaDoor.X

-- Written by a program of this session out of the kit's print of the loaded functions: a plain function of a Go function, and its contract.
namespace Go.Proofs.YtcpfkfaiakpfjaaDoor.X
open Go.RowKit Go.Proofs.YtcpfkfaiakpfjaaDoorW.PrintWords Go.Proofs.YtcpfkfaiakpfjaaDoorW.PrintLast Go.Proofs.YtcpfkfaiakpfjaaDoorW.PrintMore
attribute [local go_sem] max2_int min2_int max_two min_two max_three min_three max_four min_four   -- for this text's walks alone
set_option linter.unusedVariables false
set_option linter.unusedSimpArgs false

/-! ### spec_l09Debounce: function 65 -/
def spec_l09Debounce.l0 : Nat → ByteArray → Int → List Int → Int → Int → Option (ByteArray)
  | 0, _, _, _, _, _ => none
  | k + 1, x0, x1, x5, x6, x7 => if x7 < (x0.size : Int) then ((spec_l09Last.f k x0 x7 x1).bind fun t348 => (if t348 = x1 then (if x5.length < 140737488355328 then (spec_l09Debounce.l0 k x0 x1 (x5 ++ [49]) 49 (wrap64 (x7 + 1))) else (none)) else (if t348 = 0 then (if x5.length < 140737488355328 then (spec_l09Debounce.l0 k x0 x1 (x5 ++ [48]) 48 (wrap64 (x7 + 1))) else (none)) else (if x5.length < 140737488355328 then (spec_l09Debounce.l0 k x0 x1 (x5 ++ [x6]) x6 (wrap64 (x7 + 1))) else (none))))) else (some (strOfNums x5))
def spec_l09Debounce.f (k : Nat) (a0 : ByteArray) (a1 : Int) : Option (ByteArray) := spec_l09Debounce.l0 k a0 a1 (([] : List Int)) 48 0
theorem spec_l09Debounce.mono_l : ∀ k, (∀ y0 y1 y2 y3 y4, LeO (spec_l09Debounce.l0 k y0 y1 y2 y3 y4) (spec_l09Debounce.l0 (k + 1) y0 y1 y2 y3 y4))
  | 0 => fun _ _ _ _ _ r h => by simp [spec_l09Debounce.l0] at h
  | k + 1 => by
    have ih0 := spec_l09Debounce.mono_l k
    · intro y0 y1 y2 y3 y4
      unfold spec_l09Debounce.l0
      repeat' first
      | (with_reducible exact ih0 _ _ _ _ _)
      | (with_reducible exact spec_l09Last.mono _ _ _ _)
      | (with_reducible exact LeO.refl _)
      | (with_reducible exact LeO.none _)
      | (with_reducible refine LeO.ite ?_ ?_)
      | (with_reducible refine LeO.bind ?_ (fun _ => ?_))
      | exact ih0 _ _ _ _ _
      | exact spec_l09Last.mono _ _ _ _
      | exact LeO.none _
      | refine LeO.ite ?_ ?_
      | refine LeO.bind ?_ (fun _ => ?_)
theorem spec_l09Debounce.mono : ∀ a0 a1 k, LeO (spec_l09Debounce.f k a0 a1) (spec_l09Debounce.f (k + 1) a0 a1) := by
  intro a0 a1 k
  have ih0 := spec_l09Debounce.mono_l k
  unfold spec_l09Debounce.f
  repeat' first
      | (with_reducible exact ih0 _ _ _ _ _)
      | (with_reducible exact spec_l09Last.mono _ _ _ _)
      | (with_reducible exact LeO.refl _)
      | (with_reducible exact LeO.none _)
      | (with_reducible refine LeO.ite ?_ ?_)
      | (with_reducible refine LeO.bind ?_ (fun _ => ?_))
      | exact ih0 _ _ _ _ _
      | exact spec_l09Last.mono _ _ _ _
      | exact LeO.none _
      | refine LeO.ite ?_ ?_
      | refine LeO.bind ?_ (fun _ => ?_)
set_option maxHeartbeats 8000000 in
set_option maxRecDepth 100000 in
theorem spec_l09Debounce.calls (k : Nat) (a0 : ByteArray) (a1 : Int) (r : ByteArray) (w : World) (h : spec_l09Debounce.f k a0 a1 = some r) :
    Calls Tryd.prog 65 #[.string a0, .int .i64 a1] w fun e w' => e = .returned (.string r) ∧ Below w.heap.size w w' := by
  have HB := Aside0.mk (Below.refl w.heap.size w)
  have H : (spec_l09Debounce.l0 k a0 a1 (([] : List Int)) 48 0) = some r := h
  clear h
  obtain ⟨y345, hy345⟩ : ∃ y_ : List Int, y_ = (([] : List Int)) := ⟨_, rfl⟩
  replace H : (spec_l09Debounce.l0 k a0 a1 y345 48 0) = some r := by first | (rw [hy345]; with_reducible exact H) | (have H2_ := (Option.bind_some _ _).symm.trans H; rw [hy345]; with_reducible exact H2_) | (have H2_ := (Option.bind_some _ _).symm.trans H; with_reducible exact H2_) | with_reducible exact H | (rw [hy345]; exact H) | exact H
  have Ny345 := Aside0.mk hy345
  clear hy345
  have H' := Aside0.mk H
  clear H
  go_enter Tryd.func65, Tryd.ntmps65
  go_wp2_with (first | ((with_reducible refine gate_dst (N := 8) rfl ?_); refine Kd.R_lit (Kd.int .u8) _ 5 ?hg (N := 8) ?hd (xs := ([] : List Int)) (inner := []) (ok := fun _ => True) (okp := fun _ => True) ?hr ?hp (fun _ hk => hk) trivial (Below.refl _ _) (Nat.le_refl _) (by simp) ?_; (case hd => rfl); (case hg => rfl); (case hr => first | (go_simp; done) | (go_simp; rfl)); (case hp => exact (Reps.none _ _)); intro v346 w3 ho4 hb hg_ hnew_; clear hg_ hnew_; (first | rw [← Ny345.out] at ho4 | (simp only [Int.reduceToNat] at ho4; rw [← Ny345.out] at ho4)); have n0_ := Aside0.mk (Kd.R_lower ho4 (below_size (by repeat (first | (with_reducible first | exact HB.out | apply below_alloc | apply pw_below_drewN | apply below_drew1) | exact HB.out)))); have n1_ := Aside0.mk (below_step (by repeat (first | (with_reducible first | exact HB.out | apply below_alloc | apply pw_below_drewN | apply below_drew1) | exact HB.out)) hb); clear HB; have HO347 := n0_; have HB := n1_; clear n0_ n1_; clear hb ho4))
  go_loopg [5, 6, 7] k (fun kq v5 v6 v7 w' => ∃ (x5_1 : List Int) (x6_1 : Int) (x7_1 : Int), v6 = .int .u8 x6_1 ∧ v7 = .int .i64 x7_1 ∧ Aside0 (spec_l09Debounce.l0 kq a0 a1 x5_1 x6_1 x7_1 = some r) ∧ Aside0 (kq ≤ k) ∧ Aside0 (Kd.R (Kd.int .u8) 5 w' w.heap.size (fun _ => True) v5 x5_1) ∧ Aside0 (Below w.heap.size w w'))
  case atStart => exact ⟨(y345), (48), (0), (by first | rfl | (simp; done) | (simp [*]; done)), (by first | rfl | (simp; done) | (simp [*]; done)), H', ⟨Nat.le_refl _⟩, ⟨by (with_reducible repeat (first | apply Kd.R_alloc | apply Kd.R_drewN | apply Kd.R_drew)); exact HO347.out⟩, ⟨by repeat (first | (with_reducible first | exact HB.out | apply below_alloc | apply pw_below_drewN | apply below_drew1) | exact HB.out)⟩⟩
  case round =>
    clear H'
    try clear p2
    obtain ⟨x5_1, x6_1, x7_1, rfl, rfl, HA, HK1, HO_5, HB⟩ := hrel
    cases gk with
    | zero => exact absurd HA.out (by simp [spec_l09Debounce.l0])
    | succ k1 =>
      have H := HA.out
      clear HA
      simp only [spec_l09Debounce.l0] at H
      by_cases c5 : x7_1 < (a0.size : Int)
      · rw [if_pos c5] at H
        have c5b0 : decide (x7_1 < (a0.size : Int)) = true := decide_eq_true c5
        clear c5
        replace H := Option.bind_eq_some_iff.mp H
        obtain ⟨t348, A60, H⟩ := H
        replace H : (if t348 = a1 then (if x5_1.length < 140737488355328 then (spec_l09Debounce.l0 k1 a0 a1 (x5_1 ++ [49]) 49 (wrap64 (x7_1 + 1))) else (none)) else (if t348 = 0 then (if x5_1.length < 140737488355328 then (spec_l09Debounce.l0 k1 a0 a1 (x5_1 ++ [48]) 48 (wrap64 (x7_1 + 1))) else (none)) else (if x5_1.length < 140737488355328 then (spec_l09Debounce.l0 k1 a0 a1 (x5_1 ++ [x6_1]) x6_1 (wrap64 (x7_1 + 1))) else (none)))) = some r := H
        have A6 := Aside0.mk A60
        clear A60
        by_cases c7 : t348 = a1
        · rw [if_pos c7] at H
          have c7b0 : (t348 == a1) = true := beq_iff_eq.mpr c7
          have c7b1 : (t348 != a1) = false := bne_eq_false_iff_eq.mpr c7
          clear c7
          by_cases c8 : x5_1.length < 140737488355328
          · rw [if_pos c8] at H
            have LMc8 := Aside0.mk c8
            clear c8
            obtain ⟨y349, hy349⟩ : ∃ y_ : List Int, y_ = (x5_1 ++ [49]) := ⟨_, rfl⟩
            replace H : (spec_l09Debounce.l0 k1 a0 a1 y349 49 (wrap64 (x7_1 + 1))) = some r := by first | (rw [hy349]; with_reducible exact H) | (have H2_ := (Option.bind_some _ _).symm.trans H; rw [hy349]; with_reducible exact H2_) | (have H2_ := (Option.bind_some _ _).symm.trans H; with_reducible exact H2_) | with_reducible exact H | (rw [hy349]; exact H) | exact H
            have Ny349 := Aside0.mk hy349
            clear hy349
            have H' := Aside0.mk H
            clear H
            go_wp2_with (first | ((with_reducible refine gate_callee (f := 59) rfl ?_); refine goesL_ (some 18) rfl rfl Tryd.func59 (by kernel_rfl) rfl #[.string a0, .int .i64 x7_1, .int .i64 a1] rfl (by (try simp only [List.map_toArray, List.map_cons, List.map_nil]); first | done | rfl | (simp only [List.length_drop, List.length_take]; rfl)) ?_; (with_reducible refine (spec_l09Last.calls k1 a0 x7_1 a1 t348 _ A6.out).mono ?_); rintro e w' ⟨rfl, ⟨nd, rfl⟩⟩; refine ⟨_, rfl, ?_⟩) | ((with_reducible refine gate_builtin (b := .append) (xs := #[.tmp 24, .tmp 26]) rfl ?_); at_builtin; refine Kd.R_append (Kd.int .u8) (w0 := w) w.heap.size rfl (.tmp 24) (.tmp 26) 34 5 (.int .u8 0) 1 rfl Tryd.underlying34 info5 rfl (by decide) (by omega) u5 x5_1 49 [.int .u8 49] (fun _ => True) (fun _ => False) rfl rfl ?aP (fun _ hk => hk.elim) ?aF ?aO ?aB ?aS ?aL ?_; (case aP => exact rfl); (case aB => exact (by repeat (first | (with_reducible first | exact HB.out | apply below_alloc | apply pw_below_drewN | apply below_drew1) | exact HB.out))); (case aF => exact (fun _ _ => trivial)); (case aO => exact (by (with_reducible repeat (first | apply Kd.R_alloc | apply Kd.R_drewN | apply Kd.R_drew)); exact HO_5.out)); (case aS => exact (below_size (by repeat (first | (with_reducible first | exact HB.out | apply below_alloc | apply pw_below_drewN | apply below_drew1) | exact HB.out)))); (case aL => have := LMc8.out; omega); intro v350 w9 ho hb hg hat; rw [← Ny349.out] at ho; have n0_ := Aside0.mk (hb); have n1_ := Aside0.mk (ho); clear HB; clear HO_5; have HB := n0_; have HO351 := n1_; clear n0_ n1_; clear ho hb hg hat))
            go_roundg k1
            case measure => have := HK1.out; omega
            case rel => exact ⟨(y349), (49), (wrap64 (x7_1 + 1)), (by first | rfl | (simp; done) | (simp [*]; done)), (by first | rfl | (simp; done) | (simp [*]; done)), H', ⟨by have := HK1.out; omega⟩, ⟨by (with_reducible repeat (first | apply Kd.R_alloc | apply Kd.R_drewN | apply Kd.R_drew)); exact HO351.out⟩, ⟨by repeat (first | (with_reducible first | exact HB.out | apply below_alloc | apply pw_below_drewN | apply below_drew1) | exact HB.out)⟩⟩
          · rw [if_neg c8] at H
            exact absurd H (by simp)
        · rw [if_neg c7] at H
          have c7b0 : (t348 == a1) = false := beq_eq_false_iff_ne.mpr c7
          have c7b1 : (t348 != a1) = true := bne_iff_ne.mpr c7
          by_cases c10 : t348 = 0
          · rw [if_pos c10] at H
            have c10b0 : (t348 == 0) = true := beq_iff_eq.mpr c10
            have c10b1 : (t348 != 0) = false := bne_eq_false_iff_eq.mpr c10
            clear c10
            by_cases c11 : x5_1.length < 140737488355328
            · rw [if_pos c11] at H
              have LMc11 := Aside0.mk c11
              clear c11
              obtain ⟨y352, hy352⟩ : ∃ y_ : List Int, y_ = (x5_1 ++ [48]) := ⟨_, rfl⟩
              replace H : (spec_l09Debounce.l0 k1 a0 a1 y352 48 (wrap64 (x7_1 + 1))) = some r := by first | (rw [hy352]; with_reducible exact H) | (have H2_ := (Option.bind_some _ _).symm.trans H; rw [hy352]; with_reducible exact H2_) | (have H2_ := (Option.bind_some _ _).symm.trans H; with_reducible exact H2_) | with_reducible exact H | (rw [hy352]; exact H) | exact H
              have Ny352 := Aside0.mk hy352
              clear hy352
              have H' := Aside0.mk H
              clear H
              go_wp2_with (first | ((with_reducible refine gate_callee (f := 59) rfl ?_); refine goesL_ (some 18) rfl rfl Tryd.func59 (by kernel_rfl) rfl #[.string a0, .int .i64 x7_1, .int .i64 a1] rfl (by (try simp only [List.map_toArray, List.map_cons, List.map_nil]); first | done | rfl | (simp only [List.length_drop, List.length_take]; rfl)) ?_; (with_reducible refine (spec_l09Last.calls k1 a0 x7_1 a1 t348 _ A6.out).mono ?_); rintro e w' ⟨rfl, ⟨nd, rfl⟩⟩; refine ⟨_, rfl, ?_⟩) | ((with_reducible refine gate_builtin (b := .append) (xs := #[.tmp 24, .tmp 26]) rfl ?_); at_builtin; refine Kd.R_append (Kd.int .u8) (w0 := w) w.heap.size rfl (.tmp 24) (.tmp 26) 34 5 (.int .u8 0) 1 rfl Tryd.underlying34 info5 rfl (by decide) (by omega) u5 x5_1 48 [.int .u8 48] (fun _ => True) (fun _ => False) rfl rfl ?aP (fun _ hk => hk.elim) ?aF ?aO ?aB ?aS ?aL ?_; (case aP => exact rfl); (case aB => exact (by repeat (first | (with_reducible first | exact HB.out | apply below_alloc | apply pw_below_drewN | apply below_drew1) | exact HB.out))); (case aF => exact (fun _ _ => trivial)); (case aO => exact (by (with_reducible repeat (first | apply Kd.R_alloc | apply Kd.R_drewN | apply Kd.R_drew)); exact HO_5.out)); (case aS => exact (below_size (by repeat (first | (with_reducible first | exact HB.out | apply below_alloc | apply pw_below_drewN | apply below_drew1) | exact HB.out)))); (case aL => have := LMc11.out; omega); intro v353 w12 ho hb hg hat; rw [← Ny352.out] at ho; have n0_ := Aside0.mk (hb); have n1_ := Aside0.mk (ho); clear HB; clear HO_5; have HB := n0_; have HO354 := n1_; clear n0_ n1_; clear ho hb hg hat))
              go_roundg k1
              case measure => have := HK1.out; omega
              case rel => exact ⟨(y352), (48), (wrap64 (x7_1 + 1)), (by first | rfl | (simp; done) | (simp [*]; done)), (by first | rfl | (simp; done) | (simp [*]; done)), H', ⟨by have := HK1.out; omega⟩, ⟨by (with_reducible repeat (first | apply Kd.R_alloc | apply Kd.R_drewN | apply Kd.R_drew)); exact HO354.out⟩, ⟨by repeat (first | (with_reducible first | exact HB.out | apply below_alloc | apply pw_below_drewN | apply below_drew1) | exact HB.out)⟩⟩
            · rw [if_neg c11] at H
              exact absurd H (by simp)
          · rw [if_neg c10] at H
            have c10b0 : (t348 == 0) = false := beq_eq_false_iff_ne.mpr c10
            have c10b1 : (t348 != 0) = true := bne_iff_ne.mpr c10
            by_cases c13 : x5_1.length < 140737488355328
            · rw [if_pos c13] at H
              have LMc13 := Aside0.mk c13
              clear c13
              obtain ⟨y355, hy355⟩ : ∃ y_ : List Int, y_ = (x5_1 ++ [x6_1]) := ⟨_, rfl⟩
              replace H : (spec_l09Debounce.l0 k1 a0 a1 y355 x6_1 (wrap64 (x7_1 + 1))) = some r := by first | (rw [hy355]; with_reducible exact H) | (have H2_ := (Option.bind_some _ _).symm.trans H; rw [hy355]; with_reducible exact H2_) | (have H2_ := (Option.bind_some _ _).symm.trans H; with_reducible exact H2_) | with_reducible exact H | (rw [hy355]; exact H) | exact H
              have Ny355 := Aside0.mk hy355
              clear hy355
              have H' := Aside0.mk H
              clear H
              go_wp2_with (first | ((with_reducible refine gate_callee (f := 59) rfl ?_); refine goesL_ (some 18) rfl rfl Tryd.func59 (by kernel_rfl) rfl #[.string a0, .int .i64 x7_1, .int .i64 a1] rfl (by (try simp only [List.map_toArray, List.map_cons, List.map_nil]); first | done | rfl | (simp only [List.length_drop, List.length_take]; rfl)) ?_; (with_reducible refine (spec_l09Last.calls k1 a0 x7_1 a1 t348 _ A6.out).mono ?_); rintro e w' ⟨rfl, ⟨nd, rfl⟩⟩; refine ⟨_, rfl, ?_⟩) | ((with_reducible refine gate_builtin (b := .append) (xs := #[.tmp 24, .tmp 26]) rfl ?_); at_builtin; refine Kd.R_append (Kd.int .u8) (w0 := w) w.heap.size rfl (.tmp 24) (.tmp 26) 34 5 (.int .u8 0) 1 rfl Tryd.underlying34 info5 rfl (by decide) (by omega) u5 x5_1 x6_1 [.int .u8 x6_1] (fun _ => True) (fun _ => False) rfl rfl ?aP (fun _ hk => hk.elim) ?aF ?aO ?aB ?aS ?aL ?_; (case aP => exact rfl); (case aB => exact (by repeat (first | (with_reducible first | exact HB.out | apply below_alloc | apply pw_below_drewN | apply below_drew1) | exact HB.out))); (case aF => exact (fun _ _ => trivial)); (case aO => exact (by (with_reducible repeat (first | apply Kd.R_alloc | apply Kd.R_drewN | apply Kd.R_drew)); exact HO_5.out)); (case aS => exact (below_size (by repeat (first | (with_reducible first | exact HB.out | apply below_alloc | apply pw_below_drewN | apply below_drew1) | exact HB.out)))); (case aL => have := LMc13.out; omega); intro v356 w14 ho hb hg hat; rw [← Ny355.out] at ho; have n0_ := Aside0.mk (hb); have n1_ := Aside0.mk (ho); clear HB; clear HO_5; have HB := n0_; have HO357 := n1_; clear n0_ n1_; clear ho hb hg hat))
              go_roundg k1
              case measure => have := HK1.out; omega
              case rel => exact ⟨(y355), (x6_1), (wrap64 (x7_1 + 1)), (by first | rfl | (simp; done) | (simp [*]; done)), (by first | rfl | (simp; done) | (simp [*]; done)), H', ⟨by have := HK1.out; omega⟩, ⟨by (with_reducible repeat (first | apply Kd.R_alloc | apply Kd.R_drewN | apply Kd.R_drew)); exact HO357.out⟩, ⟨by repeat (first | (with_reducible first | exact HB.out | apply below_alloc | apply pw_below_drewN | apply below_drew1) | exact HB.out)⟩⟩
            · rw [if_neg c13] at H
              exact absurd H (by simp)
      · rw [if_neg c5] at H
        have c5b0 : decide (x7_1 < (a0.size : Int)) = false := decide_eq_false c5
        clear c5
        obtain rfl := Option.some.inj H
        have hcv15 := own_string (P := Tryd.prog) Tryd.underlying34 Tryd.underlying5 Tryd.underlying9 (Kd.own_of_R HO_5.out)
        go_wp2
        go_ret
        exact ⟨by first | rfl | (simp [errW_none, errW_some] <;> rfl) | (simp [*, errW_none, errW_some] <;> rfl), by repeat (first | (with_reducible first | exact HB.out | apply below_alloc | apply pw_below_drewN | apply below_drew1) | exact HB.out)⟩

end Go.Proofs.YtcpfkfaiakpfjaaDoor.X

-- Written by a program of this session out of the kit's print of the loaded functions: a plain function of a Go function, and its contract.
namespace Go.Proofs.YtcpfkfaiakpfjaaDoor.X
open Go.RowKit Go.Proofs.YtcpfkfaiakpfjaaDoorW.PrintWords Go.Proofs.YtcpfkfaiakpfjaaDoorW.PrintLast Go.Proofs.YtcpfkfaiakpfjaaDoorW.PrintMore
attribute [local go_sem] max2_int min2_int max_two min_two max_three min_three max_four min_four   -- for this text's walks alone
set_option linter.unusedVariables false
set_option linter.unusedSimpArgs false

/-! ### spec_Debounce: function 38 -/
def spec_Debounce.f (k : Nat) (a0 : ByteArray) (a1 : Int) : Option (ByteArray × Bool) := (spec_l09Filter.f k a0 a1).bind fun t358 => (if t358 = true then ((spec_l09Debounce.f k a0 a1).bind fun t359 => (some (t359, true))) else (some ((⟨#[]⟩ : ByteArray), false)))
theorem spec_Debounce.mono : ∀ a0 a1 k, LeO (spec_Debounce.f k a0 a1) (spec_Debounce.f (k + 1) a0 a1) := by
  intro a0 a1 k
  unfold spec_Debounce.f
  repeat' first
      | (with_reducible exact spec_l09Debounce.mono _ _ _)
      | (with_reducible exact spec_l09Filter.mono _ _ _)
      | (with_reducible exact LeO.refl _)
      | (with_reducible exact LeO.none _)
      | (with_reducible refine LeO.ite ?_ ?_)
      | (with_reducible refine LeO.bind ?_ (fun _ => ?_))
      | exact spec_l09Debounce.mono _ _ _
      | exact spec_l09Filter.mono _ _ _
      | exact LeO.none _
      | refine LeO.ite ?_ ?_
      | refine LeO.bind ?_ (fun _ => ?_)
set_option maxHeartbeats 8000000 in
set_option maxRecDepth 100000 in
theorem spec_Debounce.calls (k : Nat) (a0 : ByteArray) (a1 : Int) (r1 : ByteArray) (r2 : Bool) (w : World) (h : spec_Debounce.f k a0 a1 = some (r1, r2)) :
    Calls Tryd.prog 38 #[.string a0, .int .i64 a1] w fun e w' => e = .returned (.tuple #[.string r1, .bool r2]) ∧ Below w.heap.size w w' := by
  have HB := Aside0.mk (Below.refl w.heap.size w)
  have H : ((spec_l09Filter.f k a0 a1).bind fun t358 => (if t358 = true then ((spec_l09Debounce.f k a0 a1).bind fun t359 => (some (t359, true))) else (some ((⟨#[]⟩ : ByteArray), false)))) = some (r1, r2) := h
  clear h
  replace H := Option.bind_eq_some_iff.mp H
  obtain ⟨t358, A30, H⟩ := H
  replace H : (if t358 = true then ((spec_l09Debounce.f k a0 a1).bind fun t359 => (some (t359, true))) else (some ((⟨#[]⟩ : ByteArray), false))) = some (r1, r2) := H
  have A3 := Aside0.mk A30
  clear A30
  by_cases c4 : t358 = true
  · subst c4
    have H1 : ((spec_l09Debounce.f k a0 a1).bind fun t359 => (some (t359, true))) = some (r1, r2) := by rw [if_pos rfl] at H; exact H
    clear H
    have H := H1
    clear H1
    replace H := Option.bind_eq_some_iff.mp H
    obtain ⟨t359, A50, H⟩ := H
    replace H : (some (t359, true)) = some (r1, r2) := H
    have A5 := Aside0.mk A50
    clear A50
    simp only [Option.some.injEq, Prod.mk.injEq] at H
    obtain ⟨rfl, rfl⟩ := H
    go_enter Tryd.func38, Tryd.ntmps38
    go_wp2_with (first | ((with_reducible refine gate_callee (f := 40) rfl ?_); refine goesL_ (some 8) rfl rfl Tryd.func40 (by kernel_rfl) rfl #[.string a0, .int .i64 a1] rfl (by (try simp only [List.map_toArray, List.map_cons, List.map_nil]); first | done | rfl | (simp only [List.length_drop, List.length_take]; rfl)) ?_; (with_reducible refine (spec_l09Filter.calls k a0 a1 true _ A3.out).mono ?_); rintro e w' ⟨rfl, ⟨nd, rfl⟩⟩; refine ⟨_, rfl, ?_⟩) | ((with_reducible refine gate_callee (f := 65) rfl ?_); refine goesL_ (some 12) rfl rfl Tryd.func65 (by kernel_rfl) rfl #[.string a0, .int .i64 a1] rfl (by (try simp only [List.map_toArray, List.map_cons, List.map_nil]); first | done | rfl | (simp only [List.length_drop, List.length_take]; rfl)) ?_; (with_reducible refine (spec_l09Debounce.calls k a0 a1 t359 _ A5.out).mono ?_); rintro e w6 ⟨rfl, hb⟩; refine ⟨_, rfl, ?_⟩; have n0_ := Aside0.mk (below_step (by repeat (first | (with_reducible first | exact HB.out | apply below_alloc | apply pw_below_drewN | apply below_drew1) | exact HB.out)) hb); clear HB; have HB := n0_; clear n0_; (try clear hb); (try clear hb2); (try clear hk); (try clear hi)))
    go_ret2
    exact ⟨by first | rfl | (simp [errW_none, errW_some] <;> rfl) | (simp [*, errW_none, errW_some] <;> rfl), by repeat (first | (with_reducible first | exact HB.out | apply below_alloc | apply pw_below_drewN | apply below_drew1) | exact HB.out)⟩
  · replace c4 := Bool.eq_false_iff.mpr c4
    subst c4
    have H1 : (some ((⟨#[]⟩ : ByteArray), false)) = some (r1, r2) := by rw [if_neg (show ¬ (false = true) by decide)] at H; exact H
    clear H
    have H := H1
    clear H1
    simp only [Option.some.injEq, Prod.mk.injEq] at H
    obtain ⟨rfl, rfl⟩ := H
    go_enter Tryd.func38, Tryd.ntmps38
    go_wp2_with (first | ((with_reducible refine gate_callee (f := 40) rfl ?_); refine goesL_ (some 8) rfl rfl Tryd.func40 (by kernel_rfl) rfl #[.string a0, .int .i64 a1] rfl (by (try simp only [List.map_toArray, List.map_cons, List.map_nil]); first | done | rfl | (simp only [List.length_drop, List.length_take]; rfl)) ?_; (with_reducible refine (spec_l09Filter.calls k a0 a1 false _ A3.out).mono ?_); rintro e w' ⟨rfl, ⟨nd, rfl⟩⟩; refine ⟨_, rfl, ?_⟩))
    go_ret2
    exact ⟨by first | rfl | (simp [errW_none, errW_some] <;> rfl) | (simp [*, errW_none, errW_some] <;> rfl), by repeat (first | (with_reducible first | exact HB.out | apply below_alloc | apply pw_below_drewN | apply below_drew1) | exact HB.out)⟩

end Go.Proofs.YtcpfkfaiakpfjaaDoor.X

/- The program's Debounce: what it answers. Conditions: none. -/
namespace Go.Proofs.YtcpfkfaiakpfjaaDoor.X
open Go.RowKit Go.Proofs.YtcpfkfaiakpfjaaDoorW.PrintWords Go.Proofs.YtcpfkfaiakpfjaaDoorW.PrintLast Go.Proofs.YtcpfkfaiakpfjaaDoorW.PrintMore
set_option linter.unusedVariables false
set_option linter.unusedSimpArgs false
/-- The level ahead of a tick: it changes where the last ticks are all of the other one. -/
def dlv (s : ByteArray) (t : Nat) : Nat → Bool
  | 0 => false
  | i + 1 => if cnt s i t = 0 then false else if cnt s i t = t then true else dlv s t i
set_option maxHeartbeats 4000000 in
set_option maxRecDepth 100000 in
theorem Debounce_no (s : ByteArray) (t : Int) (w : World) (h1 : impl_isFilter.f s t = some false) :
    Calls Tryd.prog 39 #[.string s, .int .i64 t] w fun e w' => e = .returned (.tuple #[.string ⟨#[]⟩, .bool false]) ∧ Below w.heap.size w w' := by
  have Hh1 := Aside0.mk h1
  clear h1
  have HB := Aside0.mk (Below.refl w.heap.size w)
  go_enter Tryd.func39, Tryd.ntmps39
  go_wp2_with (first
    | ((with_reducible refine gate_dst (N := 2) rfl ?_); refine box_event ?hg (N := 2) ?hd (cs := #[.string s]) (t := 9) ?hr ?_; (case hd => rfl); (case hg => rfl); (case hr => first | (go_simp; done) | (go_simp; rfl)); intro g2 hg wn hbox hb; have GE2 := Aside0.mk (by rw [hg]; exact below_size HB.out : w.heap.size ≤ g2); clear hg; have BK20 := Aside0.mk hbox; clear hbox; have n0_ := Aside0.mk (below_step HB.out hb); clear HB  hb; have HB := n0_; clear n0_ ; have BK2 := BK20; clear BK20; have c2_0 : wn.cell? ⟨g2, 0, none⟩ = some (.string s) := (blk_cell BK2.out 0).trans rfl)
    | ((with_reducible refine gate_dst (N := 3) rfl ?_); refine box_event ?hg (N := 3) ?hd (cs := #[.int .i64 t]) (t := 2) ?hr ?_; (case hd => rfl); (case hg => rfl); (case hr => first | (go_simp; done) | (go_simp; rfl)); intro g3 hg wn hbox hb; have GE3 := Aside0.mk (by rw [hg]; exact below_size HB.out : w.heap.size ≤ g3); have NE2_3 := Aside0.mk (show g2 ≠ g3 by have := blk_lt BK2.out; omega); clear hg; have BK30 := Aside0.mk hbox; clear hbox; have n0_ := Aside0.mk (below_step HB.out hb); have m2_ := Aside0.mk (blk_below BK2.out hb); clear HB BK2 hb; have HB := n0_; have BK2 := m2_; clear n0_ m2_; have c2_0 : wn.cell? ⟨g2, 0, none⟩ = some (.string s) := (blk_cell BK2.out 0).trans rfl; have BK3 := BK30; clear BK30; have c3_0 : wn.cell? ⟨g3, 0, none⟩ = some (.int .i64 t) := (blk_cell BK3.out 0).trans rfl)
    | (go_at_call 42; (with_reducible refine (impl_isFilter.calls s t false _ Hh1.out).mono ?_); rintro e wn ⟨rfl, hb0⟩; (first | have hb := to_below_d hb0 | have hb := to_below_b hb0); clear hb0; have n0_ := Aside0.mk (below_step HB.out hb); have m2_ := Aside0.mk (blk_below BK2.out hb); have m3_ := Aside0.mk (blk_below BK3.out hb); clear HB BK2 BK3 hb; have HB := n0_; have BK2 := m2_; have BK3 := m3_; clear n0_ m2_ m3_; have c2_0 : wn.cell? ⟨g2, 0, none⟩ = some (.string s) := (blk_cell BK2.out 0).trans rfl; have c3_0 : wn.cell? ⟨g3, 0, none⟩ = some (.int .i64 t) := (blk_cell BK3.out 0).trans rfl))
  go_ret2
  exact ⟨rfl, HB.out⟩
set_option maxHeartbeats 4000000 in
set_option maxRecDepth 100000 in
theorem Debounce_yes (s : ByteArray) (t : Int) (tn : Nat) (htn : t = tn) (w : World) (h1 : impl_isFilter.f s t = some true) :
    Calls Tryd.prog 39 #[.string s, .int .i64 t] w fun e w' => e = .returned (.tuple #[.string (strOfNums (lvs (fun i => dlv s tn (i + 1)) s.size)), .bool true]) ∧ Below w.heap.size w w' := by
  have Hh1 := Aside0.mk h1
  clear h1
  have HB := Aside0.mk (Below.refl w.heap.size w)
  obtain ⟨hs, hL, ht1, ht2⟩ := isFilter_true Hh1.out
  have HLB : Aside0 (∀ i : Nat, i < s.size → impl_levelsBack.f s i t = some (lback s i tn)) := ⟨fun i hi => by rw [htn]; exact levelsBack_eq s hs i tn hi (by omega) (by omega)⟩
  have HDL : Aside0 (∀ i : Nat, dlv s tn (i + 1) = if cnt s i tn = 0 then false else if (cnt s i tn : Int) = t then true else dlv s tn i) := ⟨fun i => by rw [dlv, htn]; simp only [Int.natCast_inj]⟩
  have htn3 : tn ≤ 50 := by omega
  clear htn
  go_enter Tryd.func39, Tryd.ntmps39
  go_wp2_with (first
    | ((with_reducible refine gate_dst (N := 2) rfl ?_); refine box_event ?hg (N := 2) ?hd (cs := #[.string s]) (t := 9) ?hr ?_; (case hd => rfl); (case hg => rfl); (case hr => first | (go_simp; done) | (go_simp; rfl)); intro g2 hg wn hbox hb; have GE2 := Aside0.mk (by rw [hg]; exact below_size HB.out : w.heap.size ≤ g2); clear hg; have BK20 := Aside0.mk hbox; clear hbox; have n0_ := Aside0.mk (below_step HB.out hb); clear HB  hb; have HB := n0_; clear n0_ ; have BK2 := BK20; clear BK20; have c2_0 : wn.cell? ⟨g2, 0, none⟩ = some (.string s) := (blk_cell BK2.out 0).trans rfl)
    | ((with_reducible refine gate_dst (N := 3) rfl ?_); refine box_event ?hg (N := 3) ?hd (cs := #[.int .i64 t]) (t := 2) ?hr ?_; (case hd => rfl); (case hg => rfl); (case hr => first | (go_simp; done) | (go_simp; rfl)); intro g3 hg wn hbox hb; have GE3 := Aside0.mk (by rw [hg]; exact below_size HB.out : w.heap.size ≤ g3); have NE2_3 := Aside0.mk (show g2 ≠ g3 by have := blk_lt BK2.out; omega); clear hg; have BK30 := Aside0.mk hbox; clear hbox; have n0_ := Aside0.mk (below_step HB.out hb); have m2_ := Aside0.mk (blk_below BK2.out hb); clear HB BK2 hb; have HB := n0_; have BK2 := m2_; clear n0_ m2_; have c2_0 : wn.cell? ⟨g2, 0, none⟩ = some (.string s) := (blk_cell BK2.out 0).trans rfl; have BK3 := BK30; clear BK30; have c3_0 : wn.cell? ⟨g3, 0, none⟩ = some (.int .i64 t) := (blk_cell BK3.out 0).trans rfl)
    | (go_at_call 42; (with_reducible refine (impl_isFilter.calls s t true _ Hh1.out).mono ?_); rintro e wn ⟨rfl, hb0⟩; (first | have hb := to_below_d hb0 | have hb := to_below_b hb0); clear hb0; have n0_ := Aside0.mk (below_step HB.out hb); have m2_ := Aside0.mk (blk_below BK2.out hb); have m3_ := Aside0.mk (blk_below BK3.out hb); clear HB BK2 BK3 hb; have HB := n0_; have BK2 := m2_; have BK3 := m3_; clear n0_ m2_ m3_; have c2_0 : wn.cell? ⟨g2, 0, none⟩ = some (.string s) := (blk_cell BK2.out 0).trans rfl; have c3_0 : wn.cell? ⟨g3, 0, none⟩ = some (.int .i64 t) := (blk_cell BK3.out 0).trans rfl)
    | ((with_reducible refine gate_dst (N := 6) rfl ?_); refine box_event ?hg (N := 6) ?hd (cs := #[.bool false]) (t := 4) ?hr ?_; (case hd => rfl); (case hg => rfl); (case hr => first | (go_simp; done) | (go_simp; rfl)); intro g6 hg wn hbox hb; have GE6 := Aside0.mk (by rw [hg]; exact below_size HB.out : w.heap.size ≤ g6); have NE2_6 := Aside0.mk (show g2 ≠ g6 by have := blk_lt BK2.out; omega); have NE3_6 := Aside0.mk (show g3 ≠ g6 by have := blk_lt BK3.out; omega); clear hg; have BK60 := Aside0.mk hbox; clear hbox; have n0_ := Aside0.mk (below_step HB.out hb); have m2_ := Aside0.mk (blk_below BK2.out hb); have m3_ := Aside0.mk (blk_below BK3.out hb); clear HB BK2 BK3 hb; have HB := n0_; have BK2 := m2_; have BK3 := m3_; clear n0_ m2_ m3_; have c2_0 : wn.cell? ⟨g2, 0, none⟩ = some (.string s) := (blk_cell BK2.out 0).trans rfl; have c3_0 : wn.cell? ⟨g3, 0, none⟩ = some (.int .i64 t) := (blk_cell BK3.out 0).trans rfl; have BK6 := BK60; clear BK60; have c6_0 : wn.cell? ⟨g6, 0, none⟩ = some (.bool false) := (blk_cell BK6.out 0).trans rfl; have z6_0 := blk_frozen BK6.out 0; have c2s : ∀ v, (wn.setCell ⟨g6, 0, none⟩ v).cell? ⟨g2, 0, none⟩ = some (.string s) := fun v => (blk_cell (blk_far BK2.out (p := ⟨g6, 0, none⟩) NE2_6.out v) 0).trans rfl)
    | (go_at_call 49; have p2 := blk_far BK2.out (p := ⟨g6, 0, none⟩) NE2_6.out (.bool false); have p3 := blk_far BK3.out (p := ⟨g6, 0, none⟩) NE3_6.out (.bool false); have p6 := blk_put BK6.out 0 (.bool false) (cs' := #[.bool (dlv s tn 0)]) rfl; have pb := below_set (j := 0) (v := .bool false) HB.out GE6.out; (with_reducible refine (waveOf_any s.size (by omega) 66 Tryd.f66 #[.pointer (some ⟨g2, 0, none⟩), .pointer (some ⟨g3, 0, none⟩), .pointer (some ⟨g6, 0, none⟩)] (fun i => dlv s tn (i + 1)) (fun i W => W.heap[g2]? = some (.cells #[.string s] 9 (0, 0)) ∧ W.heap[g3]? = some (.cells #[.int .i64 t] 2 (0, 0)) ∧ W.heap[g6]? = some (.cells #[.bool (dlv s tn i)] 4 (0, 0))) w.heap.size ((· = g6)) _ Tryd.func66 rfl (by kernel_rfl) ⟨p2, p3, p6⟩ (below_size pb) (by rintro _ rfl; exact blk_lt p6) ?st ?cl).mono ?_); (case st => exact fun i wa wb hI hs => ⟨(hs g2 (blk_lt p2)).trans hI.1, (hs g3 (blk_lt p3)).trans hI.2.1, (hs g6 (blk_lt p6)).trans hI.2.2⟩); (case cl => exact fun i hi wr hI hsz => (DebClo s (lback s i tn) t i (dlv s tn i) (dlv s tn (i + 1)) g2 g3 g6 w.heap.size wr hI.1 hI.2.1 hI.2.2 GE6.out (HLB.out i hi) (cnt s i tn) (lback_ones s i tn hi) (by have := cnt_le s i tn; omega) ht1 (HDL.out i)).mono fun e w' ⟨h1, h3, h4, h5⟩ => ⟨h1, ⟨blk_kept hI.1 h5 NE2_6.out, blk_kept hI.2.1 h5 NE3_6.out, h3⟩, h4, h5⟩); rintro e wn ⟨rfl, hI, hb, hk⟩; have n0_ := Aside0.mk (pb.trans hb); clear HB hb hI hk; have HB := n0_; clear n0_))
  go_ret2
  exact ⟨rfl, HB.out⟩
def impl_Debounce.f (a0 : ByteArray) (a1 : Int) : Option (ByteArray × Bool) :=
  (impl_isFilter.f a0 a1).bind fun t => if t = true then some (strOfNums (lvs (fun i => dlv a0 a1.toNat (i + 1)) a0.size), true) else some (⟨#[]⟩, false)
theorem impl_Debounce.calls (a0 : ByteArray) (a1 : Int) (r1 : ByteArray) (r2 : Bool) (w : World) (h : impl_Debounce.f a0 a1 = some (r1, r2)) :
    Calls Tryd.prog 39 #[.string a0, .int .i64 a1] w fun e w' => e = .returned (.tuple #[.string r1, .bool r2]) ∧ Below w.heap.size w w' := by
  unfold impl_Debounce.f at h
  obtain ⟨t, ht, h⟩ := Option.bind_eq_some_iff.mp h
  cases t with
  | false =>
    rw [if_neg (by simp)] at h
    simp only [Option.some.injEq, Prod.mk.injEq] at h
    obtain ⟨rfl, rfl⟩ := h
    exact Debounce_no a0 a1 w ht
  | true =>
    rw [if_pos rfl] at h
    simp only [Option.some.injEq, Prod.mk.injEq] at h
    obtain ⟨rfl, rfl⟩ := h
    exact Debounce_yes a0 a1 a1.toNat (by have := isFilter_true ht; omega) w ht
end Go.Proofs.YtcpfkfaiakpfjaaDoor.X

-- Written by a program of this session out of the kit's print of the loaded functions: a plain function of a Go function, and its contract.
namespace Go.Proofs.YtcpfkfaiakpfjaaDoor.X
open Go.RowKit Go.Proofs.YtcpfkfaiakpfjaaDoorW.PrintWords Go.Proofs.YtcpfkfaiakpfjaaDoorW.PrintLast Go.Proofs.YtcpfkfaiakpfjaaDoorW.PrintMore
attribute [local go_sem] max2_int min2_int max_two min_two max_three min_three max_four min_four   -- for this text's walks alone
set_option linter.unusedVariables false
set_option linter.unusedSimpArgs false

/-! ### laws_FnExactDebounce: function 13 -/
def laws_FnExactDebounce.f (k : Nat) (a0 : ByteArray) (a1 : Int) : Option (Bool) := if (a0.size : Int) > 1048576 then (some true) else ((spec_Debounce.f k a0 a1).bind fun bt360 => ((impl_Debounce.f a0 a1).bind fun bt362 => (if bt362.1.toList = bt360.1.toList then (if (bt362.2 != bt360.2) = true then (some false) else (some true)) else (some false))))
theorem laws_FnExactDebounce.mono : ∀ a0 a1 k, LeO (laws_FnExactDebounce.f k a0 a1) (laws_FnExactDebounce.f (k + 1) a0 a1) := by
  intro a0 a1 k
  unfold laws_FnExactDebounce.f
  repeat' first
      | (with_reducible exact spec_Debounce.mono _ _ _)
      | (with_reducible exact LeO.refl _)
      | (with_reducible exact LeO.none _)
      | (with_reducible refine LeO.ite ?_ ?_)
      | (with_reducible refine LeO.bind ?_ (fun _ => ?_))
      | exact spec_Debounce.mono _ _ _
      | exact LeO.none _
      | refine LeO.ite ?_ ?_
      | refine LeO.bind ?_ (fun _ => ?_)
set_option maxHeartbeats 8000000 in
set_option maxRecDepth 100000 in
theorem laws_FnExactDebounce.calls (k : Nat) (a0 : ByteArray) (a1 : Int) (r : Bool) (w : World) (h : laws_FnExactDebounce.f k a0 a1 = some r) :
    Calls Tryd.prog 13 #[.string a0, .int .i64 a1] w fun e w' => e = .returned (.bool r) ∧ Below w.heap.size w w' := by
  have HB := Aside0.mk (Below.refl w.heap.size w)
  have H : (if (a0.size : Int) > 1048576 then (some true) else ((spec_Debounce.f k a0 a1).bind fun bt360 => ((impl_Debounce.f a0 a1).bind fun bt362 => (if bt362.1.toList = bt360.1.toList then (if (bt362.2 != bt360.2) = true then (some false) else (some true)) else (some false))))) = some r := h
  clear h
  by_cases c3 : (a0.size : Int) > 1048576
  · rw [if_pos c3] at H
    have c3b0 : decide (1048576 < (a0.size : Int)) = true := decide_eq_true c3
    have c3b1 : decide (1048576 < a0.size) = true := decide_eq_true (by omega)
    clear c3
    obtain rfl := Option.some.inj H
    go_enter Tryd.func13, Tryd.ntmps13
    go_wp2
    go_ret
    exact ⟨by first | rfl | (simp [errW_none, errW_some] <;> rfl) | (simp [*, errW_none, errW_some] <;> rfl), by repeat (first | (with_reducible first | exact HB.out | apply below_alloc | apply pw_below_drewN | apply below_drew1) | exact HB.out)⟩
  · rw [if_neg c3] at H
    have c3b0 : decide (1048576 < (a0.size : Int)) = false := decide_eq_false c3
    have c3b1 : decide (1048576 < a0.size) = false := decide_eq_false (by omega)
    clear c3
    replace H := Option.bind_eq_some_iff.mp H
    obtain ⟨⟨t360, t361⟩, A40, H⟩ := H
    replace H : ((impl_Debounce.f a0 a1).bind fun bt362 => (if bt362.1.toList = t360.toList then (if (bt362.2 != t361) = true then (some false) else (some true)) else (some false))) = some r := H
    have A4 := Aside0.mk A40
    clear A40
    replace H := Option.bind_eq_some_iff.mp H
    obtain ⟨⟨t362, t363⟩, A50, H⟩ := H
    replace H : (if t362.toList = t360.toList then (if (t363 != t361) = true then (some false) else (some true)) else (some false)) = some r := H
    have A5 := Aside0.mk A50
    clear A50
    by_cases c6 : t362.toList = t360.toList
    · rw [if_pos c6] at H
      have c6b0 : (t362.toList == t360.toList) = true := beq_iff_eq.mpr c6
      have c6b1 : (t362.toList != t360.toList) = false := bne_eq_false_iff_eq.mpr c6
      clear c6
      by_cases c7 : (t363 != t361) = true
      · rw [if_pos c7] at H
        have c7b0 : (t363 != t361) = true := c7
        (try (have c7b1 : decide (t363 = t361) = false := by simpa using c7))
        (try (have c7b2 : (t363 == t361) = false := by simpa using c7))
        (try (have c7b3 : ¬ (t363 = t361) := by simpa using c7))
        clear c7
        obtain rfl := Option.some.inj H
        go_enter Tryd.func13, Tryd.ntmps13
        go_wp2_with (first | ((with_reducible refine gate_callee (f := 38) rfl ?_); refine goesL_ (some 15) rfl rfl Tryd.func38 (by kernel_rfl) rfl #[.string a0, .int .i64 a1] rfl (by (try simp only [List.map_toArray, List.map_cons, List.map_nil]); first | done | rfl | (simp only [List.length_drop, List.length_take]; rfl)) ?_; (with_reducible refine (spec_Debounce.calls k a0 a1 t360 t361 _ A4.out).mono ?_); rintro e w8 ⟨rfl, hb⟩; refine ⟨_, rfl, ?_⟩; have n0_ := Aside0.mk (below_step (by repeat (first | (with_reducible first | exact HB.out | apply below_alloc | apply pw_below_drewN | apply below_drew1) | exact HB.out)) hb); clear HB; have HB := n0_; clear n0_; (try clear hb); (try clear hb2); (try clear hk); (try clear hi)) | ((with_reducible refine gate_callee (f := 39) rfl ?_); refine goesL_ (some 21) rfl rfl Tryd.func39 (by kernel_rfl) rfl #[.string a0, .int .i64 a1] rfl (by (try simp only [List.map_toArray, List.map_cons, List.map_nil]); first | done | rfl | (simp only [List.length_drop, List.length_take]; rfl)) ?_; (with_reducible refine (impl_Debounce.calls a0 a1 t362 t363 _ A5.out).mono ?_); rintro e w9 ⟨rfl, hb⟩; refine ⟨_, rfl, ?_⟩; have n0_ := Aside0.mk (below_step (by repeat (first | (with_reducible first | exact HB.out | apply below_alloc | apply pw_below_drewN | apply below_drew1) | exact HB.out)) hb); clear HB; have HB := n0_; clear n0_; (try clear hb); (try clear hb2); (try clear hk); (try clear hi)))
        go_ret
        exact ⟨by first | rfl | (simp [errW_none, errW_some] <;> rfl) | (simp [*, errW_none, errW_some] <;> rfl), by repeat (first | (with_reducible first | exact HB.out | apply below_alloc | apply pw_below_drewN | apply below_drew1) | exact HB.out)⟩
      · rw [if_neg c7] at H
        have c7b0 : (t363 != t361) = false := by simpa using c7
        (try (have c7b1 : decide (t363 = t361) = true := by simpa using c7))
        (try (have c7b2 : (t363 == t361) = true := by simpa using c7))
        clear c7
        obtain rfl := Option.some.inj H
        go_enter Tryd.func13, Tryd.ntmps13
        go_wp2_with (first | ((with_reducible refine gate_callee (f := 38) rfl ?_); refine goesL_ (some 15) rfl rfl Tryd.func38 (by kernel_rfl) rfl #[.string a0, .int .i64 a1] rfl (by (try simp only [List.map_toArray, List.map_cons, List.map_nil]); first | done | rfl | (simp only [List.length_drop, List.length_take]; rfl)) ?_; (with_reducible refine (spec_Debounce.calls k a0 a1 t360 t361 _ A4.out).mono ?_); rintro e w10 ⟨rfl, hb⟩; refine ⟨_, rfl, ?_⟩; have n0_ := Aside0.mk (below_step (by repeat (first | (with_reducible first | exact HB.out | apply below_alloc | apply pw_below_drewN | apply below_drew1) | exact HB.out)) hb); clear HB; have HB := n0_; clear n0_; (try clear hb); (try clear hb2); (try clear hk); (try clear hi)) | ((with_reducible refine gate_callee (f := 39) rfl ?_); refine goesL_ (some 21) rfl rfl Tryd.func39 (by kernel_rfl) rfl #[.string a0, .int .i64 a1] rfl (by (try simp only [List.map_toArray, List.map_cons, List.map_nil]); first | done | rfl | (simp only [List.length_drop, List.length_take]; rfl)) ?_; (with_reducible refine (impl_Debounce.calls a0 a1 t362 t363 _ A5.out).mono ?_); rintro e w11 ⟨rfl, hb⟩; refine ⟨_, rfl, ?_⟩; have n0_ := Aside0.mk (below_step (by repeat (first | (with_reducible first | exact HB.out | apply below_alloc | apply pw_below_drewN | apply below_drew1) | exact HB.out)) hb); clear HB; have HB := n0_; clear n0_; (try clear hb); (try clear hb2); (try clear hk); (try clear hi)))
        go_ret
        exact ⟨by first | rfl | (simp [errW_none, errW_some] <;> rfl) | (simp [*, errW_none, errW_some] <;> rfl), by repeat (first | (with_reducible first | exact HB.out | apply below_alloc | apply pw_below_drewN | apply below_drew1) | exact HB.out)⟩
    · rw [if_neg c6] at H
      have c6b0 : (t362.toList == t360.toList) = false := beq_eq_false_iff_ne.mpr c6
      have c6b1 : (t362.toList != t360.toList) = true := bne_iff_ne.mpr c6
      obtain rfl := Option.some.inj H
      go_enter Tryd.func13, Tryd.ntmps13
      go_wp2_with (first | ((with_reducible refine gate_callee (f := 38) rfl ?_); refine goesL_ (some 15) rfl rfl Tryd.func38 (by kernel_rfl) rfl #[.string a0, .int .i64 a1] rfl (by (try simp only [List.map_toArray, List.map_cons, List.map_nil]); first | done | rfl | (simp only [List.length_drop, List.length_take]; rfl)) ?_; (with_reducible refine (spec_Debounce.calls k a0 a1 t360 t361 _ A4.out).mono ?_); rintro e w12 ⟨rfl, hb⟩; refine ⟨_, rfl, ?_⟩; have n0_ := Aside0.mk (below_step (by repeat (first | (with_reducible first | exact HB.out | apply below_alloc | apply pw_below_drewN | apply below_drew1) | exact HB.out)) hb); clear HB; have HB := n0_; clear n0_; (try clear hb); (try clear hb2); (try clear hk); (try clear hi)) | ((with_reducible refine gate_callee (f := 39) rfl ?_); refine goesL_ (some 21) rfl rfl Tryd.func39 (by kernel_rfl) rfl #[.string a0, .int .i64 a1] rfl (by (try simp only [List.map_toArray, List.map_cons, List.map_nil]); first | done | rfl | (simp only [List.length_drop, List.length_take]; rfl)) ?_; (with_reducible refine (impl_Debounce.calls a0 a1 t362 t363 _ A5.out).mono ?_); rintro e w13 ⟨rfl, hb⟩; refine ⟨_, rfl, ?_⟩; have n0_ := Aside0.mk (below_step (by repeat (first | (with_reducible first | exact HB.out | apply below_alloc | apply pw_below_drewN | apply below_drew1) | exact HB.out)) hb); clear HB; have HB := n0_; clear n0_; (try clear hb); (try clear hb2); (try clear hk); (try clear hi)))
      go_ret
      exact ⟨by first | rfl | (simp [errW_none, errW_some] <;> rfl) | (simp [*, errW_none, errW_some] <;> rfl), by repeat (first | (with_reducible first | exact HB.out | apply below_alloc | apply pw_below_drewN | apply below_drew1) | exact HB.out)⟩

/-- THE ONE PURE STATEMENT of laws_FnExactDebounce: yours. -/
def laws_FnExactDebounce.Pure : Prop := ∀ (a0 : ByteArray) (a1 : Int), a0.size ≤ 140737488351232 → (Lit.int .i64 a1).wf = true → ∃ k, laws_FnExactDebounce.f k a0 a1 = some true
theorem laws_FnExactDebounce.walk (P : laws_FnExactDebounce.Pure) (a0 : ByteArray) (a1 : Int) (w : World) (w0 : a0.size ≤ 140737488351232) (w1 : (Lit.int .i64 a1).wf = true) :
    Calls Tryd.prog 13 #[.string a0, .int .i64 a1] w fun e w' => e = .returned (.bool true) ∧ Below w.heap.size w w' := by
  obtain ⟨k, h⟩ := P a0 a1 w0 w1
  refine (laws_FnExactDebounce.calls k a0 a1 true w h).mono ?_
  rintro e w' ⟨rfl, hd⟩
  exact ⟨rfl, hd⟩

end Go.Proofs.YtcpfkfaiakpfjaaDoor.X

/- The filters over the last ticks, and the one shot: the plain laws. Conditions: as each lemma says. -/
namespace Go.Proofs.YtcpfkfaiakpfjaaDoor.X
open Go.RowKit Go.Proofs.YtcpfkfaiakpfjaaDoorW.PrintWords Go.Proofs.YtcpfkfaiakpfjaaDoorW.PrintLast Go.Proofs.YtcpfkfaiakpfjaaDoorW.PrintMore
set_option linter.unusedVariables false
set_option linter.unusedSimpArgs false

theorem lvs_succ (lv : Nat → Bool) (n : Nat) : lvs lv (n + 1) = lvs lv n ++ [if lv n = true then 49 else 48] := by simp [lvs, List.range_succ]
theorem filter_ok {s : ByteArray} {a : Int} (h : (isW s && decide (1 ≤ a ∧ a ≤ 50)) = true) : s.size ≤ 400 ∧ Lev s ∧ 1 ≤ a ∧ a ≤ 50 := by
  rw [Bool.and_eq_true, decide_eq_true_eq, isW_iff] at h
  exact ⟨h.1.1, h.1.2, h.2⟩

theorem stretch_loop (s : ByteArray) (t : Nat) (hs : s.size ≤ 400) (hL : Lev s) (h1 : 1 ≤ t) (h2 : t ≤ 50) : ∀ (d k i : Nat), i + d = s.size → 500 + d < k →
    spec_StretchPulses.l0 k s t (lvs (fun i => decide (0 < cnt s i t)) i) i = some (strOfNums (lvs (fun i => decide (0 < cnt s i t)) s.size), true)
  | 0, k, i, hi, hk => by
    cases k with
    | zero => omega
    | succ k => rw [spec_StretchPulses.l0, if_neg (by omega), show i = s.size by omega]
  | d + 1, k, i, hi, hk => by
    cases k with
    | zero => omega
    | succ k =>
      have ih := stretch_loop s t hs hL h1 h2 d k (i + 1) (by omega) (by omega)
      rw [lvs_succ, Int.natCast_add, Int.natCast_one] at ih
      rw [spec_StretchPulses.l0, if_pos (by omega), l09Last_eq k s hs hL i t (by omega) h1 h2 (by omega), Option.bind_some, l07_level, Option.bind_some, if_pos (by rw [lvs_len]; omega), w64 (by omega) (by omega)]
      rw [← ih]
      simp [Int.natCast_pos]
theorem FnExactStretchPulses_same (s : ByteArray) (a : Int) (hs : s.size ≤ 140737488351232) : ∃ (r : ByteArray) (b : Bool), impl_StretchPulses.f s a = some (r, b) ∧ ∀ k, s.size + 2000 < k → spec_StretchPulses.f k s a = some (r, b) := by
  unfold impl_StretchPulses.f spec_StretchPulses.f
  rw [isFilter_eq s a hs, Option.bind_some]
  cases h : (isW s && decide (1 ≤ a ∧ a ≤ 50))
  · exact ⟨_, _, rfl, fun k hk => by rw [l09Filter_eq k s a hs (by omega), h]; rfl⟩
  · obtain ⟨hz, hL, h1, h2⟩ := filter_ok h
    refine ⟨_, _, rfl, fun k hk => ?_⟩
    rw [l09Filter_eq k s a hs (by omega), h, Option.bind_some, if_pos rfl]
    obtain ⟨t, rfl⟩ : ∃ t : Nat, a = t := ⟨a.toNat, by omega⟩
    exact stretch_loop s t hz hL (by omega) (by omega) s.size k 0 (by omega) (by omega)

theorem major_loop (s : ByteArray) (t : Nat) (hs : s.size ≤ 400) (hL : Lev s) (h1 : 1 ≤ t) (h2 : t ≤ 50) : ∀ (d k i : Nat), i + d = s.size → 500 + d < k →
    spec_MajorityWave.l0 k s t (lvs (fun i => decide (2 * (cnt s i t : Int) > t)) i) i = some (strOfNums (lvs (fun i => decide (2 * (cnt s i t : Int) > t)) s.size), true)
  | 0, k, i, hi, hk => by
    cases k with
    | zero => omega
    | succ k => rw [spec_MajorityWave.l0, if_neg (by omega), show i = s.size by omega]
  | d + 1, k, i, hi, hk => by
    cases k with
    | zero => omega
    | succ k =>
      have ih := major_loop s t hs hL h1 h2 d k (i + 1) (by omega) (by omega)
      have hc := cnt_le s i t
      rw [lvs_succ, Int.natCast_add, Int.natCast_one] at ih
      rw [spec_MajorityWave.l0, if_pos (by omega), l09Last_eq k s hs hL i t (by omega) h1 h2 (by omega), Option.bind_some, w64 (n := 2 * (cnt s i t : Int)) (by omega) (by omega), l07_level, Option.bind_some, if_pos (by rw [lvs_len]; omega), w64 (by omega) (by omega)]
      exact ih
theorem FnExactMajorityWave_same (s : ByteArray) (a : Int) (hs : s.size ≤ 140737488351232) : ∃ (r : ByteArray) (b : Bool), impl_MajorityWave.f s a = some (r, b) ∧ ∀ k, s.size + 2000 < k → spec_MajorityWave.f k s a = some (r, b) := by
  unfold impl_MajorityWave.f spec_MajorityWave.f
  rw [isFilter_eq s a hs, Option.bind_some]
  cases h : (isW s && decide (1 ≤ a ∧ a ≤ 50))
  · refine ⟨_, _, rfl, fun k hk => ?_⟩
    rw [l09Filter_eq k s a hs (by omega), h]
    cases k with
    | zero => omega
    | succ k => rw [Option.bind_some, if_neg (by decide), spec_MajorityWave.j0]; rfl
  · obtain ⟨hz, hL, h1, h2⟩ := filter_ok h
    rw [if_pos rfl]
    cases hq : (a.tmod 2 == 0)
    · refine ⟨_, _, rfl, fun k hk => ?_⟩
      rw [l09Filter_eq k s a hs (by omega), h, Option.bind_some, if_pos rfl]
      obtain ⟨t, rfl⟩ : ∃ t : Nat, a = t := ⟨a.toNat, by omega⟩
      cases k with
      | zero => omega
      | succ k =>
        rw [spec_MajorityWave.j0, if_neg (by decide)]
        exact major_loop s t hz hL (by omega) (by omega) s.size k 0 (by omega) (by omega)
    · refine ⟨_, _, rfl, fun k hk => ?_⟩
      rw [l09Filter_eq k s a hs (by omega), h, Option.bind_some, if_pos rfl]
      cases k with
      | zero => omega
      | succ k => rw [spec_MajorityWave.j0]; rfl

theorem deb_loop (s : ByteArray) (t : Nat) (hs : s.size ≤ 400) (hL : Lev s) (h1 : 1 ≤ t) (h2 : t ≤ 50) : ∀ (d k i : Nat), i + d = s.size → 500 + d < k →
    spec_l09Debounce.l0 k s t (lvs (fun i => dlv s t (i + 1)) i) (if dlv s t i = true then 49 else 48) i = some (strOfNums (lvs (fun i => dlv s t (i + 1)) s.size))
  | 0, k, i, hi, hk => by
    cases k with
    | zero => omega
    | succ k => rw [spec_l09Debounce.l0, if_neg (by omega), show i = s.size by omega]
  | d + 1, k, i, hi, hk => by
    cases k with
    | zero => omega
    | succ k =>
      have ih := deb_loop s t hs hL h1 h2 d k (i + 1) (by omega) (by omega)
      have hc := cnt_le s i t
      rw [lvs_succ, Int.natCast_add, Int.natCast_one] at ih
      rw [spec_l09Debounce.l0, if_pos (by omega), l09Last_eq k s hs hL i t (by omega) h1 h2 (by omega), Option.bind_some, if_pos (show (lvs (fun i => dlv s t (i + 1)) i).length < 140737488355328 by rw [lvs_len]; omega), if_pos (show (lvs (fun i => dlv s t (i + 1)) i).length < 140737488355328 by rw [lvs_len]; omega), if_pos (show (lvs (fun i => dlv s t (i + 1)) i).length < 140737488355328 by rw [lvs_len]; omega), w64 (n := (i : Int) + 1) (by omega) (by omega)]
      by_cases hz : cnt s i t = 0
      · have e : dlv s t (i + 1) = false := by rw [dlv, if_pos hz]
        rw [e] at ih
        rw [if_neg (by omega), if_pos (by omega)]
        exact ih
      · by_cases ht : cnt s i t = t
        · have e : dlv s t (i + 1) = true := by rw [dlv, if_neg hz, if_pos ht]
          rw [e] at ih
          rw [if_pos (by omega)]
          exact ih
        · have e : dlv s t (i + 1) = dlv s t i := by rw [dlv, if_neg hz, if_neg ht]
          rw [e] at ih
          rw [if_neg (by omega), if_neg (by omega)]
          exact ih
theorem FnExactDebounce_same (s : ByteArray) (a : Int) (hs : s.size ≤ 140737488351232) : ∃ (r : ByteArray) (b : Bool), impl_Debounce.f s a = some (r, b) ∧ ∀ k, s.size + 2000 < k → spec_Debounce.f k s a = some (r, b) := by
  unfold impl_Debounce.f spec_Debounce.f
  rw [isFilter_eq s a hs, Option.bind_some]
  cases h : (isW s && decide (1 ≤ a ∧ a ≤ 50))
  · exact ⟨_, _, rfl, fun k hk => by rw [l09Filter_eq k s a hs (by omega), h]; rfl⟩
  · obtain ⟨hz, hL, h1, h2⟩ := filter_ok h
    refine ⟨_, _, rfl, fun k hk => ?_⟩
    rw [l09Filter_eq k s a hs (by omega), h, Option.bind_some, if_pos rfl]
    obtain ⟨t, rfl⟩ : ∃ t : Nat, a = t := ⟨a.toNat, by omega⟩
    unfold spec_l09Debounce.f
    have := deb_loop s t hz hL (by omega) (by omega) s.size k 0 (by omega) (by omega)
    rw [show (if dlv s t 0 = true then (49 : Int) else 48) = 48 by simp [dlv]] at this
    rw [show lvs (fun i => dlv s t (i + 1)) 0 = [] from rfl, Int.natCast_zero] at this
    rw [this]; rfl

theorem shot_loop (s : ByteArray) (t ag : Int) (hs : s.size ≤ 400) (hL : Lev s) (h1 : 1 ≤ t) (h2 : t ≤ 50) : ∀ (d k i : Nat), i + d = s.size → 500 + 2 * d < k →
    spec_OneShot.l0 k s t ag (lvs (fun i => decide (shot1 s t ag (shotL s t ag i) i > 0)) i) (shotL s t ag i) i = some (strOfNums (lvs (fun i => decide (shot1 s t ag (shotL s t ag i) i > 0)) s.size), true)
  | 0, k, i, hi, hk => by
    cases k with
    | zero => omega
    | succ k => rw [spec_OneShot.l0, if_neg (by omega), show i = s.size by omega]
  | d + 1, k, i, hi, hk => by
    obtain ⟨k, rfl⟩ : ∃ k', k = k' + 2 := ⟨k - 2, by omega⟩
    have ih := shot_loop s t ag hs hL h1 h2 d k (i + 1) (by omega) (by omega)
    have hr := shotL_rng s t ag h1 h2 i
    have e2 : ∀ x y : Int, spec_l00Max.f x y = some (max x y) := by intro x y; unfold spec_l00Max.f; split <;> (congr 1; omega)
    have hup : spec_OneShot.l0 (k + 2) s t ag (lvs (fun i => decide (shot1 s t ag (shotL s t ag i) i > 0)) i) (shotL s t ag i) i = spec_OneShot.j2 (k + 1) s t ag (lvs (fun i => decide (shot1 s t ag (shotL s t ag i) i > 0)) i) (shotL s t ag i) i (isE s 49 i && (decide (ag = 1) || decide (shotL s t ag i = 0))) := by
      have hin : (if ag = 1 then spec_OneShot.j2 (k + 1) s t ag (lvs (fun i => decide (shot1 s t ag (shotL s t ag i) i > 0)) i) (shotL s t ag i) i true else spec_OneShot.j2 (k + 1) s t ag (lvs (fun i => decide (shot1 s t ag (shotL s t ag i) i > 0)) i) (shotL s t ag i) i (shotL s t ag i == 0)) = spec_OneShot.j2 (k + 1) s t ag (lvs (fun i => decide (shot1 s t ag (shotL s t ag i) i > 0)) i) (shotL s t ag i) i (decide (ag = 1) || decide (shotL s t ag i = 0)) := by
        by_cases ha : ag = 1
        · rw [if_pos ha, decide_eq_true ha, Bool.true_or]
        · rw [if_neg ha, decide_eq_false ha, Bool.false_or]
          congr 1
      rw [spec_OneShot.l0, if_pos (by omega), if_pos (by omega), w64 (n := (i : Int) - 1) (by omega) (by omega), hin]
      by_cases hb : bt s i = 49
      · rw [if_pos hb]
        by_cases h0 : i = 0
        · subst h0
          have : isE s 49 0 = true := by unfold isE; rw [decide_eq_true hb]; rfl
          rw [if_pos (by omega), this, Bool.true_and]
        · rw [if_neg (by omega), if_pos (by omega), if_pos (by omega)]
          have e : prv s i = bt s ((i : Int) - 1) := by unfold prv; rw [if_neg h0]; congr 1; omega
          have hl := hL (i - 1) (by omega)
          rw [show ((i - 1 : Nat) : Int) = (i : Int) - 1 by omega] at hl
          by_cases hc : bt s ((i : Int) - 1) = 48
          · have : isE s 49 i = true := by unfold isE; rw [decide_eq_true hb, e, hc]; rfl
            rw [if_pos hc, this, Bool.true_and]
          · have : isE s 49 i = false := by unfold isE; rw [e, decide_eq_true (show bt s ((i : Int) - 1) = 49 by omega)]; simp
            rw [if_neg hc, this, Bool.false_and]
      · have : isE s 49 i = false := by unfold isE; rw [decide_eq_false hb]; rfl
        rw [if_neg hb, this, Bool.false_and]
    rw [hup, spec_OneShot.j2]
    rw [lvs_succ, Int.natCast_add, Int.natCast_one, shotL] at ih
    have hmax : ∀ x : Int, max 0 (x - 1) = if x - 1 < 0 then 0 else x - 1 := by intro x; split <;> omega
    rw [w64 (n := t - 1) (by omega) (by omega), w64 (n := shotL s t ag i - 1) (by omega) (by omega), w64 (n := (i : Int) + 1) (by omega) (by omega), e2, e2, l07_level, l07_level, Option.bind_some, Option.bind_some, Option.bind_some, Option.bind_some, if_pos (show (lvs (fun i => decide (shot1 s t ag (shotL s t ag i) i > 0)) i).length < 140737488355328 by rw [lvs_len]; omega), if_pos (show (lvs (fun i => decide (shot1 s t ag (shotL s t ag i) i > 0)) i).length < 140737488355328 by rw [lvs_len]; omega), hmax, hmax]
    by_cases hf : isE s 49 i = true ∧ (ag = 1 ∨ shotL s t ag i = 0)
    · have e : shot1 s t ag (shotL s t ag i) i = t := by unfold shot1; rw [if_pos hf]
      rw [e] at ih
      rw [if_pos (by simpa using hf)]
      exact ih
    · have e : shot1 s t ag (shotL s t ag i) i = shotL s t ag i := by unfold shot1; rw [if_neg hf]
      rw [e] at ih
      rw [if_neg (by simpa using hf)]
      exact ih
theorem FnExactOneShot_same (s : ByteArray) (a c : Int) (hs : s.size ≤ 140737488351232) : ∃ (r : ByteArray) (b : Bool), impl_OneShot.f s a c = some (r, b) ∧ ∀ k, s.size + 2000 < k → spec_OneShot.f k s a c = some (r, b) := by
  unfold impl_OneShot.f spec_OneShot.f
  rw [isFilter_eq s a hs, Option.bind_some]
  cases h : (isW s && decide (1 ≤ a ∧ a ≤ 50))
  · refine ⟨_, _, rfl, fun k hk => ?_⟩
    rw [l09Filter_eq k s a hs (by omega), h]
    cases k with
    | zero => omega
    | succ k => rw [Option.bind_some, if_neg (by decide), spec_OneShot.j0]; rfl
  · obtain ⟨hz, hL, h1, h2⟩ := filter_ok h
    rw [if_pos rfl, within_eq, Option.bind_some]
    cases hq : decide (0 ≤ c ∧ c ≤ 1)
    · refine ⟨_, _, rfl, fun k hk => ?_⟩
      rw [l09Filter_eq k s a hs (by omega), h, Option.bind_some, if_pos rfl, l00In_eq, Option.bind_some, hq]
      cases k with
      | zero => omega
      | succ k => rw [spec_OneShot.j0]; rfl
    · refine ⟨_, _, rfl, fun k hk => ?_⟩
      rw [l09Filter_eq k s a hs (by omega), h, Option.bind_some, if_pos rfl, l00In_eq, Option.bind_some, hq]
      cases k with
      | zero => omega
      | succ k =>
        rw [spec_OneShot.j0, if_neg (by decide)]
        exact shot_loop s a c hz hL h1 h2 s.size k 0 (by omega) (by omega)
theorem FnExactStretchPulses_pure : laws_FnExactStretchPulses.Pure := by
  intro s a hs _
  obtain ⟨r, b, h1, h2⟩ := FnExactStretchPulses_same s a hs
  refine ⟨s.size + 2001, ?_⟩
  unfold laws_FnExactStretchPulses.f
  split
  · rfl
  · rw [h2 _ (by omega), h1, Option.bind_some, Option.bind_some, if_pos rfl, if_neg (by simp)]
theorem FnExactMajorityWave_pure : laws_FnExactMajorityWave.Pure := by
  intro s a hs _
  obtain ⟨r, b, h1, h2⟩ := FnExactMajorityWave_same s a hs
  refine ⟨s.size + 2001, ?_⟩
  unfold laws_FnExactMajorityWave.f
  split
  · rfl
  · rw [h2 _ (by omega), h1, Option.bind_some, Option.bind_some, if_pos rfl, if_neg (by simp)]
theorem FnExactDebounce_pure : laws_FnExactDebounce.Pure := by
  intro s a hs _
  obtain ⟨r, b, h1, h2⟩ := FnExactDebounce_same s a hs
  refine ⟨s.size + 2001, ?_⟩
  unfold laws_FnExactDebounce.f
  split
  · rfl
  · rw [h2 _ (by omega), h1, Option.bind_some, Option.bind_some, if_pos rfl, if_neg (by simp)]
theorem FnExactOneShot_pure : laws_FnExactOneShot.Pure := by
  intro s a c hs _ _
  obtain ⟨r, b, h1, h2⟩ := FnExactOneShot_same s a c hs
  refine ⟨s.size + 2001, ?_⟩
  unfold laws_FnExactOneShot.f
  split
  · rfl
  · rw [h2 _ (by omega), h1, Option.bind_some, Option.bind_some, if_pos rfl, if_neg (by simp)]
end Go.Proofs.YtcpfkfaiakpfjaaDoor.X

