/- My own texts of this seat and its words, merged: Xp103, Xp86, XOpenClo, XIsOpen, Xp23, CForm, CRings, CDrawFl, XAppInt, Xp104, Xp94, Xp68, Xp105, Xp95. Conditions: as each lemma says. -/
import Derived.Test.YtojpibpjieanhaaO21
import Derived.Test.YtojpibpjieanhaaO23
import Derived.RegionTactic
import Derived.BigRegion
import Derived.Laws.BitsLemmas
section
-- Written by a program of this session out of the kit's print of the loaded functions: a plain function of a Go function, and its contract.
namespace Go.Proofs.Ytojpibpjieanhaa.X
open Go.RowKit Go.Proofs.YtojpibpjieanhaaW.PrintWords Go.Proofs.YtojpibpjieanhaaW.PrintLast Go.Proofs.YtojpibpjieanhaaW.PrintMore
attribute [local go_sem] max2_int min2_int max_two min_two max_three min_three max_four min_four   -- for this text's walks alone
set_option linter.unusedVariables false
set_option linter.unusedSimpArgs false
def slices_Index_bool_bool.l0 : Nat → List Bool → Bool → Int → Int → Option (Int)
 | 0, _, _, _, _ => none
 | k + 1, x0, x1, x7, x8 => if x8 < x7 then (if 0 ≤ x8 then (if x8 < (x0.length : Int) then (if (x1 == (rdOf false x0 x8)) = true then (some x8) else (slices_Index_bool_bool.l0 k x0 x1 x7 (wrap64 (x8 + 1)))) else (none)) else (none)) else (some (-1))
def slices_Index_bool_bool.f (k : Nat) (l0 : List Bool) (a1 : Bool) : Option (Int) := slices_Index_bool_bool.l0 k l0 a1 (l0.length : Int) 0
set_option maxHeartbeats 8000000 in
set_option maxRecDepth 100000 in
theorem slices_Index_bool_bool.calls (k : Nat) (A0 : Option Addr) (c0 : Nat) (l0 : List Bool) (a1 : Bool) (r : Int) (w : World) (hr0 : Kd.C Kd.bool w A0 l0.length l0) (hc0 : l0.length ≤ c0) (h : slices_Index_bool_bool.f k l0 a1 = some r) :
  Calls Try.prog 103 #[.slice A0 l0.length c0, .bool a1] w fun e w' => e = .returned (.int .i64 r) ∧ Drawn0 w w' := by
 have HR0 := Aside0.mk hr0
 have HC0 := Aside0.mk hc0
 clear hr0 hc0
 have H : (slices_Index_bool_bool.l0 k l0 a1 (l0.length : Int) 0) = some r := h
 clear h
 have H' := Aside0.mk H
 clear H
 go_enter Try.func103, Try.ntmps103
 go_wp2
 go_loopg [8] k (fun kq v8 w' => ∃ (x8_1 : Int), v8 = .int .i64 x8_1 ∧ Aside0 (slices_Index_bool_bool.l0 kq l0 a1 (l0.length : Int) x8_1 = some r) ∧ Aside0 (kq ≤ k) ∧ Drawn0 w w')
 case atStart => exact ⟨(0), (by first | rfl | (simp; done) | (simp [*]; done)), H', ⟨Nat.le_refl _⟩, by repeat (first | exact Drawn0.refl _ | apply Drawn0.step)⟩
 case round =>
  clear H'
  try clear c1
  try clear p2
  obtain ⟨x8_1, rfl, HA, HK1, ⟨m1, rfl⟩⟩ := hrel
  cases gk with
  | zero => exact absurd HA.out (by simp [slices_Index_bool_bool.l0])
  | succ k1 =>
   have H := HA.out
   clear HA
   simp only [slices_Index_bool_bool.l0] at H
   by_cases c3 : x8_1 < (l0.length : Int)
   ·rw [if_pos c3] at H
    have c3b0 : decide (x8_1 < (l0.length : Int)) = true := decide_eq_true c3
    clear c3
    by_cases c4 : 0 ≤ x8_1
    ·rw [if_pos c4] at H
     have c4b0 : decide (0 ≤ x8_1) = true := decide_eq_true c4
     clear c4
     by_cases c5 : x8_1 < (l0.length : Int)
     ·rw [if_pos c5] at H
      have c5b0 : decide (x8_1 < (l0.length : Int)) = true := decide_eq_true c5
      clear c5
      by_cases c6 : (a1 == (rdOf false l0 x8_1)) = true
      ·rw [if_pos c6] at H
       have c6b0 : (a1 == (rdOf false l0 x8_1)) = true := c6
       (try (have c6b1 : decide (a1 = (rdOf false l0 x8_1)) = true := by simpa using c6))
       (try (have c6b2 : (a1 == (rdOf false l0 x8_1)) = true := by simpa using c6))
       clear c6
       obtain rfl := Option.some.inj H
       have p245 : 0 ≤ (x8_1 : Int) := of_decide_eq_true (by first | (with_reducible assumption) | assumption)
       have q245 : x8_1 < (l0.length : Int) := of_decide_eq_true (by first | (with_reducible assumption) | assumption)
       obtain ⟨ad245, e245, hx245_0⟩ := Kd.at_bool HR0.out x8_1 p245 q245
       cases e245
       replace p245 := eq_true p245
       replace q245 := eq_true q245
       go_wp2
       go_ret
       exact ⟨by first | rfl | (simp; done) | (simp [*]; done), by repeat (first | exact Drawn0.refl _ | apply Drawn0.step)⟩
      ·rw [if_neg c6] at H
       have c6b0 : (a1 == (rdOf false l0 x8_1)) = false := by simpa using c6
       (try (have c6b1 : decide (a1 = (rdOf false l0 x8_1)) = false := by simpa using c6))
       (try (have c6b2 : (a1 == (rdOf false l0 x8_1)) = false := by simpa using c6))
       (try (have c6b3 : ¬ (a1 = (rdOf false l0 x8_1)) := by simpa using c6))
       clear c6
       have H' := Aside0.mk H
       clear H
       have p245 : 0 ≤ (x8_1 : Int) := of_decide_eq_true (by first | (with_reducible assumption) | assumption)
       have q245 : x8_1 < (l0.length : Int) := of_decide_eq_true (by first | (with_reducible assumption) | assumption)
       obtain ⟨ad245, e245, hx245_0⟩ := Kd.at_bool HR0.out x8_1 p245 q245
       cases e245
       replace p245 := eq_true p245
       replace q245 := eq_true q245
       go_wp2
       go_roundg k1
       case measure => have := HK1.out; omega
       case rel => exact ⟨(wrap64 (x8_1 + 1)), (by first | rfl | (simp; done) | (simp [*]; done)), H', ⟨by have := HK1.out; omega⟩, by repeat (first | exact Drawn0.refl _ | apply Drawn0.step)⟩
     ·rw [if_neg c5] at H
      exact absurd H (by simp)
    ·rw [if_neg c4] at H
     exact absurd H (by simp)
   ·rw [if_neg c3] at H
    have c3b0 : decide (x8_1 < (l0.length : Int)) = false := decide_eq_false c3
    clear c3
    obtain rfl := Option.some.inj H
    go_wp2
    go_ret
    exact ⟨by first | rfl | (simp; done) | (simp [*]; done), by repeat (first | exact Drawn0.refl _ | apply Drawn0.step)⟩
end Go.Proofs.Ytojpibpjieanhaa.X
end
section
-- Written by a program of this session out of the kit's print of the loaded functions: a plain function of a Go function, and its contract.
namespace Go.Proofs.Ytojpibpjieanhaa.X
open Go.RowKit Go.Proofs.YtojpibpjieanhaaW.PrintWords Go.Proofs.YtojpibpjieanhaaW.PrintLast Go.Proofs.YtojpibpjieanhaaW.PrintMore
attribute [local go_sem] max2_int min2_int max_two min_two max_three min_three max_four min_four   -- for this text's walks alone
set_option linter.unusedVariables false
set_option linter.unusedSimpArgs false
def slices_Contains_bool_bool.f (k : Nat) (l0 : List Bool) (a1 : Bool) : Option (Bool) := (slices_Index_bool_bool.f k l0 a1).bind fun t246 => (some (decide (t246 ≥ 0)))
set_option maxHeartbeats 8000000 in
set_option maxRecDepth 100000 in
theorem slices_Contains_bool_bool.calls (k : Nat) (A0 : Option Addr) (c0 : Nat) (l0 : List Bool) (a1 : Bool) (r : Bool) (w : World) (hr0 : Kd.C Kd.bool w A0 l0.length l0) (hc0 : l0.length ≤ c0) (h : slices_Contains_bool_bool.f k l0 a1 = some r) :
  Calls Try.prog 86 #[.slice A0 l0.length c0, .bool a1] w fun e w' => e = .returned (.bool r) ∧ Drawn0 w w' := by
 have HR0 := Aside0.mk hr0
 have HC0 := Aside0.mk hc0
 clear hr0 hc0
 have H : ((slices_Index_bool_bool.f k l0 a1).bind fun t246 => (some (decide (t246 ≥ 0)))) = some r := h
 clear h
 replace H := Option.bind_eq_some_iff.mp H
 obtain ⟨t246, A30, H⟩ := H
 replace H : (some (decide (t246 ≥ 0))) = some r := H
 have A3 := Aside0.mk A30
 clear A30
 obtain rfl := Option.some.inj H
 go_enter Try.func86, Try.ntmps86
 go_wp2_with (first | ((with_reducible refine gate_callee (f := 103) rfl ?_); refine goesL_ (some 7) rfl rfl Try.func103 (by kernel_rfl) rfl #[.slice A0 l0.length c0, .bool a1] rfl (by (try simp only [List.map_toArray, List.map_cons, List.map_nil]); first | done | rfl | (simp only [List.length_drop, List.length_take]; rfl)) ?_; (with_reducible refine (slices_Index_bool_bool.calls k _ _ l0 a1 t246 _ ?side1 ?side2 A3.out).mono ?_); (case side1 => repeat (first | exact HR0.out | (with_reducible refine Kd.C_alloc ?_ _) | (with_reducible refine Kd.C_drewN ?_ _) | (with_reducible refine Kd.C_drew ?_))); (case side2 => first | exact trivial | (exact HC0.out)); rintro e w' ⟨rfl, ⟨nd, rfl⟩⟩; refine ⟨_, rfl, ?_⟩))
 go_ret
 exact ⟨by first | rfl | (simp; done) | (simp [*]; done), by repeat (first | exact Drawn0.refl _ | apply Drawn0.step)⟩
end Go.Proofs.Ytojpibpjieanhaa.X
end
section
namespace Go.Proofs.Ytojpibpjieanhaa.X
open Go.RowKit Go.Proofs.YtojpibpjieanhaaW.PrintWords Go.Proofs.YtojpibpjieanhaaW.PrintLast Go.Proofs.YtojpibpjieanhaaW.PrintMore
set_option linter.unusedVariables false
set_option linter.unusedSimpArgs false
def Bools (w : World) (g : Nat) (l : List Bool) : Prop := w.heap[g]? = some (.cells (l.map Value.bool).toArray 4 (0, 0))
theorem Bools.cell {w : World} {g : Nat} {l : List Bool} (h : Bools w g l) (i : Nat) (hi : i < l.length) : w.cell? ⟨g, i, none⟩ = some (.bool (l.getD i false)) := by
  rw [blk_cell h i]
  simp [hi, List.getD_eq_getElem?_getD]
theorem Bools.frozen {w : World} {g : Nat} {l : List Bool} (h : Bools w g l) (i : Nat) : w.frozen? ⟨g, i, none⟩ = false := blk_frozen h i
theorem Bools.put {w : World} {g : Nat} {l : List Bool} (h : Bools w g l) (i : Nat) (b : Bool) : Bools (w.setCell ⟨g, i, none⟩ (.bool b)) g (l.set i b) :=
  blk_put h i (.bool b) (by simp [List.map_set])
theorem Bools.below {w w' : World} {g : Nat} {l : List Bool} (h : Bools w g l) (hb : Below w.heap.size w w') : Bools w' g l := blk_below h hb
theorem info4b : (Try.prog.info? 4).map (fun i => (i.zero, i.size, i.bytes)) = some (some (.bool false), 1, 1) := by kernel_rfl
section
variable {P : Program} {ops : Array Oper} {Q : Exit → Act → World → Prop}
theorem make_bools {rest : List Oper} {o : Oper} {a : Act} {W : World} (hgd : o.guard = none) {N : Tmp} (hd : o.dst = some N) (t e : TypeId) (x y : Operand) (ho : o.op = .makeSlice t x y) (n : Nat) (hx : a.eval x = .int .i64 n) (hy : a.eval y = .int .i64 n)
    (ht : P.underlying t = some (.slice e)) (hinfo : (P.info? e).map (fun i => (i.zero, i.size, i.bytes)) = some (some (.bool false), 1, 1)) (he : e = 4) (hl : n ≤ 1000000)
    (h : ∀ g wn, g = W.heap.size → Bools wn g (List.replicate n false) → Below W.heap.size W wn → wpList P ops Q rest (a.put o.dst (.slice (some ⟨g, 0, none⟩) n n)) wn) : wpList P ops Q (o :: rest) a W := by
  obtain ⟨i0, hi, hzz⟩ := Option.map_eq_some_iff.1 hinfo
  simp only [Prod.mk.injEq] at hzz
  obtain ⟨hz0, hz1, hz2⟩ := hzz
  have hr := run_make (P := P) W t e i0 (.bool false) ht hi hz0 .i64 .i64 (n : Int) (n : Int) (by omega) (by omega)
    (by
      have h3 : ((i0.bytes * n : Nat) : Int) ≤ 281474976710656 := by rw [hz2]; omega
      rwa [Int.natCast_mul] at h3) (by omega)
  simp only [Int.toNat_natCast] at hr
  rw [hz1] at hr
  refine Kd.event_run hgd (?_ : (execOp a.eval o).run P W = .ok (.value (.slice (some ⟨W.heap.size, 0, none⟩) n n)) (W.alloc (.cells (madeCells (Value.bool false).cells (n * 1)) e))) (h _ _ rfl ?_ (below_alloc (Below.refl _ _) _))
  · simp [execOp, ho, hx, hy, hr]
  · subst he
    unfold Bools
    have e1 : madeCells (Value.bool false).cells (n * 1) = ((List.replicate n false).map Value.bool).toArray := by
      apply Array.ext
      · simp [size_madeCells]
      · intro i h1 h2
        simp [madeCells, Value.cells, Nat.mod_one]
    rw [← e1]
    simp [World.alloc, -World.alloc_eq]
end
def leads (left : List Bool) (i f t c : Int) : Option Bool := if (c == 0) = true then (if (t == i) = true then (if 0 ≤ f ∧ f < left.length then some (left.getD f.toNat false) else none) else some false) else some false
abbrev leadC (left : List Bool) (i : Int) : C_impl_Wire_102 := ⟨fun f t c => leads left i f t c⟩
set_option maxHeartbeats 4000000 in
set_option maxRecDepth 100000 in
theorem OpenClo_1 (x0 x1 x2 : Int) (i n g1 g2 gL : Nat) (L : List Bool) (f1 : (x2 == 0) = false) (w : World) (b1 : w.heap[g1]? = some (.cells #[.int .i64 (i : Int)] 3 (0, 0))) (b2 : w.heap[g2]? = some (.cells #[.slice (some ⟨gL, 0, none⟩) n n] 99 (0, 0))) (bl : Bools w gL L) :
    Calls Try.prog 85 #[.agg #[.int .i64 x0, .int .i64 x1, .int .i64 x2], .pointer (some ⟨g1, 0, none⟩), .pointer (some ⟨g2, 0, none⟩)] w fun e w' => e = .returned (.bool false) ∧ Below w.heap.size w w' := by
  have Hb1 := Aside0.mk b1
  have Hb2 := Aside0.mk b2
  have Hbl := Aside0.mk bl
  clear b1 b2 bl
  have HB := Aside0.mk (Below.refl w.heap.size w)
  have BK1 := Hb1
  have BK2 := Hb2
  have BL := Hbl
  go_enter Try.func85, Try.ntmps85
  go_wp2_with (first
    | ((with_reducible refine gate_dst (N := 3) rfl ?_); refine box_event ?hg (N := 3) ?hd (cs := #[.int .i64 x0, .int .i64 x1, .int .i64 x2]) (t := 55) ?hr ?_; (case hd => rfl); (case hg => rfl); (case hr => first | (go_simp; done) | (go_simp; rfl)); intro g3 hg wn hbox hb; have GE3 := Aside0.mk (by rw [hg]; exact below_size HB.out : w.heap.size ≤ g3); have hbx := hb; clear hg; have BK30 := Aside0.mk hbox; clear hbox; have n0_ := Aside0.mk (below_step HB.out hb); clear HB  hb; have HB := n0_; clear n0_ ; have BK3 := BK30; clear BK30; have c3_0 : wn.cell? ⟨g3, 0, none⟩ = some (.int .i64 x0) := (blk_cell BK3.out 0).trans rfl; have c3_1 : wn.cell? ⟨g3, 1, none⟩ = some (.int .i64 x1) := (blk_cell BK3.out 1).trans rfl; have c3_2 : wn.cell? ⟨g3, 2, none⟩ = some (.int .i64 x2) := (blk_cell BK3.out 2).trans rfl; have n1_ := Aside0.mk (blk_below BK1.out hbx); have n2_ := Aside0.mk (blk_below BK2.out hbx); have n3_ := Aside0.mk (BL.out.below hbx); clear hbx BK1 BK2 BL; have BK1 := n1_; have BK2 := n2_; have BL := n3_; clear n1_ n2_ n3_; have c1_0 : wn.cell? ⟨g1, 0, none⟩ = some (.int .i64 (i : Int)) := (blk_cell BK1.out 0).trans rfl; have c2_0 : wn.cell? ⟨g2, 0, none⟩ = some (.slice (some ⟨gL, 0, none⟩) n n) := (blk_cell BK2.out 0).trans rfl))
  go_ret
  exact ⟨rfl, HB.out⟩
set_option maxHeartbeats 4000000 in
set_option maxRecDepth 100000 in
theorem OpenClo_2 (x0 x1 x2 : Int) (i n g1 g2 gL : Nat) (L : List Bool) (f1 : (x2 == 0) = true) (f2 : (x1 == (i : Int)) = false) (w : World) (b1 : w.heap[g1]? = some (.cells #[.int .i64 (i : Int)] 3 (0, 0))) (b2 : w.heap[g2]? = some (.cells #[.slice (some ⟨gL, 0, none⟩) n n] 99 (0, 0))) (bl : Bools w gL L) :
    Calls Try.prog 85 #[.agg #[.int .i64 x0, .int .i64 x1, .int .i64 x2], .pointer (some ⟨g1, 0, none⟩), .pointer (some ⟨g2, 0, none⟩)] w fun e w' => e = .returned (.bool false) ∧ Below w.heap.size w w' := by
  have Hb1 := Aside0.mk b1
  have Hb2 := Aside0.mk b2
  have Hbl := Aside0.mk bl
  clear b1 b2 bl
  have HB := Aside0.mk (Below.refl w.heap.size w)
  have BK1 := Hb1
  have BK2 := Hb2
  have BL := Hbl
  go_enter Try.func85, Try.ntmps85
  go_wp2_with (first
    | ((with_reducible refine gate_dst (N := 3) rfl ?_); refine box_event ?hg (N := 3) ?hd (cs := #[.int .i64 x0, .int .i64 x1, .int .i64 x2]) (t := 55) ?hr ?_; (case hd => rfl); (case hg => rfl); (case hr => first | (go_simp; done) | (go_simp; rfl)); intro g3 hg wn hbox hb; have GE3 := Aside0.mk (by rw [hg]; exact below_size HB.out : w.heap.size ≤ g3); have hbx := hb; clear hg; have BK30 := Aside0.mk hbox; clear hbox; have n0_ := Aside0.mk (below_step HB.out hb); clear HB  hb; have HB := n0_; clear n0_ ; have BK3 := BK30; clear BK30; have c3_0 : wn.cell? ⟨g3, 0, none⟩ = some (.int .i64 x0) := (blk_cell BK3.out 0).trans rfl; have c3_1 : wn.cell? ⟨g3, 1, none⟩ = some (.int .i64 x1) := (blk_cell BK3.out 1).trans rfl; have c3_2 : wn.cell? ⟨g3, 2, none⟩ = some (.int .i64 x2) := (blk_cell BK3.out 2).trans rfl; have n1_ := Aside0.mk (blk_below BK1.out hbx); have n2_ := Aside0.mk (blk_below BK2.out hbx); have n3_ := Aside0.mk (BL.out.below hbx); clear hbx BK1 BK2 BL; have BK1 := n1_; have BK2 := n2_; have BL := n3_; clear n1_ n2_ n3_; have c1_0 : wn.cell? ⟨g1, 0, none⟩ = some (.int .i64 (i : Int)) := (blk_cell BK1.out 0).trans rfl; have c2_0 : wn.cell? ⟨g2, 0, none⟩ = some (.slice (some ⟨gL, 0, none⟩) n n) := (blk_cell BK2.out 0).trans rfl))
  go_ret
  exact ⟨rfl, HB.out⟩
set_option maxHeartbeats 4000000 in
set_option maxRecDepth 100000 in
theorem OpenClo_3 (x1 x2 : Int) (p i n g1 g2 gL : Nat) (L : List Bool) (f1 : (x2 == 0) = true) (f2 : (x1 == (i : Int)) = true) (hp : p < n) (hn : n ≤ 1000000) (w : World) (b1 : w.heap[g1]? = some (.cells #[.int .i64 (i : Int)] 3 (0, 0))) (b2 : w.heap[g2]? = some (.cells #[.slice (some ⟨gL, 0, none⟩) n n] 99 (0, 0))) (bl : Bools w gL L) (hL : L.length = n) :
    Calls Try.prog 85 #[.agg #[.int .i64 (p : Int), .int .i64 x1, .int .i64 x2], .pointer (some ⟨g1, 0, none⟩), .pointer (some ⟨g2, 0, none⟩)] w fun e w' => e = .returned (.bool (L.getD p false)) ∧ Below w.heap.size w w' := by
  have Hb1 := Aside0.mk b1
  have Hb2 := Aside0.mk b2
  have Hbl := Aside0.mk bl
  have HhL := Aside0.mk hL
  clear b1 b2 bl hL
  have HB := Aside0.mk (Below.refl w.heap.size w)
  have BK1 := Hb1
  have BK2 := Hb2
  have BL := Hbl
  go_enter Try.func85, Try.ntmps85
  go_wp2_with (first
    | ((with_reducible refine gate_dst (N := 3) rfl ?_); refine box_event ?hg (N := 3) ?hd (cs := #[.int .i64 (p : Int), .int .i64 x1, .int .i64 x2]) (t := 55) ?hr ?_; (case hd => rfl); (case hg => rfl); (case hr => first | (go_simp; done) | (go_simp; rfl)); intro g3 hg wn hbox hb; have GE3 := Aside0.mk (by rw [hg]; exact below_size HB.out : w.heap.size ≤ g3); have hbx := hb; clear hg; have BK30 := Aside0.mk hbox; clear hbox; have n0_ := Aside0.mk (below_step HB.out hb); clear HB  hb; have HB := n0_; clear n0_ ; have BK3 := BK30; clear BK30; have c3_0 : wn.cell? ⟨g3, 0, none⟩ = some (.int .i64 (p : Int)) := (blk_cell BK3.out 0).trans rfl; have c3_1 : wn.cell? ⟨g3, 1, none⟩ = some (.int .i64 x1) := (blk_cell BK3.out 1).trans rfl; have c3_2 : wn.cell? ⟨g3, 2, none⟩ = some (.int .i64 x2) := (blk_cell BK3.out 2).trans rfl; have n1_ := Aside0.mk (blk_below BK1.out hbx); have n2_ := Aside0.mk (blk_below BK2.out hbx); have n3_ := Aside0.mk (BL.out.below hbx); clear hbx BK1 BK2 BL; have BK1 := n1_; have BK2 := n2_; have BL := n3_; clear n1_ n2_ n3_; have c1_0 : wn.cell? ⟨g1, 0, none⟩ = some (.int .i64 (i : Int)) := (blk_cell BK1.out 0).trans rfl; have c2_0 : wn.cell? ⟨g2, 0, none⟩ = some (.slice (some ⟨gL, 0, none⟩) n n) := (blk_cell BK2.out 0).trans rfl; have cL : wn.cell? ⟨gL, p, none⟩ = some (.bool (L.getD p false)) := BL.out.cell p (by rw [HhL.out]; exact hp)))
  go_ret
  exact ⟨rfl, HB.out⟩
theorem OpenCl (i n g1 g2 gL : Nat) (L : List Bool) (w : World) (hn : n ≤ 1000000) (hL : L.length = n) (h1 : w.heap[g1]? = some (.cells #[.int .i64 (i : Int)] 3 (0, 0))) (h2 : w.heap[g2]? = some (.cells #[.slice (some ⟨gL, 0, none⟩) n n] 99 (0, 0))) (h3 : Bools w gL L) :
    ∀ x0 x1 x2 r W, (leadC L i).f x0 x1 x2 = some r → Below w.heap.size w W → Calls Try.prog 85 (#[.agg #[.int .i64 x0, .int .i64 x1, .int .i64 x2]] ++ #[.pointer (some ⟨g1, 0, none⟩), .pointer (some ⟨g2, 0, none⟩)]) W fun e w' => e = .returned (.bool r) ∧ Below W.heap.size W w' := by
  intro x0 x1 x2 r W hx hW
  have q1 := blk_below h1 hW
  have q2 := blk_below h2 hW
  have q3 := h3.below hW
  have hx : leads L i x0 x1 x2 = some r := hx
  unfold leads at hx
  cases f1 : (x2 == 0) with
  | false =>
    rw [f1, if_neg (by simp)] at hx
    obtain rfl := Option.some.inj hx
    exact OpenClo_1 x0 x1 x2 i n g1 g2 gL L f1 W q1 q2 q3
  | true =>
    rw [f1, if_pos rfl] at hx
    cases f2 : (x1 == (i : Int)) with
    | false =>
      rw [f2, if_neg (by simp)] at hx
      obtain rfl := Option.some.inj hx
      exact OpenClo_2 x0 x1 x2 i n g1 g2 gL L f1 f2 W q1 q2 q3
    | true =>
      rw [f2, if_pos rfl] at hx
      by_cases hp : 0 ≤ x0 ∧ x0 < L.length
      · rw [if_pos hp] at hx
        obtain rfl := Option.some.inj hx
        obtain ⟨p, rfl⟩ := Int.eq_ofNat_of_zero_le hp.1
        rw [Int.toNat_natCast]
        exact OpenClo_3 x1 x2 p i n g1 g2 gL L f1 f2 (by omega) hn W q1 q2 q3 hL
      · rw [if_neg hp] at hx
        exact absurd hx (by simp)
end Go.Proofs.Ytojpibpjieanhaa.X
end
section
namespace Go.Proofs.Ytojpibpjieanhaa.X
open Go.RowKit Go.Proofs.YtojpibpjieanhaaW.PrintWords Go.Proofs.YtojpibpjieanhaaW.PrintLast Go.Proofs.YtojpibpjieanhaaW.PrintMore
set_option linter.unusedVariables false
set_option linter.unusedSimpArgs false
def openStep (k : Nat) (ws : List S55) (i : Nat) (L : List Bool) : Option (List Bool) := (@impl_Wire_102.f (leadC L i) k ws 0).bind fun r => some (L.set i (L.getD i false && decide (r ≥ 0)))
def openRound (k : Nat) (ws : List S55) : Nat → List Bool → Option (List Bool)
  | 0, L => some L
  | i + 1, L => (openRound k ws i L).bind fun M => openStep k ws i M
def openRounds (k : Nat) (ws : List S55) (n : Nat) : Nat → Option (List Bool)
  | 0 => some (List.replicate n true)
  | m + 1 => (openRounds k ws n m).bind fun M => openRound k ws n M
theorem openStep_len {k : Nat} {ws : List S55} {i : Nat} {L M : List Bool} (h : openStep k ws i L = some M) : M.length = L.length := by
  obtain ⟨r, _, h⟩ := Option.bind_eq_some_iff.mp h
  obtain rfl := Option.some.inj h
  simp
theorem openRound_len {k : Nat} {ws : List S55} : ∀ {i : Nat} {L M : List Bool}, openRound k ws i L = some M → M.length = L.length
  | 0, L, M, h => by obtain rfl := Option.some.inj h; rfl
  | i + 1, L, M, h => by
    obtain ⟨X, hX, h⟩ := Option.bind_eq_some_iff.mp h
    rw [openStep_len h, openRound_len hX]
theorem openRound_pre {k : Nat} {ws : List S55} {L : List Bool} : ∀ {n : Nat} {M : List Bool}, openRound k ws n L = some M → ∀ i, i ≤ n → ∃ X, openRound k ws i L = some X
  | 0, M, h, i, hi => by obtain rfl : i = 0 := by omega
                         exact ⟨M, h⟩
  | n + 1, M, h, i, hi => by
    by_cases e : i = n + 1
    · subst e; exact ⟨M, h⟩
    · obtain ⟨X, hX, _⟩ := Option.bind_eq_some_iff.mp h
      exact openRound_pre hX i (by omega)
theorem openRounds_pre {k : Nat} {ws : List S55} {n : Nat} : ∀ {m : Nat} {M : List Bool}, openRounds k ws n m = some M → ∀ i, i ≤ m → ∃ X, openRounds k ws n i = some X
  | 0, M, h, i, hi => by obtain rfl : i = 0 := by omega
                         exact ⟨M, h⟩
  | m + 1, M, h, i, hi => by
    by_cases e : i = m + 1
    · subst e; exact ⟨M, h⟩
    · obtain ⟨X, hX, _⟩ := Option.bind_eq_some_iff.mp h
      exact openRounds_pre hX i (by omega)
theorem openRounds_len {k : Nat} {ws : List S55} {n : Nat} : ∀ {m : Nat} {M : List Bool}, openRounds k ws n m = some M → M.length = n
  | 0, M, h => by obtain rfl := Option.some.inj h; simp
  | m + 1, M, h => by
    obtain ⟨X, hX, h⟩ := Option.bind_eq_some_iff.mp h
    rw [openRound_len h, openRounds_len hX]
theorem bools_C {w : World} {g : Nat} {l : List Bool} (h : Bools w g l) (hm : l.length ≤ 1000000) : Kd.C Kd.bool w (some ⟨g, 0, none⟩) l.length l := by
  refine ⟨rfl, by omega, fun _ => ⟨_, rfl, fun j p hj => ⟨[.bool p], rfl, rfl, fun i u hu => ?_⟩⟩⟩
  obtain ⟨hl, hp⟩ := List.getElem?_eq_some_iff.1 hj
  have h0 : i = 0 := by
    rcases i with _ | i
    · rfl
    · simp at hu
  subst h0
  have hu' : Value.bool p = u := by simpa using hu
  have hc := h.cell j hl
  rw [List.getD_eq_getElem?_getD, hj] at hc
  have e : (⟨g, 0, none⟩ : Addr).add (j * Kd.bool.sz + 0) = ⟨g, j, none⟩ := by
    show (⟨g, 0, none⟩ : Addr).add (j * 1 + 0) = ⟨g, j, none⟩
    rw [Nat.mul_one, Nat.add_zero]
    unfold Addr.add; split <;> simp_all
  rw [e, ← hu']
  exact hc
def marked (n i : Nat) : List Bool := List.replicate i true ++ List.replicate (n - i) false
theorem marked_len {n i : Nat} (h : i ≤ n) : (marked n i).length = n := by simp [marked]; omega
theorem marked_set {n i : Nat} (h : i < n) : (marked n i).set i true = marked n (i + 1) := by
  unfold marked
  apply List.ext_getElem
  · simp; omega
  · intro j h1 h2
    simp only [List.length_set, List.length_append, List.length_replicate] at h1
    rw [List.getElem_set]
    by_cases e : i = j
    · subst e; simp
    · rw [if_neg e]
      simp only [List.getElem_append, List.length_replicate, List.getElem_replicate]
      split <;> split <;> first | rfl | omega
set_option maxHeartbeats 4000000 in
set_option maxRecDepth 100000 in
theorem isOpen_walk (k : Nat) (A0 : Option Addr) (c0 : Nat) (l0 : List Int) (A1 : Option Addr) (c1 : Nat) (l1 : List S55) (n : Nat) (hn0 : l0.length = n) (hn : n ≤ 1000000) (M : List Bool) (b : Bool) (w : World)
    (hr1 : Kd.C k55 w A1 l1.length l1) (hc1 : l1.length ≤ c1) (hM : openRounds k l1 n n = some M) (hb : slices_Contains_bool_bool.f k M true = some b) :
    Calls Try.prog 54 #[.agg #[.slice A0 l0.length c0, .slice A1 l1.length c1]] w fun e w' => e = .returned (.bool (!b)) ∧ Below w.heap.size w w' := by
  have HR1 := Aside0.mk hr1
  have HC1 := Aside0.mk hc1
  have HM := Aside0.mk hM
  have Hb := Aside0.mk hb
  clear hr1 hc1 hM hb
  have HB := Aside0.mk (Below.refl w.heap.size w)
  rw [hn0]
  clear hn0
  go_enter Try.func54, Try.ntmps54
  go_wp2_with (first
    | ((with_reducible refine gate_dst (N := 1) rfl ?_); refine box_event ?hg (N := 1) ?hd (cs := #[.slice A0 n c0, .slice A1 l1.length c1]) (t := 36) ?hr ?_; (case hd => rfl); (case hg => rfl); (case hr => first | (go_simp; done) | (go_simp; rfl)); intro g1 hg wn hbox hb; have GE1 := Aside0.mk (by rw [hg]; exact below_size HB.out : w.heap.size ≤ g1); clear hg; have BK10 := Aside0.mk hbox; clear hbox; have n0_ := Aside0.mk (below_step HB.out hb); clear HB  hb; have HB := n0_; clear n0_ ; have BK1 := BK10; clear BK10; have c1_0 : wn.cell? ⟨g1, 0, none⟩ = some (.slice A0 n c0) := (blk_cell BK1.out 0).trans rfl; have c1_1 : wn.cell? ⟨g1, 1, none⟩ = some (.slice A1 l1.length c1) := (blk_cell BK1.out 1).trans rfl)
    | ((with_reducible refine gate_dst (N := 10) rfl ?_); refine make_bools ?hg (N := 10) ?hd 99 4 (.tmp 9) (.tmp 9) ?ho n rfl rfl Try.underlying99 info4b rfl (by omega) ?_; (case hd => rfl); (case hg => rfl); (case ho => rfl); intro gL wn hgL hL hb; have GL := Aside0.mk (by rw [hgL]; exact below_size HB.out : w.heap.size ≤ gL); have NE1_L := Aside0.mk (show g1 ≠ gL by have := blk_lt BK1.out; omega); clear hgL; have BL0 := Aside0.mk hL; clear hL; have n0_ := Aside0.mk (below_step HB.out hb); have m1_ := Aside0.mk (blk_below BK1.out hb); clear HB BK1 hb; have HB := n0_; have BK1 := m1_; clear n0_ m1_; have c1_0 : wn.cell? ⟨g1, 0, none⟩ = some (.slice A0 n c0) := (blk_cell BK1.out 0).trans rfl; have c1_1 : wn.cell? ⟨g1, 1, none⟩ = some (.slice A1 l1.length c1) := (blk_cell BK1.out 1).trans rfl; have BL := BL0; clear BL0)
    | ((with_reducible refine gate_dst (N := 3) rfl ?_); refine box_event ?hg (N := 3) ?hd (cs := #[.slice none 0 0]) (t := 99) ?hr ?_; (case hd => rfl); (case hg => rfl); (case hr => first | (go_simp; done) | (go_simp; rfl)); intro g3 hg wn hbox hb; have GE3 := Aside0.mk (by rw [hg]; exact below_size HB.out : w.heap.size ≤ g3); have NE1_3 := Aside0.mk (show g1 ≠ g3 by have := blk_lt BK1.out; omega); have NEL_3 := Aside0.mk (show gL ≠ g3 by have := blk_lt BL.out; omega); clear hg; have BK30 := Aside0.mk hbox; clear hbox; have nL_ := Aside0.mk (BL.out.below hb); clear BL; have BL := nL_; clear nL_; have n0_ := Aside0.mk (below_step HB.out hb); have m1_ := Aside0.mk (blk_below BK1.out hb); clear HB BK1 hb; have HB := n0_; have BK1 := m1_; clear n0_ m1_; have c1_0 : wn.cell? ⟨g1, 0, none⟩ = some (.slice A0 n c0) := (blk_cell BK1.out 0).trans rfl; have c1_1 : wn.cell? ⟨g1, 1, none⟩ = some (.slice A1 l1.length c1) := (blk_cell BK1.out 1).trans rfl; have BK3 := BK30; clear BK30; have z3_0 := blk_frozen BK3.out 0; have c3_0 : wn.cell? ⟨g3, 0, none⟩ = some (.slice none 0 0) := (blk_cell BK3.out 0).trans rfl))
  have p1 := Aside0.mk (blk_far BK1.out (p := ⟨g3, 0, none⟩) NE1_3.out (.slice (some ⟨gL, 0, none⟩) n n))
  have pL : Aside0 (Bools _ gL (List.replicate n false)) := ⟨blk_far BL.out (p := ⟨g3, 0, none⟩) NEL_3.out (.slice (some ⟨gL, 0, none⟩) n n)⟩
  have p3 := Aside0.mk (blk_put BK3.out 0 (.slice (some ⟨gL, 0, none⟩) n n) (cs' := #[.slice (some ⟨gL, 0, none⟩) n n]) rfl)
  have pb := Aside0.mk (below_set (j := 0) (v := .slice (some ⟨gL, 0, none⟩) n n) HB.out GE3.out)
  clear HB BK1 BK3 BL
  generalize wn.setCell ⟨g3, 0, none⟩ (.slice (some ⟨gL, 0, none⟩) n n) = W1 at p1 pL p3 pb ⊢
  clear z3_0 c3_0 c1_0 c1_1
  go_loopg [13] n (fun kq v13 w' => ∃ i : Nat, v13 = .int .i64 i ∧ Aside0 (i + kq = n) ∧ Aside0 (w'.heap[g1]? = some (.cells #[.slice A0 n c0, .slice A1 l1.length c1] 36 (0, 0))) ∧ Aside0 (w'.heap[g3]? = some (.cells #[.slice (some ⟨gL, 0, none⟩) n n] 99 (0, 0))) ∧ Aside0 (Bools w' gL (marked n i)) ∧ Aside0 (Below w.heap.size w w'))
  case atStart => exact ⟨0, by first | rfl | simp, ⟨by omega⟩, p1, p3, ⟨by simpa [marked] using pL.out⟩, pb⟩
  case round =>
    clear p1 pL p3 pb
    obtain ⟨i, rfl, HE, Q1, Q3, QL, QB⟩ := hrel
    have c3 : wr.cell? ⟨g3, 0, none⟩ = some (.slice (some ⟨gL, 0, none⟩) n n) := (blk_cell Q3.out 0).trans rfl
    by_cases hlt : i < n
    · cases gk with
      | zero => have := HE.out; omega
      | succ gq =>
      have zL := QL.out.frozen i
      have cL := QL.out.cell i (by rw [marked_len]; omega; omega)
      go_wp2
      go_roundg gq
      case measure => omega
      case rel => exact ⟨i + 1, by go_num, ⟨by have := HE.out; omega⟩, ⟨blk_far Q1.out (p := ⟨gL, i, none⟩) NE1_L.out _⟩, ⟨blk_far Q3.out (p := ⟨gL, i, none⟩) (Ne.symm NEL_3.out) _⟩, ⟨by rw [← marked_set hlt]; exact QL.out.put i true⟩, ⟨QB.out.setCell GL.out _⟩⟩
    · have e : i = n := by have := HE.out; omega
      subst e
      clear hlt HE
      go_wp2
      obtain ⟨wo, rfl⟩ : ∃ wo : World, wo = wr := ⟨_, rfl⟩
      go_loopg [22] i (fun kq v22 w' => ∃ (m : Nat) (X : List Bool), v22 = .int .i64 m ∧ Aside0 (m + kq = i) ∧ Aside0 (openRounds k l1 i m = some X) ∧ Aside0 (w'.heap[g1]? = some (.cells #[.slice A0 i c0, .slice A1 l1.length c1] 36 (0, 0))) ∧ Aside0 (w'.heap[g3]? = some (.cells #[.slice (some ⟨gL, 0, none⟩) i i] 99 (0, 0))) ∧ Aside0 (Bools w' gL X) ∧ Aside0 (Below w.heap.size w w'))
      case atStart => exact ⟨0, _, by first | rfl | simp, ⟨by omega⟩, ⟨rfl⟩, Q1, Q3, ⟨by simpa [marked] using QL.out⟩, QB⟩
      case round =>
        clear Q1 Q3 QL QB c3
        obtain ⟨m, X, rfl, HE, HX, Q1, Q3, QL, QB⟩ := hrel
        have c3 : wr.cell? ⟨g3, 0, none⟩ = some (.slice (some ⟨gL, 0, none⟩) i i) := (blk_cell Q3.out 0).trans rfl
        by_cases hlt : m < i
        · cases gk with
          | zero => have := HE.out; omega
          | succ gq =>
          obtain ⟨X', hX'⟩ := openRounds_pre HM.out (m + 1) (by omega)
          obtain ⟨X0, hX0, hXr⟩ := Option.bind_eq_some_iff.mp hX'
          obtain rfl := Option.some.inj (HX.out.symm.trans hX0)
          have HX' := Aside0.mk hX'
          have HXr := Aside0.mk hXr
          have HXl := Aside0.mk (openRounds_len HX.out)
          clear hX' hX0 hXr
          go_wp2
          obtain ⟨wo2, rfl⟩ : ∃ wo2 : World, wo2 = wr := ⟨_, rfl⟩
          go_loopg [26] i (fun kq v26 w' => ∃ (j : Nat) (Y : List Bool), v26 = .int .i64 j ∧ Aside0 (j + kq = i) ∧ Aside0 (openRound k l1 j X = some Y) ∧ Aside0 (w'.heap[g1]? = some (.cells #[.slice A0 i c0, .slice A1 l1.length c1] 36 (0, 0))) ∧ Aside0 (w'.heap[g3]? = some (.cells #[.slice (some ⟨gL, 0, none⟩) i i] 99 (0, 0))) ∧ Aside0 (Bools w' gL Y) ∧ Aside0 (Below w.heap.size w w'))
          case atStart => exact ⟨0, X, by first | rfl | simp, ⟨by omega⟩, ⟨rfl⟩, Q1, Q3, QL, QB⟩
          case round =>
            clear Q1 Q3 QL QB c3
            obtain ⟨j, Y, rfl, HJ, HY, Q1, Q3, QL, QB⟩ := hrel
            have c1_0 : wr.cell? ⟨g1, 0, none⟩ = some (.slice A0 i c0) := (blk_cell Q1.out 0).trans rfl
            have c1_1 : wr.cell? ⟨g1, 1, none⟩ = some (.slice A1 l1.length c1) := (blk_cell Q1.out 1).trans rfl
            have c3 : wr.cell? ⟨g3, 0, none⟩ = some (.slice (some ⟨gL, 0, none⟩) i i) := (blk_cell Q3.out 0).trans rfl
            by_cases hlj : j < i
            · cases gk with
              | zero => have := HJ.out; omega
              | succ gq2 =>
              obtain ⟨Y', hY'⟩ := openRound_pre HXr.out (j + 1) (by omega)
              obtain ⟨Y0, hY0, hYs⟩ := Option.bind_eq_some_iff.mp hY'
              obtain rfl := Option.some.inj (HY.out.symm.trans hY0)
              have HYl := Aside0.mk ((openRound_len HY.out).trans HXl.out)
              have hYs' := hYs
              obtain ⟨r, hr, hYe⟩ := Option.bind_eq_some_iff.mp hYs'
              have HYe := Aside0.mk (Option.some.inj hYe)
              have HR := Aside0.mk hr
              have HY' := Aside0.mk hY'
              clear hY0 hYs hYs' hr hYe hY'
              go_wp2_with (first
                | ((with_reducible refine gate_dst (N := 5) rfl ?_); refine box_event ?hg (N := 5) ?hd (cs := #[.int .i64 0]) (t := 3) ?hr ?_; (case hd => rfl); (case hg => rfl); (case hr => first | (go_simp; done) | (go_simp; rfl)); intro g5 hg wn hbox hb; have GE5 := Aside0.mk (by rw [hg]; exact below_size QB.out : w.heap.size ≤ g5); have NE1_5 := Aside0.mk (show g1 ≠ g5 by have := blk_lt Q1.out; omega); have NE3_5 := Aside0.mk (show g3 ≠ g5 by have := blk_lt Q3.out; omega); have NEL_5 := Aside0.mk (show gL ≠ g5 by have := blk_lt QL.out; omega); clear hg; have B5 := Aside0.mk hbox; clear hbox; have n0_ := Aside0.mk (below_step QB.out hb); have n1_ := Aside0.mk (blk_below Q1.out hb); have n3_ := Aside0.mk (blk_below Q3.out hb); have nL_ := Aside0.mk (QL.out.below hb); clear QB Q1 Q3 QL hb c3 c1_0 c1_1; have QB := n0_; have Q1 := n1_; have Q3 := n3_; have QL := nL_; clear n0_ n1_ n3_ nL_; have z5 := blk_frozen B5.out 0; have c5 : wn.cell? ⟨g5, 0, none⟩ = some (.int .i64 0) := (blk_cell B5.out 0).trans rfl; have c1s0 : ∀ v, (wn.setCell ⟨g5, 0, none⟩ v).cell? ⟨g1, 0, none⟩ = some (.slice A0 i c0) := fun v => (blk_cell (blk_far Q1.out (p := ⟨g5, 0, none⟩) NE1_5.out v) 0).trans rfl; have c1s1 : ∀ v, (wn.setCell ⟨g5, 0, none⟩ v).cell? ⟨g1, 1, none⟩ = some (.slice A1 l1.length c1) := fun v => (blk_cell (blk_far Q1.out (p := ⟨g5, 0, none⟩) NE1_5.out v) 1).trans rfl)
                | (go_at_call 83; have q1 := Aside0.mk (blk_far Q1.out (p := ⟨g5, 0, none⟩) NE1_5.out (.int .i64 (j : Int))); have q3 := Aside0.mk (blk_far Q3.out (p := ⟨g5, 0, none⟩) NE3_5.out (.int .i64 (j : Int))); have qL : Aside0 (Bools _ gL Y) := ⟨blk_far QL.out (p := ⟨g5, 0, none⟩) NEL_5.out (.int .i64 (j : Int))⟩; have q5 := Aside0.mk (blk_put B5.out 0 (.int .i64 (j : Int)) (cs' := #[.int .i64 (j : Int)]) rfl); have qb := Aside0.mk (below_set (j := 0) (v := .int .i64 (j : Int)) QB.out GE5.out); clear QB Q1 Q3 QL B5 c5 z5 c1s0 c1s1; refine (@has83 (leadC Y j) k A1 c1 l1 r 85 Try.f85 #[.pointer (some ⟨g5, 0, none⟩), .pointer (some ⟨g3, 0, none⟩)] ⟨Try.func85, rfl, by kernel_rfl⟩ _ (OpenCl j i g5 g3 gL Y _ hn HYl.out q5.out q3.out qL.out) (Kd.C_below HR1.out qb.out) HC1.out HR.out).mono ?_; rintro e wz ⟨rfl, hb⟩; have n0_ := Aside0.mk (below_step qb.out hb); have n1_ := Aside0.mk (blk_below q1.out hb); have n3_ := Aside0.mk (blk_below q3.out hb); have n5_ := Aside0.mk (blk_below q5.out hb); have nL_ := Aside0.mk (qL.out.below hb); clear qb q1 q3 q5 qL hb; have QB := n0_; have Q1 := n1_; have Q3 := n3_; have B5 := n5_; have QL := nL_; clear n0_ n1_ n3_ n5_ nL_; have c3 : wz.cell? ⟨g3, 0, none⟩ = some (.slice (some ⟨gL, 0, none⟩) i i) := (blk_cell Q3.out 0).trans rfl; have c5 : wz.cell? ⟨g5, 0, none⟩ = some (.int .i64 (j : Int)) := (blk_cell B5.out 0).trans rfl; have zL := QL.out.frozen j))
              have cL := QL.out.cell j (by rw [HYl.out]; exact hlj)
              have HYe2 := HYe
              cases hy : Y.getD j false with
              | false =>
                rw [hy] at cL HYe2
                have HYe3 : Aside0 (Y.set j false = Y') := ⟨by simpa using HYe2.out⟩
                clear hy HYe HYe2
                go_region
                go_wp2
                go_roundg gq2
                case measure => omega
                case rel => exact ⟨j + 1, Y', by go_num, ⟨by have := HJ.out; omega⟩, HY', ⟨blk_far Q1.out (p := ⟨gL, j, none⟩) NE1_L.out _⟩, ⟨blk_far Q3.out (p := ⟨gL, j, none⟩) (Ne.symm NEL_3.out) _⟩, ⟨by rw [← HYe3.out]; exact QL.out.put j false⟩, ⟨by first | exact below_drew1 (QB.out.setCell GL.out _) | exact QB.out.setCell GL.out _⟩⟩
              | true =>
                rw [hy] at cL HYe2
                have HYe3 : Aside0 (Y.set j (decide (r ≥ 0)) = Y') := ⟨by simpa using HYe2.out⟩
                clear hy HYe HYe2
                go_region
                go_wp2
                go_roundg gq2
                case measure => omega
                case rel => exact ⟨j + 1, Y', by go_num, ⟨by have := HJ.out; omega⟩, HY', ⟨blk_far Q1.out (p := ⟨gL, j, none⟩) NE1_L.out _⟩, ⟨blk_far Q3.out (p := ⟨gL, j, none⟩) (Ne.symm NEL_3.out) _⟩, ⟨by rw [← HYe3.out]; exact QL.out.put j (decide (r ≥ 0))⟩, ⟨by first | exact below_drew1 (QB.out.setCell GL.out _) | exact QB.out.setCell GL.out _⟩⟩
            · have e : j = i := by have := HJ.out; omega
              have HYY : Aside0 (Y = X') := ⟨by have h1 := HY.out; rw [e] at h1; exact Option.some.inj (h1.symm.trans HXr.out)⟩
              have f1 : decide ((j : Int) < (i : Int)) = false := decide_eq_false (by omega)
              have f2 : decide (j < i) = false := decide_eq_false hlj
              clear hlj e
              go_wp2
              go_roundg gq
              case measure => omega
              case rel => exact ⟨m + 1, X', by go_num, ⟨by have := HE.out; omega⟩, HX', Q1, Q3, ⟨by rw [← HYY.out]; exact QL.out⟩, QB⟩
        · have e : m = i := by have := HE.out; omega
          have HXM : Aside0 (X = M) := ⟨by have h1 := HX.out; rw [e] at h1; exact Option.some.inj (h1.symm.trans HM.out)⟩
          have HML : Aside0 (M.length = i) := ⟨openRounds_len HM.out⟩
          have f1 : decide ((m : Int) < (i : Int)) = false := decide_eq_false (by omega)
          have f2 : decide (m < i) = false := decide_eq_false hlt
          clear hlt e
          have QM : Aside0 (Bools wr gL M) := ⟨by rw [← HXM.out]; exact QL.out⟩
          have T := Aside0.mk (slices_Contains_bool_bool.calls k (some ⟨gL, 0, none⟩) i M true b wr (bools_C QM.out (by rw [HML.out]; exact hn)) (by rw [HML.out]; exact Nat.le_refl _) Hb.out)
          rw [HML.out] at T
          go_wp2_with (first | (go_at_call 86; refine T.out.mono ?_; rintro e wz ⟨rfl, hb0⟩))
          go_ret
          exact ⟨rfl, by obtain ⟨m0, rfl⟩ := hb0; exact pw_below_drewN QB.out _⟩
def impl_Flow_isOpen.f (k : Nat) (l0 : List Int) (l1 : List S55) : Option Bool :=
  if l0.length ≤ 1000000 then (openRounds k l1 l0.length l0.length).bind fun M => (slices_Contains_bool_bool.f k M true).bind fun b => some (!b) else none
theorem impl_Flow_isOpen.calls (k : Nat) (A0_0 : Option Addr) (c0_0 : Nat) (l0_0 : List Int) (A0_1 : Option Addr) (c0_1 : Nat) (l0_1 : List (S55)) (r : Bool) (w : World) (hr0_0 : Kd.C (Kd.int .i64) w A0_0 l0_0.length l0_0) (hc0_0 : l0_0.length ≤ c0_0) (hr0_1 : Kd.C k55 w A0_1 l0_1.length l0_1) (hc0_1 : l0_1.length ≤ c0_1) (h : impl_Flow_isOpen.f k l0_0 l0_1 = some r) :
    Calls Try.prog 54 #[.agg #[.slice A0_0 l0_0.length c0_0, .slice A0_1 l0_1.length c0_1]] w fun e w' => e = .returned (.bool r) ∧ Below w.heap.size w w' := by
  unfold impl_Flow_isOpen.f at h
  by_cases hn : l0_0.length ≤ 1000000
  · rw [if_pos hn] at h
    obtain ⟨M, hM, h⟩ := Option.bind_eq_some_iff.mp h
    obtain ⟨b, hb, h⟩ := Option.bind_eq_some_iff.mp h
    obtain rfl := Option.some.inj h
    exact isOpen_walk k A0_0 c0_0 l0_0 A0_1 c0_1 l0_1 l0_0.length rfl hn M b w hr0_1 hc0_1 hM hb
  · rw [if_neg hn] at h
    exact absurd h (by simp)
end Go.Proofs.Ytojpibpjieanhaa.X
end
section
-- Written by a program of this session out of the kit's print of the loaded functions: a plain function of a Go function, and its contract.
namespace Go.Proofs.Ytojpibpjieanhaa.X
open Go.RowKit Go.Proofs.YtojpibpjieanhaaW.PrintWords Go.Proofs.YtojpibpjieanhaaW.PrintLast Go.Proofs.YtojpibpjieanhaaW.PrintMore
attribute [local go_sem] max2_int min2_int max_two min_two max_three min_three max_four min_four   -- for this text's walks alone
set_option linter.unusedVariables false
set_option linter.unusedSimpArgs false
def impl_ValidFlow.f (k : Nat) (l0_0 : List Int) (l0_1 : List (S55)) : Option (Bool) := (impl_isFlow.f k l0_0 l0_1).bind fun t248 => (if t248 = true then ((impl_Flow_isOpen.f k l0_0 l0_1).bind fun t249 => (some t249)) else (some false))
set_option maxHeartbeats 8000000 in
set_option maxRecDepth 100000 in
theorem impl_ValidFlow.calls (k : Nat) (A0_0 : Option Addr) (c0_0 : Nat) (l0_0 : List Int) (A0_1 : Option Addr) (c0_1 : Nat) (l0_1 : List (S55)) (r : Bool) (w : World) (hr0_0 : Kd.C (Kd.int .i64) w A0_0 l0_0.length l0_0) (hc0_0 : l0_0.length ≤ c0_0) (hr0_1 : Kd.C k55 w A0_1 l0_1.length l0_1) (hc0_1 : l0_1.length ≤ c0_1) (h : impl_ValidFlow.f k l0_0 l0_1 = some r) :
  Calls Try.prog 23 #[.agg #[.slice A0_0 l0_0.length c0_0, .slice A0_1 l0_1.length c0_1]] w fun e w' => e = .returned (.bool r) ∧ Below w.heap.size w w' := by
 have hu36 := Try.underlying36
 have HR0_0 := Aside0.mk hr0_0
 have HC0_0 := Aside0.mk hc0_0
 clear hr0_0 hc0_0
 have HR0_1 := Aside0.mk hr0_1
 have HC0_1 := Aside0.mk hc0_1
 clear hr0_1 hc0_1
 have HB := Aside0.mk (Below.refl w.heap.size w)
 have H : ((impl_isFlow.f k l0_0 l0_1).bind fun t248 => (if t248 = true then ((impl_Flow_isOpen.f k l0_0 l0_1).bind fun t249 => (some t249)) else (some false))) = some r := h
 clear h
 replace H := Option.bind_eq_some_iff.mp H
 obtain ⟨t248, A20, H⟩ := H
 replace H : (if t248 = true then ((impl_Flow_isOpen.f k l0_0 l0_1).bind fun t249 => (some t249)) else (some false)) = some r := H
 have A2 := Aside0.mk A20
 clear A20
 by_cases c3 : t248 = true
 ·subst c3
  have H1 : ((impl_Flow_isOpen.f k l0_0 l0_1).bind fun t249 => (some t249)) = some r := by rw [if_pos rfl] at H; exact H
  clear H
  have H := H1
  clear H1
  replace H := Option.bind_eq_some_iff.mp H
  obtain ⟨t249, A40, H⟩ := H
  replace H : (some t249) = some r := H
  have A4 := Aside0.mk A40
  clear A40
  obtain rfl := Option.some.inj H
  go_enter Try.func23, Try.ntmps23
  go_wp2_with (first | ((with_reducible refine gate_dst (N := 1) rfl ?_); refine box_event ?hg (N := 1) ?hd (cs := #[.slice A0_0 l0_0.length c0_0, .slice A0_1 l0_1.length c0_1]) (t := 36) ?hr ?_; (case hd => rfl); (case hg => rfl); (case hr => first | (go_simp; done) | (go_simp; rfl)); intro gb247 hg w5 hbox hb; have n0_ := Aside0.mk (below_step (by repeat (first | (with_reducible first | exact HB.out | apply below_alloc | apply pw_below_drewN | apply below_drew1) | exact HB.out)) hb); have n1_ := Aside0.mk (hbox); have n2_ := Aside0.mk ((by rw [hg]; exact (below_size (by repeat (first | (with_reducible first | exact HB.out | apply below_alloc | apply pw_below_drewN | apply below_drew1) | exact HB.out))) : w.heap.size ≤ gb247)); have n3_ := Aside0.mk ((by rw [hg]; exact (below_size (by repeat (first | (with_reducible first | exact HB.out | apply below_alloc | apply pw_below_drewN | apply below_drew1) | exact HB.out))) : w.heap.size ≤ gb247)); clear HB; have HB := n0_; have BK247 := n1_; have GW247 := n2_; have GE247 := n3_; clear n0_ n1_ n2_ n3_; clear hb hbox hg; have hcz6_0 : w5.cell? ⟨gb247, 0, none⟩ = some (.slice A0_0 l0_0.length c0_0) := (blk_cell BK247.out 0).trans rfl; have hcz6_1 : w5.cell? ⟨gb247, 1, none⟩ = some (.slice A0_1 l0_1.length c0_1) := (blk_cell BK247.out 1).trans rfl; have hfz6_0 := blk_frozen BK247.out 0; have hfz6_1 := blk_frozen BK247.out 1) | ((with_reducible refine gate_callee (f := 53) rfl ?_); refine goesL_ (some 4) rfl rfl Try.func53 (by kernel_rfl) rfl #[.agg #[.slice A0_0 l0_0.length c0_0, .slice A0_1 l0_1.length c0_1]] rfl (by (try simp only [List.map_toArray, List.map_cons, List.map_nil]); first | done | rfl | (simp only [List.length_drop, List.length_take]; rfl)) ?_; (with_reducible refine (impl_isFlow.calls k _ _ l0_0 _ _ l0_1 true _ ?side1 ?side2 ?side3 ?side4 A2.out).mono ?_); (case side1 => repeat (first | exact (Kd.C_below HR0_0.out HB.out) | (with_reducible refine Kd.C_alloc ?_ _) | (with_reducible refine Kd.C_drewN ?_ _) | (with_reducible refine Kd.C_drew ?_))); (case side2 => first | exact trivial | (exact HC0_0.out)); (case side3 => repeat (first | exact (Kd.C_below HR0_1.out HB.out) | (with_reducible refine Kd.C_alloc ?_ _) | (with_reducible refine Kd.C_drewN ?_ _) | (with_reducible refine Kd.C_drew ?_))); (case side4 => first | exact trivial | (exact HC0_1.out)); rintro e w7 ⟨rfl, hb⟩; refine ⟨_, rfl, ?_⟩; have n0_ := Aside0.mk (blk_below (g := gb247) (o := .cells #[.slice A0_0 l0_0.length c0_0, .slice A0_1 l0_1.length c0_1] 36 (0, 0)) (by (with_reducible repeat (first | refine blk_drewN ?_ _ | refine blk_drew ?_ | refine blk_alloc ?_ _)); exact BK247.out) hb); have n1_ := Aside0.mk (below_step (by repeat (first | (with_reducible first | exact HB.out | apply below_alloc | apply pw_below_drewN | apply below_drew1 | refine below_set ?_ GE247.out) | exact HB.out)) hb); clear BK247; clear HB; have BK247 := n0_; have HB := n1_; clear n0_ n1_; (try clear hb); (try clear hb2); (try clear hk); (try clear hi); have hcz8_0 : w7.cell? ⟨gb247, 0, none⟩ = some (.slice A0_0 l0_0.length c0_0) := (blk_cell BK247.out 0).trans rfl; have hcz8_1 : w7.cell? ⟨gb247, 1, none⟩ = some (.slice A0_1 l0_1.length c0_1) := (blk_cell BK247.out 1).trans rfl; have hfz8_0 := blk_frozen BK247.out 0; have hfz8_1 := blk_frozen BK247.out 1) | (go_at_call 54; (with_reducible refine (impl_Flow_isOpen.calls k _ _ l0_0 _ _ l0_1 t249 _ ?side1 ?side2 ?side3 ?side4 A4.out).mono ?_); (case side1 => repeat (first | exact (Kd.C_below HR0_0.out HB.out) | (with_reducible refine Kd.C_alloc ?_ _) | (with_reducible refine Kd.C_drewN ?_ _) | (with_reducible refine Kd.C_drew ?_))); (case side2 => first | exact trivial | (exact HC0_0.out)); (case side3 => repeat (first | exact (Kd.C_below HR0_1.out HB.out) | (with_reducible refine Kd.C_alloc ?_ _) | (with_reducible refine Kd.C_drewN ?_ _) | (with_reducible refine Kd.C_drew ?_))); (case side4 => first | exact trivial | (exact HC0_1.out)); rintro e w9 ⟨rfl, hb⟩; have n0_ := Aside0.mk (blk_below (g := gb247) (o := .cells #[.slice A0_0 l0_0.length c0_0, .slice A0_1 l0_1.length c0_1] 36 (0, 0)) (by (with_reducible repeat (first | refine blk_drewN ?_ _ | refine blk_drew ?_ | refine blk_alloc ?_ _)); exact BK247.out) hb); have n1_ := Aside0.mk (below_step (by repeat (first | (with_reducible first | exact HB.out | apply below_alloc | apply pw_below_drewN | apply below_drew1 | refine below_set ?_ GE247.out) | exact HB.out)) hb); clear BK247; clear HB; have BK247 := n0_; have HB := n1_; clear n0_ n1_; (try clear hb); (try clear hb2); (try clear hk); (try clear hi)))
  go_ret
  exact ⟨by first | rfl | (simp [errW_none, errW_some] <;> rfl) | (simp [*, errW_none, errW_some] <;> rfl), by repeat (first | (with_reducible first | exact HB.out | apply below_alloc | apply pw_below_drewN | apply below_drew1 | refine below_set ?_ GE247.out) | exact HB.out)⟩
 ·replace c3 := Bool.eq_false_iff.mpr c3
  subst c3
  have H1 : (some false) = some r := by rw [if_neg (show ¬ (false = true) by decide)] at H; exact H
  clear H
  have H := H1
  clear H1
  obtain rfl := Option.some.inj H
  go_enter Try.func23, Try.ntmps23
  go_wp2_with (first | ((with_reducible refine gate_dst (N := 1) rfl ?_); refine box_event ?hg (N := 1) ?hd (cs := #[.slice A0_0 l0_0.length c0_0, .slice A0_1 l0_1.length c0_1]) (t := 36) ?hr ?_; (case hd => rfl); (case hg => rfl); (case hr => first | (go_simp; done) | (go_simp; rfl)); intro gb247 hg w10 hbox hb; have n0_ := Aside0.mk (below_step (by repeat (first | (with_reducible first | exact HB.out | apply below_alloc | apply pw_below_drewN | apply below_drew1) | exact HB.out)) hb); have n1_ := Aside0.mk (hbox); have n2_ := Aside0.mk ((by rw [hg]; exact (below_size (by repeat (first | (with_reducible first | exact HB.out | apply below_alloc | apply pw_below_drewN | apply below_drew1) | exact HB.out))) : w.heap.size ≤ gb247)); have n3_ := Aside0.mk ((by rw [hg]; exact (below_size (by repeat (first | (with_reducible first | exact HB.out | apply below_alloc | apply pw_below_drewN | apply below_drew1) | exact HB.out))) : w.heap.size ≤ gb247)); clear HB; have HB := n0_; have BK247 := n1_; have GW247 := n2_; have GE247 := n3_; clear n0_ n1_ n2_ n3_; clear hb hbox hg; have hcz11_0 : w10.cell? ⟨gb247, 0, none⟩ = some (.slice A0_0 l0_0.length c0_0) := (blk_cell BK247.out 0).trans rfl; have hcz11_1 : w10.cell? ⟨gb247, 1, none⟩ = some (.slice A0_1 l0_1.length c0_1) := (blk_cell BK247.out 1).trans rfl; have hfz11_0 := blk_frozen BK247.out 0; have hfz11_1 := blk_frozen BK247.out 1) | ((with_reducible refine gate_callee (f := 53) rfl ?_); refine goesL_ (some 4) rfl rfl Try.func53 (by kernel_rfl) rfl #[.agg #[.slice A0_0 l0_0.length c0_0, .slice A0_1 l0_1.length c0_1]] rfl (by (try simp only [List.map_toArray, List.map_cons, List.map_nil]); first | done | rfl | (simp only [List.length_drop, List.length_take]; rfl)) ?_; (with_reducible refine (impl_isFlow.calls k _ _ l0_0 _ _ l0_1 false _ ?side1 ?side2 ?side3 ?side4 A2.out).mono ?_); (case side1 => repeat (first | exact (Kd.C_below HR0_0.out HB.out) | (with_reducible refine Kd.C_alloc ?_ _) | (with_reducible refine Kd.C_drewN ?_ _) | (with_reducible refine Kd.C_drew ?_))); (case side2 => first | exact trivial | (exact HC0_0.out)); (case side3 => repeat (first | exact (Kd.C_below HR0_1.out HB.out) | (with_reducible refine Kd.C_alloc ?_ _) | (with_reducible refine Kd.C_drewN ?_ _) | (with_reducible refine Kd.C_drew ?_))); (case side4 => first | exact trivial | (exact HC0_1.out)); rintro e w12 ⟨rfl, hb⟩; refine ⟨_, rfl, ?_⟩; have n0_ := Aside0.mk (blk_below (g := gb247) (o := .cells #[.slice A0_0 l0_0.length c0_0, .slice A0_1 l0_1.length c0_1] 36 (0, 0)) (by (with_reducible repeat (first | refine blk_drewN ?_ _ | refine blk_drew ?_ | refine blk_alloc ?_ _)); exact BK247.out) hb); have n1_ := Aside0.mk (below_step (by repeat (first | (with_reducible first | exact HB.out | apply below_alloc | apply pw_below_drewN | apply below_drew1 | refine below_set ?_ GE247.out) | exact HB.out)) hb); clear BK247; clear HB; have BK247 := n0_; have HB := n1_; clear n0_ n1_; (try clear hb); (try clear hb2); (try clear hk); (try clear hi)))
  go_ret
  exact ⟨by first | rfl | (simp [errW_none, errW_some] <;> rfl) | (simp [*, errW_none, errW_some] <;> rfl), by repeat (first | (with_reducible first | exact HB.out | apply below_alloc | apply pw_below_drewN | apply below_drew1 | refine below_set ?_ GE247.out) | exact HB.out)⟩
end Go.Proofs.Ytojpibpjieanhaa.X
end
section
namespace Go.Proofs.Ytojpibpjieanhaa.X
open Go.RowKit Go.Proofs.YtojpibpjieanhaaW.PrintWords Go.Proofs.YtojpibpjieanhaaW.PrintLast Go.Proofs.YtojpibpjieanhaaW.PrintMore Go.Proofs.Ytojpibpjieanhaa.FlowMath
set_option linter.unusedVariables false
set_option linter.unusedSimpArgs false
theorem idx_int [C_slices_IndexFunc_int64_int64] (l : List Int) (p : Int → Bool) (hp : ∀ x, x ∈ l → C_slices_IndexFunc_int64_int64.f x = some (p x)) (hl : l.length ≤ 1000) : ∀ (d i k : Nat), i + d = l.length → d < k →
    ∃ r, slices_IndexFunc_int64_int64.l0 k l (l.length : Int) (i : Int) = some r ∧ decide (r ≥ 0) = (l.drop i).any p
  | 0, i, k, hi, hk => by
    cases k with
    | zero => omega
    | succ k => exact ⟨-1, by rw [slices_IndexFunc_int64_int64.l0, if_neg (by omega)], by rw [List.drop_of_length_le (by omega)]; rfl⟩
  | d + 1, i, k, hi, hk => by
    cases k with
    | zero => omega
    | succ k =>
      have hlt : i < l.length := by omega
      rw [slices_IndexFunc_int64_int64.l0, if_pos (by omega), if_pos (by omega), if_pos (by omega), rd_at l i hlt, hp _ (List.getElem_mem hlt), Option.bind_some, List.drop_eq_getElem_cons hlt, List.any_cons]
      cases hb : p l[i] with
      | true => exact ⟨i, by rw [if_pos rfl], by simp⟩
      | false =>
        obtain ⟨r, h1, h2⟩ := idx_int l p hp hl d (i + 1) k (by omega) (by omega)
        refine ⟨r, ?_, by rw [h2]; simp⟩
        rw [if_neg (by decide), w64 (by omega) (by omega)]
        rw [Int.natCast_add, Int.natCast_one] at h1
        exact h1
theorem idx_wire [C_impl_Wire_102] (l : List S55) (p : S55 → Bool) (hp : ∀ w, w ∈ l → C_impl_Wire_102.f w.f0 w.f1 w.f2 = some (p w)) (hl : l.length ≤ 1000) : ∀ (d i k : Nat), i + d = l.length → d < k →
    ∃ r, impl_Wire_102.l0 k l (l.length : Int) (i : Int) = some r ∧ decide (r ≥ 0) = (l.drop i).any p
  | 0, i, k, hi, hk => by
    cases k with
    | zero => omega
    | succ k => exact ⟨-1, by rw [impl_Wire_102.l0, if_neg (by omega)], by rw [List.drop_of_length_le (by omega)]; rfl⟩
  | d + 1, i, k, hi, hk => by
    cases k with
    | zero => omega
    | succ k =>
      have hlt : i < l.length := by omega
      rw [impl_Wire_102.l0, if_pos (by omega), if_pos (by omega), if_pos (by omega), rdT_at l i hlt, hp _ (List.getElem_mem hlt), Option.bind_some, List.drop_eq_getElem_cons hlt, List.any_cons]
      cases hb : p l[i] with
      | true => exact ⟨i, by rw [if_pos rfl], by simp⟩
      | false =>
        obtain ⟨r, h1, h2⟩ := idx_wire l p hp hl d (i + 1) k (by omega) (by omega)
        refine ⟨r, ?_, by rw [h2]; simp⟩
        rw [if_neg (by decide), w64 (by omega) (by omega)]
        rw [Int.natCast_add, Int.natCast_one] at h1
        exact h1
def inB (a b c : Int) : Bool := decide (b ≤ a) && decide (a ≤ c)
theorem l00In_w (a b c : Int) : spec_l00In.f a b c = some (inB a b c) := by
  unfold spec_l00In.f inB; by_cases h : a ≥ b <;> simp [h] <;> omega
def formB (l0 : List Int) (ws : List S55) : Bool := decide (1 ≤ l0.length ∧ l0.length ≤ 8) && (decide (ws.length ≤ 16) && (!(l0.any fun d => !inB d 0 100) && !(ws.any fun w => badWire l0.length w.f0 w.f1 w.f2)))
theorem sform_wires (ws : List S55) (l0 : List Int) (n : Nat) (hn : 1 ≤ n) (hn8 : n ≤ 8) (hm : ws.length ≤ 16) : ∀ (d i k : Nat), i + d = ws.length → d < k → spec_l08Form.l1 k n i l0 ws = some (!((ws.drop i).any fun w => badWire n w.f0 w.f1 w.f2))
  | 0, i, k, hi, hk => by
    cases k with
    | zero => omega
    | succ k => rw [spec_l08Form.l1, if_neg (by omega), List.drop_of_length_le (by omega)]; rfl
  | d + 1, i, k, hi, hk => by
    cases k with
    | zero => omega
    | succ k =>
      have ih := sform_wires ws l0 n hn hn8 hm d (i + 1) k (by omega) (by omega)
      have hlt : i < ws.length := by omega
      rw [Int.natCast_add, Int.natCast_one] at ih
      rw [spec_l08Form.l1, if_pos (by omega), if_pos (by omega), rdT_at ws i hlt, w64 (n := (n : Int) - 1) (by omega) (by omega), w64 (n := (i : Int) + 1) (by omega) (by omega), l00In_w, l00In_w, l00In_w, ih, List.drop_eq_getElem_cons hlt, List.any_cons]
      simp only [Option.bind_some, badWire]
      cases h1 : inB ws[i].f0 0 ((n : Int) - 1) <;> cases h2 : inB ws[i].f1 0 ((n : Int) - 1) <;> cases h3 : inB ws[i].f2 0 20 <;> (unfold inB at h1 h2 h3; simp [h1, h2, h3])
theorem sform_delays (ws : List S55) (l0 : List Int) (hn : 1 ≤ l0.length) (hn8 : l0.length ≤ 8) (hm : ws.length ≤ 16) : ∀ (d i k : Nat), i + d = l0.length → d + 20 < k → spec_l08Form.l0 k (l0.length : Int) i l0 ws = some (!((l0.drop i).any fun d => !inB d 0 100) && !(ws.any fun w => badWire l0.length w.f0 w.f1 w.f2))
  | 0, i, k, hi, hk => by
    cases k with
    | zero => omega
    | succ k =>
      rw [spec_l08Form.l0, if_neg (by omega), List.drop_of_length_le (by omega)]
      have := sform_wires ws l0 l0.length hn hn8 hm ws.length 0 k (by omega) (by omega)
      rw [List.drop_zero] at this
      rw [show ((0 : Nat) : Int) = 0 from rfl] at this
      rw [this]; rfl
  | d + 1, i, k, hi, hk => by
    cases k with
    | zero => omega
    | succ k =>
      have ih := sform_delays ws l0 hn hn8 hm d (i + 1) k (by omega) (by omega)
      have hlt : i < l0.length := by omega
      rw [Int.natCast_add, Int.natCast_one] at ih
      rw [spec_l08Form.l0, if_pos (by omega), if_pos (by omega), rd_at l0 i hlt, w64 (n := (i : Int) + 1) (by omega) (by omega), l00In_w, Option.bind_some, ih, List.drop_eq_getElem_cons hlt, List.any_cons]
      cases h1 : inB l0[i] 0 100 <;> simp
theorem sform_eq (k : Nat) (l0 : List Int) (ws : List S55) (h0 : l0.length ≤ 9223372036854775807) (h1 : ws.length ≤ 9223372036854775807) (hk : 100 < k) : spec_l08Form.f k l0 ws = some (formB l0 ws) := by
  unfold spec_l08Form.f formB
  rw [l00In_w, Option.bind_some]
  cases k with
  | zero => omega
  | succ k =>
    by_cases hn : 1 ≤ l0.length ∧ l0.length ≤ 8
    · have e1 : inB (l0.length : Int) 1 8 = true := by unfold inB; simp; omega
      rw [e1, if_pos rfl, decide_eq_true hn]
      by_cases hm : ws.length ≤ 16
      · have e2 : decide ((ws.length : Int) > 16) = false := decide_eq_false (by omega)
        rw [e2, spec_l08Form.j0, if_neg (by decide), decide_eq_true hm]
        have := sform_delays ws l0 hn.1 hn.2 hm l0.length 0 k (by omega) (by omega)
        rw [List.drop_zero] at this
        rw [show ((0 : Nat) : Int) = 0 from rfl] at this
        rw [this]; rfl
      · have e2 : decide ((ws.length : Int) > 16) = true := decide_eq_true (by omega)
        rw [e2, spec_l08Form.j0, if_pos rfl, decide_eq_false hm]; rfl
    · have e1 : inB (l0.length : Int) 1 8 = false := by unfold inB; simp; omega
      rw [e1, if_neg (by decide), spec_l08Form.j0, if_pos rfl, decide_eq_false hn]; rfl
theorem isDelay_w (d : Int) : impl_isDelay.f d = some (inB d 0 100) := by unfold impl_isDelay.f inB; rw [within_w]; rfl
theorem iform_eq (k : Nat) (l0 : List Int) (ws : List S55) (hk : 100 < k) : impl_isFlow.f k l0 ws = some (formB l0 ws) := by
  unfold impl_isFlow.f formB
  by_cases hn : 1 ≤ l0.length ∧ l0.length ≤ 8
  · have hn' : 1 ≤ (l0.length : Int) ∧ (l0.length : Int) ≤ 8 := by omega
    rw [if_pos hn', decide_eq_true hn]
    by_cases hm : ws.length ≤ 16
    · rw [if_neg (by omega), decide_eq_true hm]
      obtain ⟨r, h1, h2⟩ := @idx_int isDelC l0 (fun d => !inB d 0 100) (fun x _ => by show (impl_isDelay.f x).bind _ = _; rw [isDelay_w]; rfl) (by omega) l0.length 0 k (by omega) (by omega)
      obtain ⟨q, h3, h4⟩ := @idx_wire (wireC l0.length) ws (fun w => badWire l0.length w.f0 w.f1 w.f2) (fun w _ => rfl) (by omega) ws.length 0 k (by omega) (by omega)
      rw [List.drop_zero] at h2 h4
      unfold slices_IndexFunc_int64_int64.f impl_Wire_102.f
      rw [show ((0 : Nat) : Int) = 0 from rfl] at h1 h3
      rw [h1, h3, Option.bind_some, Option.bind_some, ← h2, ← h4]
      by_cases hr : r ≥ 0
      · simp [hr]
      · simp [hr]
    · rw [if_pos (by omega), decide_eq_false hm]; rfl
  · rw [if_neg (by omega), decide_eq_false hn]; rfl
theorem form_ok {l0 : List Int} {ws : List S55} (h : formB l0 ws = true) : (1 ≤ l0.length ∧ l0.length ≤ 8) ∧ ws.length ≤ 16 ∧ (∀ d, d ∈ l0 → 0 ≤ d ∧ d ≤ 100) ∧ ∀ w, w ∈ ws → WireOk l0.length w := by
  unfold formB at h
  simp only [Bool.and_eq_true, decide_eq_true_eq, Bool.not_eq_true', List.any_eq_false, inB, badWire] at h
  obtain ⟨h1, h2, h3, h4⟩ := h
  refine ⟨h1, h2, fun d hd => ?_, fun w hw => ?_⟩
  · have := h3 d hd; simp at this; exact this
  · have := h4 w hw
    simp at this
    unfold WireOk
    omega
end Go.Proofs.Ytojpibpjieanhaa.X
end
section
namespace Go.Proofs.Ytojpibpjieanhaa.X
open Go.RowKit Go.Proofs.YtojpibpjieanhaaW.PrintWords Go.Proofs.YtojpibpjieanhaaW.PrintLast Go.Proofs.YtojpibpjieanhaaW.PrintMore Go.Proofs.Ytojpibpjieanhaa.FlowMath
set_option linter.unusedVariables false
set_option linter.unusedSimpArgs false
def led (L : List Bool) (i : Nat) (w : S55) : Bool := (w.f2 == 0) && ((w.f1 == (i : Int)) && L.getD w.f0.toNat false)
def kStep (ws : List S55) (i : Nat) (L : List Bool) : List Bool := L.set i (L.getD i false && ws.any (led L i))
def kRound (ws : List S55) : Nat → List Bool → List Bool
  | 0, L => L
  | i + 1, L => kStep ws i (kRound ws i L)
def kRounds (ws : List S55) (n : Nat) : Nat → List Bool
  | 0 => List.replicate n true
  | m + 1 => kRound ws n (kRounds ws n m)
theorem kRound_len (ws : List S55) : ∀ (i : Nat) (L : List Bool), (kRound ws i L).length = L.length
  | 0, _ => rfl
  | i + 1, L => by rw [kRound, kStep, List.length_set, kRound_len ws i L]
theorem kRounds_len (ws : List S55) (n : Nat) : ∀ m, (kRounds ws n m).length = n
  | 0 => by simp [kRounds]
  | m + 1 => by rw [kRounds, kRound_len, kRounds_len ws n m]
theorem openStep_eq (k : Nat) (ws : List S55) (n i : Nat) (L : List Bool) (hL : L.length = n) (hm : ws.length ≤ 16) (hw : ∀ w, w ∈ ws → WireOk n w) (hk : 100 < k) : openStep k ws i L = some (kStep ws i L) := by
  unfold openStep kStep
  obtain ⟨r, h1, h2⟩ := @idx_wire (leadC L i) ws (led L i) (fun w hw' => by
    show leads L i w.f0 w.f1 w.f2 = some (led L i w)
    obtain ⟨o1, o2, o3, o4, o5, o6⟩ := hw w hw'
    unfold leads led
    cases h1 : (w.f2 == 0)
    · simp
    · cases h2 : (w.f1 == (i : Int))
      · simp
      · rw [if_pos rfl, if_pos rfl, if_pos (by omega)]; rfl) (by omega) ws.length 0 k (by omega) (by omega)
  rw [List.drop_zero] at h2
  rw [show ((0 : Nat) : Int) = 0 from rfl] at h1
  unfold impl_Wire_102.f
  rw [h1, Option.bind_some, h2]
theorem openRound_eq (k : Nat) (ws : List S55) (n : Nat) (hm : ws.length ≤ 16) (hw : ∀ w, w ∈ ws → WireOk n w) (hk : 100 < k) : ∀ (i : Nat) (L : List Bool), L.length = n → openRound k ws i L = some (kRound ws i L)
  | 0, _, _ => rfl
  | i + 1, L, hL => by
    rw [openRound, openRound_eq k ws n hm hw hk i L hL, Option.bind_some, openStep_eq k ws n i _ (by rw [kRound_len]; exact hL) hm hw hk]; rfl
theorem openRounds_eq (k : Nat) (ws : List S55) (n : Nat) (hm : ws.length ≤ 16) (hw : ∀ w, w ∈ ws → WireOk n w) (hk : 100 < k) : ∀ (m : Nat), openRounds k ws n m = some (kRounds ws n m)
  | 0 => rfl
  | m + 1 => by rw [openRounds, openRounds_eq k ws n hm hw hk m, Option.bind_some, openRound_eq k ws n hm hw hk n _ (kRounds_len ws n m)]; rfl
def Left (L : List Bool) (v : Nat) : Prop := L.getD v false = true
theorem getD_set (L : List Bool) (i v : Nat) (b : Bool) (hi : i < L.length) : (L.set i b).getD v false = if v = i then b else L.getD v false := by
  rw [List.getD_eq_getElem?_getD, List.getD_eq_getElem?_getD, List.getElem?_set]
  by_cases e : i = v
  · subst e; simp [hi]
  · rw [if_neg e, if_neg (fun h => e h.symm)]
theorem led_edge {ws : List S55} {n : Nat} (hw : ∀ w, w ∈ ws → WireOk n w) {L : List Bool} {i : Nat} : ws.any (led L i) = true ↔ ∃ u, Edge ws u i ∧ Left L u := by
  rw [List.any_eq_true]
  constructor
  · rintro ⟨w, h1, h2⟩
    unfold led at h2
    simp only [Bool.and_eq_true, beq_iff_eq] at h2
    obtain ⟨o1, _⟩ := hw w h1
    exact ⟨w.f0.toNat, ⟨w, h1, h2.1, by omega, h2.2.1⟩, h2.2.2⟩
  · rintro ⟨u, ⟨w, h1, h2, h3, h4⟩, h5⟩
    refine ⟨w, h1, ?_⟩
    unfold led
    simp only [Bool.and_eq_true, beq_iff_eq]
    refine ⟨h2, h4, ?_⟩
    rw [h3, Int.toNat_natCast]; exact h5
theorem round_sub (ws : List S55) (L : List Bool) : ∀ (i v : Nat), i ≤ L.length → Left (kRound ws i L) v → Left L v
  | 0, _, _, h => h
  | i + 1, v, hi, h => by
    have hi' : i < (kRound ws i L).length := by rw [kRound_len]; omega
    unfold Left at h
    rw [kRound, kStep, getD_set _ _ _ _ hi'] at h
    by_cases e : v = i
    · rw [if_pos e, Bool.and_eq_true] at h
      subst e
      exact round_sub ws L v v (by omega) h.1
    · rw [if_neg e] at h
      exact round_sub ws L i v (by omega) h
theorem round_led (ws : List S55) (n : Nat) (hw : ∀ w, w ∈ ws → WireOk n w) (L : List Bool) : ∀ (i v : Nat), i ≤ L.length → v < i → Left (kRound ws i L) v → ∃ u, Left L u ∧ Edge ws u v
  | 0, _, _, h, _ => absurd h (Nat.not_lt_zero _)
  | i + 1, v, hi, hv, h => by
    have hi' : i < (kRound ws i L).length := by rw [kRound_len]; omega
    unfold Left at h
    rw [kRound, kStep, getD_set _ _ _ _ hi'] at h
    by_cases e : v = i
    · rw [if_pos e, Bool.and_eq_true] at h
      obtain ⟨u, h1, h2⟩ := (led_edge hw).1 h.2
      subst e
      exact ⟨u, round_sub ws L v u (by omega) h2, h1⟩
    · rw [if_neg e] at h
      exact round_led ws n hw L i v (by omega) (by omega) h
theorem round_keep (ws : List S55) (n : Nat) (hw : ∀ w, w ∈ ws → WireOk n w) (L : List Bool) (C : Nat → Prop) (hC : ∀ v, C v → Left L v) (hp : ∀ v, C v → ∃ u, C u ∧ Edge ws u v) : ∀ (i v : Nat), i ≤ L.length → C v → Left (kRound ws i L) v
  | 0, v, _, h => hC v h
  | i + 1, v, hi, h => by
    have hi' : i < (kRound ws i L).length := by rw [kRound_len]; omega
    have ih := round_keep ws n hw L C hC hp i
    unfold Left
    rw [kRound, kStep, getD_set _ _ _ _ hi']
    by_cases e : v = i
    · rw [if_pos e, Bool.and_eq_true]
      subst e
      obtain ⟨u, h1, h2⟩ := hp v h
      exact ⟨ih v (by omega) h, (led_edge hw).2 ⟨u, h2, ih u (by omega) h1⟩⟩
    · rw [if_neg e]
      exact ih v (by omega) h
theorem left_lt {L : List Bool} {v : Nat} (h : Left L v) : v < L.length := by
  unfold Left at h
  rw [List.getD_eq_getElem?_getD] at h
  rcases Nat.lt_or_ge v L.length with h' | h'
  · exact h'
  · rw [List.getElem?_eq_none h'] at h; simp at h
theorem kahn_ws (ws : List S55) (n : Nat) (hw : ∀ w, w ∈ ws → WireOk n w) : (∃ v, Left (kRounds ws n n) v) ↔ ∃ v, Plus (Edge ws) v v := by
  refine kahn (Edge ws) n (fun a b h => h.lt hw) (fun m v => Left (kRounds ws n m) v) (fun v hv => ?_) (fun m v h => ?_) (fun m v h => ?_) (fun m v h => ?_) (fun m C hC hp v hv => ?_)
  · show (List.replicate n true).getD v false = true
    rw [List.getD_eq_getElem?_getD, List.getElem?_replicate, if_pos hv]; rfl
  · have := left_lt h; rw [kRounds_len] at this; exact this
  · exact round_sub ws _ n v (by rw [kRounds_len]; exact Nat.le_refl _) h
  · have hv := left_lt h
    rw [kRounds_len] at hv
    exact round_led ws n hw _ n v (by rw [kRounds_len]; exact Nat.le_refl _) hv h
  · exact round_keep ws n hw _ C hC hp n v (by rw [kRounds_len]; exact Nat.le_refl _) hv
theorem has_true (l : List Bool) (hl : l.length ≤ 1000) : ∀ (d i k : Nat), i + d = l.length → d < k → ∃ r, slices_Index_bool_bool.l0 k l true (l.length : Int) (i : Int) = some r ∧ decide (r ≥ 0) = (l.drop i).any id
  | 0, i, k, hi, hk => by
    cases k with
    | zero => omega
    | succ k => exact ⟨-1, by rw [slices_Index_bool_bool.l0, if_neg (by omega)], by rw [List.drop_of_length_le (by omega)]; rfl⟩
  | d + 1, i, k, hi, hk => by
    cases k with
    | zero => omega
    | succ k =>
      have hlt : i < l.length := by omega
      obtain ⟨r, h1, h2⟩ := has_true l hl d (i + 1) k (by omega) (by omega)
      rw [Int.natCast_add, Int.natCast_one] at h1
      have hrd : rdOf false l (i : Int) = l[i] := by unfold rdOf; simp [hlt]
      rw [slices_Index_bool_bool.l0, if_pos (by omega), if_pos (by omega), if_pos (by omega), hrd, List.drop_eq_getElem_cons hlt, List.any_cons]
      cases hb : l[i] with
      | true => exact ⟨i, by rw [if_pos (by rfl)], by simp⟩
      | false =>
        refine ⟨r, ?_, by rw [h2]; simp⟩
        rw [if_neg (by decide), w64 (by omega) (by omega)]
        exact h1
theorem isOpen_eq (k : Nat) (l0 : List Int) (ws : List S55) (hn : l0.length ≤ 8) (hm : ws.length ≤ 16) (hw : ∀ w, w ∈ ws → WireOk l0.length w) (hk : 100 < k) : impl_Flow_isOpen.f k l0 ws = some (open Classical in !decide (∃ v, Plus (Edge ws) v v)) := by
  unfold impl_Flow_isOpen.f
  rw [if_pos (by omega), openRounds_eq k ws l0.length hm hw hk, Option.bind_some]
  obtain ⟨r, h1, h2⟩ := has_true (kRounds ws l0.length l0.length) (by rw [kRounds_len]; omega) (kRounds ws l0.length l0.length).length 0 k (by omega) (by rw [kRounds_len]; omega)
  unfold slices_Contains_bool_bool.f slices_Index_bool_bool.f
  rw [show ((0 : Nat) : Int) = 0 from rfl] at h1
  rw [h1, Option.bind_some, Option.bind_some, h2, List.drop_zero]
  congr 2
  have key := kahn_ws ws l0.length hw
  have : (kRounds ws l0.length l0.length).any id = true ↔ ∃ v, Left (kRounds ws l0.length l0.length) v := by
    rw [List.any_eq_true]
    constructor
    · rintro ⟨b, hb, hb2⟩
      obtain ⟨v, hv, rfl⟩ := List.mem_iff_getElem.mp hb
      refine ⟨v, ?_⟩
      unfold Left
      rw [List.getD_eq_getElem?_getD, List.getElem?_eq_getElem hv]; exact hb2
    · rintro ⟨v, hv⟩
      have hl := left_lt hv
      unfold Left at hv
      rw [List.getD_eq_getElem?_getD, List.getElem?_eq_getElem hl] at hv
      exact ⟨_, List.getElem_mem hl, hv⟩
  rw [Bool.eq_iff_iff, this, key, @decide_eq_true_iff _ (Classical.propDecidable _)]
theorem is_loop (k0 : Nat) (l0 : List Int) (ws : List S55) (hn : l0.length ≤ 8) (hm : ws.length ≤ 16) (hw : ∀ w, w ∈ ws → WireOk l0.length w) : ∀ (d i k : Nat), i + d = l0.length → d + 1001 < k →
    ((∃ v, i ≤ v ∧ v < l0.length ∧ ringB ws v = true) → spec_l08Is.l0 k i l0 ws = some false) ∧ ((∀ v, i ≤ v → v < l0.length → ringB ws v = false) → spec_l08Is.l0 k i l0 ws = some true)
  | 0, i, k, hi, hk => by
    cases k with
    | zero => omega
    | succ k =>
      rw [spec_l08Is.l0, if_neg (by omega)]
      exact ⟨fun ⟨v, h1, h2, _⟩ => by omega, fun _ => rfl⟩
  | d + 1, i, k, hi, hk => by
    cases k with
    | zero => omega
    | succ k =>
      obtain ⟨ih1, ih2⟩ := is_loop k0 l0 ws hn hm hw d (i + 1) k (by omega) (by omega)
      rw [Int.natCast_add, Int.natCast_one] at ih1 ih2
      rw [spec_l08Is.l0, if_pos (by omega), open_eq ws l0 l0.length i (by omega) hn hm hw k (by omega), Option.bind_some, w64 (by omega) (by omega)]
      cases hb : ringB ws i with
      | true => exact ⟨fun _ => by rw [if_pos rfl], fun h => by have := h i (by omega) (by omega); rw [hb] at this; simp at this⟩
      | false =>
        refine ⟨fun ⟨v, h1, h2, h3⟩ => ?_, fun h => ?_⟩
        · rw [if_neg (by decide)]
          refine ih1 ⟨v, ?_, h2, h3⟩
          by_cases e : v = i
          · subst e; rw [hb] at h3; simp at h3
          · omega
        · rw [if_neg (by decide)]
          exact ih2 fun v h1 h2 => h v (by omega) h2
noncomputable def validB (l0 : List Int) (ws : List S55) : Bool := formB l0 ws && (open Classical in !decide (∃ v, Plus (Edge ws) v v))
theorem spec_is (k : Nat) (l0 : List Int) (ws : List S55) (h0 : l0.length ≤ 9223372036854775807) (h1 : ws.length ≤ 9223372036854775807) (hk : 2000 < k) : spec_l08Is.f k l0 ws = some (validB l0 ws) := by
  unfold spec_l08Is.f validB
  rw [sform_eq k l0 ws h0 h1 (by omega), Option.bind_some]
  cases hf : formB l0 ws with
  | false => rfl
  | true =>
    obtain ⟨hn, hm, _, hw⟩ := form_ok hf
    rw [if_pos rfl, Bool.true_and]
    obtain ⟨i1, i2⟩ := is_loop k l0 ws hn.2 hm hw l0.length 0 k (by omega) (by omega)
    rw [show ((0 : Nat) : Int) = 0 from rfl] at i1 i2
    by_cases hr : ∃ v, Plus (Edge ws) v v
    · obtain ⟨v, hv⟩ := hr
      obtain ⟨u, _, hu⟩ := ring_back hv
      rw [i1 ⟨v, Nat.zero_le _, (hu.lt hw).2, ringB_true hv⟩, @decide_eq_true _ (Classical.propDecidable _) ⟨v, hv⟩]; rfl
    · rw [i2 fun v _ _ => ringB_false fun h => hr ⟨v, h⟩, @decide_eq_false _ (Classical.propDecidable _) hr]; rfl
theorem impl_valid (k : Nat) (l0 : List Int) (ws : List S55) (hk : 2000 < k) : impl_ValidFlow.f k l0 ws = some (validB l0 ws) := by
  unfold impl_ValidFlow.f validB
  rw [iform_eq k l0 ws (by omega), Option.bind_some]
  cases hf : formB l0 ws with
  | false => rfl
  | true =>
    obtain ⟨hn, hm, _, hw⟩ := form_ok hf
    rw [if_pos rfl, isOpen_eq k l0 ws hn.2 hm hw (by omega)]; rfl
end Go.Proofs.Ytojpibpjieanhaa.X
end
section
namespace Go.Proofs.Ytojpibpjieanhaa.X
open Go.RowKit Go.Proofs.YtojpibpjieanhaaW.PrintWords Go.Proofs.YtojpibpjieanhaaW.PrintLast Go.Proofs.YtojpibpjieanhaaW.PrintMore Go.Proofs.Ytojpibpjieanhaa.FlowMath
set_option linter.unusedVariables false
set_option linter.unusedSimpArgs false
def Byt (l : List Int) : Prop := ∀ x ∈ l, 0 ≤ x ∧ x ≤ 255
theorem byt_wf {l : List Int} (h : ∀ x ∈ l, (Lit.int .u8 x).wf = true) : Byt l := by
  intro x hx
  have := h x hx
  have h2 : IntKind.u8.min ≤ x ∧ x ≤ IntKind.u8.max := by
    unfold Lit.wf at this
    simpa using this
  have e1 : IntKind.u8.min = 0 := by decide
  have e2 : IntKind.u8.max = 255 := by decide
  omega
theorem u64_shift (x : Int) : 0 ≤ IntKind.u64.wrap x / 1099511627776 ∧ IntKind.u64.wrap x / 1099511627776 < 2 ^ 24 := by
  have : IntKind.u64.wrap x = x % 18446744073709551616 := by simp [IntKind.wrap, IntKind.bits, IntKind.signed]
  rw [this]; omega
theorem wraps_u64 (n : Int) (h0 : 0 ≤ n) (h1 : n < 2 ^ 24) : IntKind.u64.wrap n = n := by
  have : IntKind.u64.wrap n = n % 18446744073709551616 := by simp [IntKind.wrap, IntKind.bits, IntKind.signed]
  rw [this]; omega
theorem and255 (x : Int) (h0 : 0 ≤ x) (h1 : x < 2 ^ 24) : Go.bits .and .u64 x 255 = x % 256 := Go.bits_mask .u64 24 (by decide) wraps_u64 8 (by decide) x h0 h1
theorem next_ok (l : List Int) (hb : Byt l) (i : Nat) (hi : i ≤ 1000000) (h : Int) : ∃ v h' : Int, spec_l00Src_next.f l i h = some (v, (i : Int) + 1, h') ∧ 0 ≤ v ∧ v ≤ 255 := by
  unfold spec_l00Src_next.f
  rw [w64 (n := (i : Int) + 1) (by omega) (by omega)]
  by_cases hl : i < l.length
  · have hm := hb _ (List.getElem_mem hl)
    rw [if_pos (by omega), if_pos (by omega), if_pos (by omega), rd_nat l i hl, w64 (n := l[i]) (by omega) (by omega)]
    exact ⟨_, _, rfl, hm.1, hm.2⟩
  · rw [if_neg (by omega), if_neg (by omega)]
    have hz := u64_shift ((IntKind.u64.wrap (IntKind.u64.wrap (h * 6364136223846793005))) + 1442695040888963407)
    rw [and255 _ hz.1 hz.2, w64 (by omega) (by omega)]
    exact ⟨_, _, rfl, by omega, by omega⟩
theorem pick_ok (l : List Int) (hb : Byt l) (i : Nat) (hi : i ≤ 900000) (h n : Int) (hn : n ≤ 60000) : ∃ (v : Int) (j : Nat) (h' : Int), spec_l00Src_pick.f l i h n = some (v, (j : Int), h') ∧ i ≤ j ∧ j ≤ i + 2 ∧ 0 ≤ v ∧ (v < n ∨ v = 0) := by
  unfold spec_l00Src_pick.f
  by_cases h1 : n ≤ 1
  · rw [if_pos h1]; exact ⟨0, i, h, rfl, by omega, by omega, by omega, .inr rfl⟩
  · rw [if_neg h1]
    obtain ⟨v, h2, e, hv⟩ := next_ok l hb i (by omega) h
    rw [e, Option.bind_some]
    simp only
    by_cases h3 : n > 200
    · obtain ⟨v2, h4, e2, hv2⟩ := next_ok l hb (i + 1) (by omega) h2
      rw [Int.natCast_add, Int.natCast_one] at e2
      rw [if_pos h3, e2, Option.bind_some, if_neg (by omega)]
      simp only
      rw [w64 (n := v * 256) (by omega) (by omega), w64 (n := v * 256 + v2) (by omega) (by omega), tmodp (by omega)]
      have := Int.emod_nonneg (v * 256 + v2) (show n ≠ 0 by omega)
      have := Int.emod_lt_of_pos (v * 256 + v2) (show 0 < n by omega)
      exact ⟨_, i + 2, h4, by rw [Int.natCast_add]; rfl, by omega, by omega, by omega, .inl (by omega)⟩
    · rw [if_neg h3, if_neg (by omega), tmodp (by omega)]
      have := Int.emod_nonneg v (show n ≠ 0 by omega)
      have := Int.emod_lt_of_pos v (show 0 < n by omega)
      exact ⟨_, i + 1, h2, by rw [Int.natCast_add]; rfl, by omega, by omega, by omega, .inl (by omega)⟩
theorem drawDs_ok (code : List Int) (hb : Byt code) (n : Nat) (hn : n ≤ 8) : ∀ (e v f : Nat) (d : List Int) (a : Nat) (s : Int), v + e = n → d.length = v → (∀ x, x ∈ d → 0 ≤ x ∧ x ≤ 100) → a + 2 * e ≤ 1000 → e < f →
    ∃ (d' : List Int) (a' : Nat) (s' : Int), drawDs code n f v d a s = some (d', (a' : Int), s') ∧ d'.length = n ∧ (∀ x, x ∈ d' → 0 ≤ x ∧ x ≤ 100) ∧ a' ≤ 1000
  | 0, v, f, d, a, s, hv, hd, hx, ha, hf => by
    obtain ⟨f, rfl⟩ : ∃ q, f = q + 1 := ⟨f - 1, by omega⟩
    exact ⟨d, a, s, by rw [drawDs, if_neg (by omega)], by omega, hx, by omega⟩
  | e + 1, v, f, d, a, s, hv, hd, hx, ha, hf => by
    obtain ⟨f, rfl⟩ : ∃ q, f = q + 1 := ⟨f - 1, by omega⟩
    obtain ⟨x, j, h', h1, h2, h3, h4, h5⟩ := pick_ok code hb a (by omega) s 9 (by omega)
    obtain ⟨d', a', s', g1, g2, g3, g4⟩ := drawDs_ok code hb n hn e (v + 1) f (d ++ [x]) j h' (by omega) (by simp; omega) (fun y hy => by
      rcases List.mem_append.1 hy with hy | hy
      · exact hx y hy
      · rw [List.mem_singleton] at hy; subst hy; omega) (by omega) (by omega)
    refine ⟨d', a', s', ?_, g2, g3, g4⟩
    rw [drawDs, if_pos (by omega), if_pos ⟨by omega, by omega⟩, h1, Option.bind_some]
    exact g1
theorem drawWs_ok (K : Nat) (hK : 9000000 < K) (code : List Int) (hb : Byt code) (n : Int) (hn : n ≤ 60000) (d : List Int) : ∀ (e : Nat) (ws : List S55) (a : Nat) (s : Int), validB d ws = true → e ≤ 1000 → a + 6 * e ≤ 10000 → ∃ ws', drawWs K code n d e ws a s = some ws' ∧ validB d ws' = true
  | 0, ws, a, s, hv, he, ha => ⟨ws, rfl, hv⟩
  | e + 1, ws, a, s, hv, he, ha => by
    have hf : formB d ws = true := by unfold validB at hv; rw [Bool.and_eq_true] at hv; exact hv.1
    obtain ⟨hdl, hm, _, _⟩ := form_ok hf
    obtain ⟨x, j, h', h1, h2, h3, _⟩ := pick_ok code hb a (by omega) s n hn
    obtain ⟨y, j2, h2', k1, k2, k3, _⟩ := pick_ok code hb j (by omega) h' n hn
    obtain ⟨z, j3, h3', l1, l2, l3, _⟩ := pick_ok code hb j2 (by omega) h2' 3 (by omega)
    rw [drawWs, if_pos (by omega), h1, Option.bind_some]
    simp only
    rw [k1, Option.bind_some]
    simp only
    rw [l1, Option.bind_some]
    simp only
    rw [spec_is K d (ws ++ [(⟨x, y, z⟩ : S55)]) (by omega) (by simp; omega) (by omega), Option.bind_some]
    cases hb2 : validB d (ws ++ [(⟨x, y, z⟩ : S55)]) with
    | false => rw [if_neg (by decide)]; exact drawWs_ok K hK code hb n hn d e ws j3 h3' hv (by omega) (by omega)
    | true => rw [if_pos rfl]; exact drawWs_ok K hK code hb n hn d e _ j3 h3' hb2 (by omega) (by omega)
theorem valid_nil (d : List Int) (h1 : 1 ≤ d.length) (h8 : d.length ≤ 8) (hd : ∀ x, x ∈ d → 0 ≤ x ∧ x ≤ 100) : validB d [] = true := by
  unfold validB formB
  have hno : ¬ ∃ v, Plus (X.Edge []) v v := by
    rintro ⟨v, hv⟩
    have : ∀ a b, ¬ X.Edge [] a b := fun a b ⟨w, hw, _⟩ => by cases hw
    cases hv with
    | one e => exact this _ _ e
    | step e _ => exact this _ _ e
  have ha : (d.any fun x => !inB x 0 100) = false := by
    rw [List.any_eq_false]
    intro x hx
    have := hd x hx
    unfold inB
    simp; omega
  rw [ha, @decide_eq_false _ (Classical.propDecidable _) hno, decide_eq_true ⟨h1, h8⟩]
  simp
theorem flow_ok (K : Nat) (hK : 9000000 < K) (code : List Int) (hb : Byt code) : ∃ d ws, spec_R8Flow.f K code = some (d, ws) ∧ validB d ws = true := by
  unfold spec_R8Flow.f drawFl
  obtain ⟨x, j, h', h1, h2, h3, h4, h5⟩ := pick_ok code hb 0 (by omega) 0 5 (by omega)
  rw [show ((0 : Nat) : Int) = 0 from rfl] at h1
  obtain ⟨n, rfl⟩ := Int.eq_ofNat_of_zero_le h4
  rw [h1, Option.bind_some]
  simp only
  rw [w64 (n := 1 + (n : Int)) (by omega) (by omega), show (1 : Int) + (n : Int) = ((n + 1 : Nat) : Int) by omega]
  obtain ⟨d, a, s, g1, g2, g3, g4⟩ := drawDs_ok code hb (n + 1) (by omega) (n + 1) 0 K [] j h' (by omega) rfl (fun x hx => by cases hx) (by omega) (by omega)
  rw [g1, Option.bind_some]
  simp only
  obtain ⟨r, j2, h2', k1, k2, k3, k4, k5⟩ := pick_ok code hb a (by omega) s 9 (by omega)
  rw [k1, Option.bind_some]
  simp only
  rw [if_pos ⟨k4, by omega⟩]
  obtain ⟨ws, l1, l2⟩ := drawWs_ok K hK code hb ((n + 1 : Nat) : Int) (by omega) d r.toNat [] j2 h2' (valid_nil d (by omega) (by omega) g3) (by omega) (by omega)
  rw [l1, Option.bind_some]
  exact ⟨d, ws, rfl, l2⟩
end Go.Proofs.Ytojpibpjieanhaa.X
end
section
namespace Go.Proofs.Ytojpibpjieanhaa.X
open Go.RowKit Go.Proofs.YtojpibpjieanhaaW.PrintWords Go.Proofs.YtojpibpjieanhaaW.PrintLast Go.Proofs.YtojpibpjieanhaaW.PrintMore
set_option linter.unusedVariables false
set_option linter.unusedSimpArgs false
theorem step_append_int {P : Program} {ops : Array Oper} {o : Oper} {a : Act} {w : World} {K : Act → World → Prop} {Q : Exit → Act → World → Prop} {E : Prop} (hgd : o.guard = none) (s x : Operand) (t : TypeId)
    (ho : o.op = Op.call { callee := Callee.builtin Builtin.append, args := #[s, x], argTypes := #[t, t] }) (e : TypeId) (bytes : Nat)
    (ht : P.underlying t = some (.slice e)) (hinfo : (P.info? e).map (fun i => (i.zero, i.size, i.bytes)) = some (some (.int .i64 0), 1, bytes)) (hb0 : 0 < bytes)
    (base : Nat) (w0 : World) (v : Value) (xs : List Int) (hs : a.eval s = v) (ad : Addr) (c : Nat) (y : Int) (hx : a.eval x = .slice (some ad) 1 c) (hc : w.cell? ad = some (.int .i64 y))
    (HO : Kd.R (Kd.int .i64) e w base (fun _ => True) v xs) (HB : Below base w0 w) (hbase : base ≤ w.heap.size) (hl : (xs.length + 1) * bytes ≤ 140737488355328)
    (hK : ∀ v' w', Kd.R (Kd.int .i64) e w' base (fun _ => True) v' (xs ++ [y]) → Below base w0 w' → K (a.put o.dst v') w') :
    if Region.wanted o (yielded ops a.tmps) = true then Oper.wp P o a w K Q else E := by
  have hown := Kd.own_of_R (enc := Value.int .i64) (h1 := fun _ => rfl) HO
  refine step_append_own hgd s x t ho e (.int .i64 0) bytes ht hinfo rfl hb0 base v xs.length (encs (Value.int .i64) xs) hs ad c (.int .i64 y) hx hc rfl hown hbase hl (fun v' w' h1 h2 h3 => ?_)
  refine hK v' w' (Kd.R_of_own (enc := Value.int .i64) (h1 := fun _ => rfl) (ok := fun _ => True) ?_ (fun _ _ => trivial)) (HB.grown h2 hbase (own_base hown))
  rw [List.length_append, encs_append]
  exact h1
end Go.Proofs.Ytojpibpjieanhaa.X
end
section
-- Written by a program of this session out of the kit's print of the loaded functions: a plain function of a Go function, and its contract.
namespace Go.Proofs.Ytojpibpjieanhaa.X
open Go.RowKit Go.Proofs.YtojpibpjieanhaaW.PrintWords Go.Proofs.YtojpibpjieanhaaW.PrintLast Go.Proofs.YtojpibpjieanhaaW.PrintMore
attribute [local go_sem] max2_int min2_int max_two min_two max_three min_three max_four min_four   -- for this text's walks alone
set_option linter.unusedVariables false
set_option linter.unusedSimpArgs false
def cmp_isNaN_int64.f (a0 : Int) : Option (Bool) := some (a0 != a0)
set_option maxHeartbeats 8000000 in
set_option maxRecDepth 100000 in
theorem cmp_isNaN_int64.calls (a0 : Int) (r : Bool) (w : World) (h : cmp_isNaN_int64.f a0 = some r) :
  Calls Try.prog 104 #[.int .i64 a0] w fun e w' => e = .returned (.bool r) ∧ Drawn0 w w' := by
 have H : (some (a0 != a0)) = some r := h
 clear h
 obtain rfl := Option.some.inj H
 go_enter Try.func104, Try.ntmps104
 go_wp2
 go_ret
 exact ⟨by first | rfl | (simp; done) | (simp [*]; done), by repeat (first | exact Drawn0.refl _ | apply Drawn0.step)⟩
end Go.Proofs.Ytojpibpjieanhaa.X
end
section
-- Written by a program of this session out of the kit's print of the loaded functions: a plain function of a Go function, and its contract.
namespace Go.Proofs.Ytojpibpjieanhaa.X
open Go.RowKit Go.Proofs.YtojpibpjieanhaaW.PrintWords Go.Proofs.YtojpibpjieanhaaW.PrintLast Go.Proofs.YtojpibpjieanhaaW.PrintMore
attribute [local go_sem] max2_int min2_int max_two min_two max_three min_three max_four min_four   -- for this text's walks alone
set_option linter.unusedVariables false
set_option linter.unusedSimpArgs false
def cmp_Compare_int64.f (a0 : Int) (a1 : Int) : Option (Int) := (cmp_isNaN_int64.f a0).bind fun t909 => ((cmp_isNaN_int64.f a1).bind fun t910 => (if t909 = true then (if t910 = true then (some 0) else (some (-1))) else (if t910 = true then (some 1) else (if a0 < a1 then (some (-1)) else (if a0 > a1 then (some 1) else (some 0))))))
set_option maxHeartbeats 8000000 in
set_option maxRecDepth 100000 in
theorem cmp_Compare_int64.calls (a0 : Int) (a1 : Int) (r : Int) (w : World) (h : cmp_Compare_int64.f a0 a1 = some r) :
  Calls Try.prog 94 #[.int .i64 a0, .int .i64 a1] w fun e w' => e = .returned (.int .i64 r) ∧ Drawn0 w w' := by
 have H : ((cmp_isNaN_int64.f a0).bind fun t909 => ((cmp_isNaN_int64.f a1).bind fun t910 => (if t909 = true then (if t910 = true then (some 0) else (some (-1))) else (if t910 = true then (some 1) else (if a0 < a1 then (some (-1)) else (if a0 > a1 then (some 1) else (some 0))))))) = some r := h
 clear h
 replace H := Option.bind_eq_some_iff.mp H
 obtain ⟨t909, A30, H⟩ := H
 replace H : ((cmp_isNaN_int64.f a1).bind fun t910 => (if t909 = true then (if t910 = true then (some 0) else (some (-1))) else (if t910 = true then (some 1) else (if a0 < a1 then (some (-1)) else (if a0 > a1 then (some 1) else (some 0)))))) = some r := H
 have A3 := Aside0.mk A30
 clear A30
 replace H := Option.bind_eq_some_iff.mp H
 obtain ⟨t910, A40, H⟩ := H
 replace H : (if t909 = true then (if t910 = true then (some 0) else (some (-1))) else (if t910 = true then (some 1) else (if a0 < a1 then (some (-1)) else (if a0 > a1 then (some 1) else (some 0))))) = some r := H
 have A4 := Aside0.mk A40
 clear A40
 by_cases c5 : t909 = true
 ·subst c5
  have H1 : (if t910 = true then (some 0) else (some (-1))) = some r := by rw [if_pos rfl] at H; exact H
  clear H
  have H := H1
  clear H1
  by_cases c6 : t910 = true
  ·subst c6
   have H1 : (some 0) = some r := by rw [if_pos rfl] at H; exact H
   clear H
   have H := H1
   clear H1
   obtain rfl := Option.some.inj H
   go_enter Try.func94, Try.ntmps94
   go_wp2_with (first | ((with_reducible refine gate_callee (f := 104) rfl ?_); refine goesL_ (some 8) rfl rfl Try.func104 (by kernel_rfl) rfl #[.int .i64 a0] rfl (by (try simp only [List.map_toArray, List.map_cons, List.map_nil]); first | done | rfl | (simp only [List.length_drop, List.length_take]; rfl)) ?_; (with_reducible refine (cmp_isNaN_int64.calls a0 true _ A3.out).mono ?_); rintro e w' ⟨rfl, ⟨nd, rfl⟩⟩; refine ⟨_, rfl, ?_⟩) | ((with_reducible refine gate_callee (f := 104) rfl ?_); refine goesL_ (some 10) rfl rfl Try.func104 (by kernel_rfl) rfl #[.int .i64 a1] rfl (by (try simp only [List.map_toArray, List.map_cons, List.map_nil]); first | done | rfl | (simp only [List.length_drop, List.length_take]; rfl)) ?_; (with_reducible refine (cmp_isNaN_int64.calls a1 true _ A4.out).mono ?_); rintro e w' ⟨rfl, ⟨nd, rfl⟩⟩; refine ⟨_, rfl, ?_⟩))
   go_ret
   exact ⟨by first | rfl | (simp; done) | (simp [*]; done), by repeat (first | exact Drawn0.refl _ | apply Drawn0.step)⟩
  ·replace c6 := Bool.eq_false_iff.mpr c6
   subst c6
   have H1 : (some (-1)) = some r := by rw [if_neg (show ¬ (false = true) by decide)] at H; exact H
   clear H
   have H := H1
   clear H1
   obtain rfl := Option.some.inj H
   go_enter Try.func94, Try.ntmps94
   go_wp2_with (first | ((with_reducible refine gate_callee (f := 104) rfl ?_); refine goesL_ (some 8) rfl rfl Try.func104 (by kernel_rfl) rfl #[.int .i64 a0] rfl (by (try simp only [List.map_toArray, List.map_cons, List.map_nil]); first | done | rfl | (simp only [List.length_drop, List.length_take]; rfl)) ?_; (with_reducible refine (cmp_isNaN_int64.calls a0 true _ A3.out).mono ?_); rintro e w' ⟨rfl, ⟨nd, rfl⟩⟩; refine ⟨_, rfl, ?_⟩) | ((with_reducible refine gate_callee (f := 104) rfl ?_); refine goesL_ (some 10) rfl rfl Try.func104 (by kernel_rfl) rfl #[.int .i64 a1] rfl (by (try simp only [List.map_toArray, List.map_cons, List.map_nil]); first | done | rfl | (simp only [List.length_drop, List.length_take]; rfl)) ?_; (with_reducible refine (cmp_isNaN_int64.calls a1 false _ A4.out).mono ?_); rintro e w' ⟨rfl, ⟨nd, rfl⟩⟩; refine ⟨_, rfl, ?_⟩))
   go_ret
   exact ⟨by first | rfl | (simp; done) | (simp [*]; done), by repeat (first | exact Drawn0.refl _ | apply Drawn0.step)⟩
 ·replace c5 := Bool.eq_false_iff.mpr c5
  subst c5
  have H1 : (if t910 = true then (some 1) else (if a0 < a1 then (some (-1)) else (if a0 > a1 then (some 1) else (some 0)))) = some r := by rw [if_neg (show ¬ (false = true) by decide)] at H; exact H
  clear H
  have H := H1
  clear H1
  by_cases c7 : t910 = true
  ·subst c7
   have H1 : (some 1) = some r := by rw [if_pos rfl] at H; exact H
   clear H
   have H := H1
   clear H1
   obtain rfl := Option.some.inj H
   go_enter Try.func94, Try.ntmps94
   go_wp2_with (first | ((with_reducible refine gate_callee (f := 104) rfl ?_); refine goesL_ (some 8) rfl rfl Try.func104 (by kernel_rfl) rfl #[.int .i64 a0] rfl (by (try simp only [List.map_toArray, List.map_cons, List.map_nil]); first | done | rfl | (simp only [List.length_drop, List.length_take]; rfl)) ?_; (with_reducible refine (cmp_isNaN_int64.calls a0 false _ A3.out).mono ?_); rintro e w' ⟨rfl, ⟨nd, rfl⟩⟩; refine ⟨_, rfl, ?_⟩) | ((with_reducible refine gate_callee (f := 104) rfl ?_); refine goesL_ (some 10) rfl rfl Try.func104 (by kernel_rfl) rfl #[.int .i64 a1] rfl (by (try simp only [List.map_toArray, List.map_cons, List.map_nil]); first | done | rfl | (simp only [List.length_drop, List.length_take]; rfl)) ?_; (with_reducible refine (cmp_isNaN_int64.calls a1 true _ A4.out).mono ?_); rintro e w' ⟨rfl, ⟨nd, rfl⟩⟩; refine ⟨_, rfl, ?_⟩))
   go_ret
   exact ⟨by first | rfl | (simp; done) | (simp [*]; done), by repeat (first | exact Drawn0.refl _ | apply Drawn0.step)⟩
  ·replace c7 := Bool.eq_false_iff.mpr c7
   subst c7
   have H1 : (if a0 < a1 then (some (-1)) else (if a0 > a1 then (some 1) else (some 0))) = some r := by rw [if_neg (show ¬ (false = true) by decide)] at H; exact H
   clear H
   have H := H1
   clear H1
   by_cases c8 : a0 < a1
   ·rw [if_pos c8] at H
    have c8b0 : decide (a0 < a1) = true := decide_eq_true c8
    clear c8
    obtain rfl := Option.some.inj H
    go_enter Try.func94, Try.ntmps94
    go_wp2_with (first | ((with_reducible refine gate_callee (f := 104) rfl ?_); refine goesL_ (some 8) rfl rfl Try.func104 (by kernel_rfl) rfl #[.int .i64 a0] rfl (by (try simp only [List.map_toArray, List.map_cons, List.map_nil]); first | done | rfl | (simp only [List.length_drop, List.length_take]; rfl)) ?_; (with_reducible refine (cmp_isNaN_int64.calls a0 false _ A3.out).mono ?_); rintro e w' ⟨rfl, ⟨nd, rfl⟩⟩; refine ⟨_, rfl, ?_⟩) | ((with_reducible refine gate_callee (f := 104) rfl ?_); refine goesL_ (some 10) rfl rfl Try.func104 (by kernel_rfl) rfl #[.int .i64 a1] rfl (by (try simp only [List.map_toArray, List.map_cons, List.map_nil]); first | done | rfl | (simp only [List.length_drop, List.length_take]; rfl)) ?_; (with_reducible refine (cmp_isNaN_int64.calls a1 false _ A4.out).mono ?_); rintro e w' ⟨rfl, ⟨nd, rfl⟩⟩; refine ⟨_, rfl, ?_⟩))
    go_ret
    exact ⟨by first | rfl | (simp; done) | (simp [*]; done), by repeat (first | exact Drawn0.refl _ | apply Drawn0.step)⟩
   ·rw [if_neg c8] at H
    have c8b0 : decide (a0 < a1) = false := decide_eq_false c8
    clear c8
    by_cases c9 : a0 > a1
    ·rw [if_pos c9] at H
     have c9b0 : decide (a1 < a0) = true := decide_eq_true c9
     clear c9
     obtain rfl := Option.some.inj H
     go_enter Try.func94, Try.ntmps94
     go_wp2_with (first | ((with_reducible refine gate_callee (f := 104) rfl ?_); refine goesL_ (some 8) rfl rfl Try.func104 (by kernel_rfl) rfl #[.int .i64 a0] rfl (by (try simp only [List.map_toArray, List.map_cons, List.map_nil]); first | done | rfl | (simp only [List.length_drop, List.length_take]; rfl)) ?_; (with_reducible refine (cmp_isNaN_int64.calls a0 false _ A3.out).mono ?_); rintro e w' ⟨rfl, ⟨nd, rfl⟩⟩; refine ⟨_, rfl, ?_⟩) | ((with_reducible refine gate_callee (f := 104) rfl ?_); refine goesL_ (some 10) rfl rfl Try.func104 (by kernel_rfl) rfl #[.int .i64 a1] rfl (by (try simp only [List.map_toArray, List.map_cons, List.map_nil]); first | done | rfl | (simp only [List.length_drop, List.length_take]; rfl)) ?_; (with_reducible refine (cmp_isNaN_int64.calls a1 false _ A4.out).mono ?_); rintro e w' ⟨rfl, ⟨nd, rfl⟩⟩; refine ⟨_, rfl, ?_⟩))
     go_ret
     exact ⟨by first | rfl | (simp; done) | (simp [*]; done), by repeat (first | exact Drawn0.refl _ | apply Drawn0.step)⟩
    ·rw [if_neg c9] at H
     have c9b0 : decide (a1 < a0) = false := decide_eq_false c9
     clear c9
     obtain rfl := Option.some.inj H
     go_enter Try.func94, Try.ntmps94
     go_wp2_with (first | ((with_reducible refine gate_callee (f := 104) rfl ?_); refine goesL_ (some 8) rfl rfl Try.func104 (by kernel_rfl) rfl #[.int .i64 a0] rfl (by (try simp only [List.map_toArray, List.map_cons, List.map_nil]); first | done | rfl | (simp only [List.length_drop, List.length_take]; rfl)) ?_; (with_reducible refine (cmp_isNaN_int64.calls a0 false _ A3.out).mono ?_); rintro e w' ⟨rfl, ⟨nd, rfl⟩⟩; refine ⟨_, rfl, ?_⟩) | ((with_reducible refine gate_callee (f := 104) rfl ?_); refine goesL_ (some 10) rfl rfl Try.func104 (by kernel_rfl) rfl #[.int .i64 a1] rfl (by (try simp only [List.map_toArray, List.map_cons, List.map_nil]); first | done | rfl | (simp only [List.length_drop, List.length_take]; rfl)) ?_; (with_reducible refine (cmp_isNaN_int64.calls a1 false _ A4.out).mono ?_); rintro e w' ⟨rfl, ⟨nd, rfl⟩⟩; refine ⟨_, rfl, ?_⟩))
     go_ret
     exact ⟨by first | rfl | (simp; done) | (simp [*]; done), by repeat (first | exact Drawn0.refl _ | apply Drawn0.step)⟩
end Go.Proofs.Ytojpibpjieanhaa.X
end
section
-- Written by a program of this session out of the kit's print of the loaded functions: a plain function of a Go function, and its contract.
namespace Go.Proofs.Ytojpibpjieanhaa.X
open Go.RowKit Go.Proofs.YtojpibpjieanhaaW.PrintWords Go.Proofs.YtojpibpjieanhaaW.PrintLast Go.Proofs.YtojpibpjieanhaaW.PrintMore
attribute [local go_sem] max2_int min2_int max_two min_two max_three min_three max_four min_four   -- for this text's walks alone
set_option linter.unusedVariables false
set_option linter.unusedSimpArgs false
def slices_Compare_int64_int64.l0 : Nat → List Int → List Int → List Int → Int → Int → Option (Int)
 | 0, _, _, _, _, _ => none
 | k + 1, x0, x1, x9, x10, x11 => if x11 < x10 then (if 0 ≤ x11 then (if x11 < (x9.length : Int) then (if x11 ≥ (x1.length : Int) then (some 1) else (if x11 < (x1.length : Int) then ((cmp_Compare_int64.f (rd x9 x11) (rd x1 x11)).bind fun t913 => (if t913 = 0 then (slices_Compare_int64_int64.l0 k x0 x1 x9 x10 (wrap64 (x11 + 1))) else (some t913))) else (none))) else (none)) else (none)) else (if (x0.length : Int) < (x1.length : Int) then (some (-1)) else (some 0))
def slices_Compare_int64_int64.f (k : Nat) (l0 : List Int) (l1 : List Int) : Option (Int) := slices_Compare_int64_int64.l0 k l0 l1 l0 (l0.length : Int) 0
set_option maxHeartbeats 8000000 in
set_option maxRecDepth 100000 in
theorem slices_Compare_int64_int64.calls (k : Nat) (A0 : Option Addr) (c0 : Nat) (l0 : List Int) (A1 : Option Addr) (c1 : Nat) (l1 : List Int) (r : Int) (w : World) (hr0 : Kd.C (Kd.int .i64) w A0 l0.length l0) (hc0 : l0.length ≤ c0) (hr1 : Kd.C (Kd.int .i64) w A1 l1.length l1) (hc1 : l1.length ≤ c1) (h : slices_Compare_int64_int64.f k l0 l1 = some r) :
  Calls Try.prog 68 #[.slice A0 l0.length c0, .slice A1 l1.length c1] w fun e w' => e = .returned (.int .i64 r) ∧ Drawn0 w w' := by
 have HR0 := Aside0.mk hr0
 have HC0 := Aside0.mk hc0
 clear hr0 hc0
 have HR1 := Aside0.mk hr1
 have HC1 := Aside0.mk hc1
 clear hr1 hc1
 have H : (slices_Compare_int64_int64.l0 k l0 l1 l0 (l0.length : Int) 0) = some r := h
 clear h
 have H' := Aside0.mk H
 clear H
 go_enter Try.func68, Try.ntmps68
 go_wp2
 go_loopg [11] k (fun kq v11 w' => ∃ (x11_1 : Int), v11 = .int .i64 x11_1 ∧ Aside0 (slices_Compare_int64_int64.l0 kq l0 l1 l0 (l0.length : Int) x11_1 = some r) ∧ Aside0 (kq ≤ k) ∧ Drawn0 w w')
 case atStart => exact ⟨(0), (by first | rfl | (simp; done) | (simp [*]; done)), H', ⟨Nat.le_refl _⟩, by repeat (first | exact Drawn0.refl _ | apply Drawn0.step)⟩
 case round =>
  clear H'
  try clear c1
  try clear p2
  obtain ⟨x11_1, rfl, HA, HK1, ⟨m1, rfl⟩⟩ := hrel
  cases gk with
  | zero => exact absurd HA.out (by simp [slices_Compare_int64_int64.l0])
  | succ k1 =>
   have H := HA.out
   clear HA
   simp only [slices_Compare_int64_int64.l0] at H
   by_cases c3 : x11_1 < (l0.length : Int)
   ·rw [if_pos c3] at H
    have c3b0 : decide (x11_1 < (l0.length : Int)) = true := decide_eq_true c3
    clear c3
    by_cases c4 : 0 ≤ x11_1
    ·rw [if_pos c4] at H
     have c4b0 : decide (0 ≤ x11_1) = true := decide_eq_true c4
     clear c4
     by_cases c5 : x11_1 < (l0.length : Int)
     ·rw [if_pos c5] at H
      have c5b0 : decide (x11_1 < (l0.length : Int)) = true := decide_eq_true c5
      clear c5
      by_cases c6 : x11_1 ≥ (l1.length : Int)
      ·rw [if_pos c6] at H
       have c6b0 : decide ((l1.length : Int) ≤ x11_1) = true := decide_eq_true c6
       clear c6
       obtain rfl := Option.some.inj H
       have p911 : 0 ≤ (x11_1 : Int) := of_decide_eq_true (by first | (with_reducible assumption) | assumption)
       have q911 : x11_1 < (l0.length : Int) := of_decide_eq_true (by first | (with_reducible assumption) | assumption)
       obtain ⟨ad911, e911, hx911_0⟩ := Kd.at_int HR0.out x11_1 p911 q911
       cases e911
       replace p911 := eq_true p911
       replace q911 := eq_true q911
       go_wp2
       go_ret
       exact ⟨by first | rfl | (simp; done) | (simp [*]; done), by repeat (first | exact Drawn0.refl _ | apply Drawn0.step)⟩
      ·rw [if_neg c6] at H
       have c6b0 : decide ((l1.length : Int) ≤ x11_1) = false := decide_eq_false c6
       clear c6
       by_cases c7 : x11_1 < (l1.length : Int)
       ·rw [if_pos c7] at H
        have c7b0 : decide (x11_1 < (l1.length : Int)) = true := decide_eq_true c7
        clear c7
        replace H := Option.bind_eq_some_iff.mp H
        obtain ⟨t913, A80, H⟩ := H
        replace H : (if t913 = 0 then (slices_Compare_int64_int64.l0 k1 l0 l1 l0 (l0.length : Int) (wrap64 (x11_1 + 1))) else (some t913)) = some r := H
        have A8 := Aside0.mk A80
        clear A80
        by_cases c9 : t913 = 0
        ·rw [if_pos c9] at H
         have c9b0 : (t913 == 0) = true := beq_iff_eq.mpr c9
         have c9b1 : (t913 != 0) = false := bne_eq_false_iff_eq.mpr c9
         clear c9
         have H' := Aside0.mk H
         clear H
         have p911 : 0 ≤ (x11_1 : Int) := of_decide_eq_true (by first | (with_reducible assumption) | assumption)
         have q911 : x11_1 < (l0.length : Int) := of_decide_eq_true (by first | (with_reducible assumption) | assumption)
         obtain ⟨ad911, e911, hx911_0⟩ := Kd.at_int HR0.out x11_1 p911 q911
         cases e911
         replace p911 := eq_true p911
         replace q911 := eq_true q911
         have p912 : 0 ≤ (x11_1 : Int) := of_decide_eq_true (by first | (with_reducible assumption) | assumption)
         have q912 : x11_1 < (l1.length : Int) := of_decide_eq_true (by first | (with_reducible assumption) | assumption)
         obtain ⟨ad912, e912, hx912_0⟩ := Kd.at_int HR1.out x11_1 p912 q912
         cases e912
         replace p912 := eq_true p912
         replace q912 := eq_true q912
         go_wp2_with (first | ((with_reducible refine gate_callee (f := 94) rfl ?_); refine goesL_ (some 26) rfl rfl Try.func94 (by kernel_rfl) rfl #[.int .i64 (rd l0 x11_1), .int .i64 (rd l1 x11_1)] rfl (by (try simp only [List.map_toArray, List.map_cons, List.map_nil]); first | done | rfl | (simp only [List.length_drop, List.length_take]; rfl)) ?_; (with_reducible refine (cmp_Compare_int64.calls (rd l0 x11_1) (rd l1 x11_1) t913 _ A8.out).mono ?_); rintro e w' ⟨rfl, ⟨nd, rfl⟩⟩; refine ⟨_, rfl, ?_⟩))
         go_roundg k1
         case measure => have := HK1.out; omega
         case rel => exact ⟨(wrap64 (x11_1 + 1)), (by first | rfl | (simp; done) | (simp [*]; done)), H', ⟨by have := HK1.out; omega⟩, by repeat (first | exact Drawn0.refl _ | apply Drawn0.step)⟩
        ·rw [if_neg c9] at H
         have c9b0 : (t913 == 0) = false := beq_eq_false_iff_ne.mpr c9
         have c9b1 : (t913 != 0) = true := bne_iff_ne.mpr c9
         obtain rfl := Option.some.inj H
         have p911 : 0 ≤ (x11_1 : Int) := of_decide_eq_true (by first | (with_reducible assumption) | assumption)
         have q911 : x11_1 < (l0.length : Int) := of_decide_eq_true (by first | (with_reducible assumption) | assumption)
         obtain ⟨ad911, e911, hx911_0⟩ := Kd.at_int HR0.out x11_1 p911 q911
         cases e911
         replace p911 := eq_true p911
         replace q911 := eq_true q911
         have p912 : 0 ≤ (x11_1 : Int) := of_decide_eq_true (by first | (with_reducible assumption) | assumption)
         have q912 : x11_1 < (l1.length : Int) := of_decide_eq_true (by first | (with_reducible assumption) | assumption)
         obtain ⟨ad912, e912, hx912_0⟩ := Kd.at_int HR1.out x11_1 p912 q912
         cases e912
         replace p912 := eq_true p912
         replace q912 := eq_true q912
         go_wp2_with (first | ((with_reducible refine gate_callee (f := 94) rfl ?_); refine goesL_ (some 26) rfl rfl Try.func94 (by kernel_rfl) rfl #[.int .i64 (rd l0 x11_1), .int .i64 (rd l1 x11_1)] rfl (by (try simp only [List.map_toArray, List.map_cons, List.map_nil]); first | done | rfl | (simp only [List.length_drop, List.length_take]; rfl)) ?_; (with_reducible refine (cmp_Compare_int64.calls (rd l0 x11_1) (rd l1 x11_1) t913 _ A8.out).mono ?_); rintro e w' ⟨rfl, ⟨nd, rfl⟩⟩; refine ⟨_, rfl, ?_⟩))
         go_ret
         exact ⟨by first | rfl | (simp; done) | (simp [*]; done), by repeat (first | exact Drawn0.refl _ | apply Drawn0.step)⟩
       ·rw [if_neg c7] at H
        exact absurd H (by simp)
     ·rw [if_neg c5] at H
      exact absurd H (by simp)
    ·rw [if_neg c4] at H
     exact absurd H (by simp)
   ·rw [if_neg c3] at H
    have c3b0 : decide (x11_1 < (l0.length : Int)) = false := decide_eq_false c3
    clear c3
    by_cases c10 : (l0.length : Int) < (l1.length : Int)
    ·rw [if_pos c10] at H
     have c10b0 : decide ((l0.length : Int) < (l1.length : Int)) = true := decide_eq_true c10
     have c10b1 : decide (l0.length < l1.length) = true := decide_eq_true (Int.ofNat_lt.mp c10)
     clear c10
     obtain rfl := Option.some.inj H
     go_wp2
     go_ret
     exact ⟨by first | rfl | (simp; done) | (simp [*]; done), by repeat (first | exact Drawn0.refl _ | apply Drawn0.step)⟩
    ·rw [if_neg c10] at H
     have c10b0 : decide ((l0.length : Int) < (l1.length : Int)) = false := decide_eq_false c10
     have c10b1 : decide (l0.length < l1.length) = false := decide_eq_false (fun h => c10 (Int.ofNat_lt.mpr h))
     clear c10
     obtain rfl := Option.some.inj H
     go_wp2
     go_ret
     exact ⟨by first | rfl | (simp; done) | (simp [*]; done), by repeat (first | exact Drawn0.refl _ | apply Drawn0.step)⟩
end Go.Proofs.Ytojpibpjieanhaa.X
end
section
-- Written by a program of this session out of the kit's print of the loaded functions: a plain function of a Go function, and its contract.
namespace Go.Proofs.Ytojpibpjieanhaa.X
open Go.RowKit Go.Proofs.YtojpibpjieanhaaW.PrintWords Go.Proofs.YtojpibpjieanhaaW.PrintLast Go.Proofs.YtojpibpjieanhaaW.PrintMore
attribute [local go_sem] max2_int min2_int max_two min_two max_three min_three max_four min_four   -- for this text's walks alone
set_option linter.unusedVariables false
set_option linter.unusedSimpArgs false
def slices_Index_int64_int64.l0 : Nat → List Int → Int → Int → Int → Option (Int)
 | 0, _, _, _, _ => none
 | k + 1, x0, x1, x7, x8 => if x8 < x7 then (if 0 ≤ x8 then (if x8 < (x0.length : Int) then (if x1 = (rd x0 x8) then (some x8) else (slices_Index_int64_int64.l0 k x0 x1 x7 (wrap64 (x8 + 1)))) else (none)) else (none)) else (some (-1))
def slices_Index_int64_int64.f (k : Nat) (l0 : List Int) (a1 : Int) : Option (Int) := slices_Index_int64_int64.l0 k l0 a1 (l0.length : Int) 0
set_option maxHeartbeats 8000000 in
set_option maxRecDepth 100000 in
theorem slices_Index_int64_int64.calls (k : Nat) (A0 : Option Addr) (c0 : Nat) (l0 : List Int) (a1 : Int) (r : Int) (w : World) (hr0 : Kd.C (Kd.int .i64) w A0 l0.length l0) (hc0 : l0.length ≤ c0) (h : slices_Index_int64_int64.f k l0 a1 = some r) :
  Calls Try.prog 105 #[.slice A0 l0.length c0, .int .i64 a1] w fun e w' => e = .returned (.int .i64 r) ∧ Drawn0 w w' := by
 have HR0 := Aside0.mk hr0
 have HC0 := Aside0.mk hc0
 clear hr0 hc0
 have H : (slices_Index_int64_int64.l0 k l0 a1 (l0.length : Int) 0) = some r := h
 clear h
 have H' := Aside0.mk H
 clear H
 go_enter Try.func105, Try.ntmps105
 go_wp2
 go_loopg [8] k (fun kq v8 w' => ∃ (x8_1 : Int), v8 = .int .i64 x8_1 ∧ Aside0 (slices_Index_int64_int64.l0 kq l0 a1 (l0.length : Int) x8_1 = some r) ∧ Aside0 (kq ≤ k) ∧ Drawn0 w w')
 case atStart => exact ⟨(0), (by first | rfl | (simp; done) | (simp [*]; done)), H', ⟨Nat.le_refl _⟩, by repeat (first | exact Drawn0.refl _ | apply Drawn0.step)⟩
 case round =>
  clear H'
  try clear c1
  try clear p2
  obtain ⟨x8_1, rfl, HA, HK1, ⟨m1, rfl⟩⟩ := hrel
  cases gk with
  | zero => exact absurd HA.out (by simp [slices_Index_int64_int64.l0])
  | succ k1 =>
   have H := HA.out
   clear HA
   simp only [slices_Index_int64_int64.l0] at H
   by_cases c3 : x8_1 < (l0.length : Int)
   ·rw [if_pos c3] at H
    have c3b0 : decide (x8_1 < (l0.length : Int)) = true := decide_eq_true c3
    clear c3
    by_cases c4 : 0 ≤ x8_1
    ·rw [if_pos c4] at H
     have c4b0 : decide (0 ≤ x8_1) = true := decide_eq_true c4
     clear c4
     by_cases c5 : x8_1 < (l0.length : Int)
     ·rw [if_pos c5] at H
      have c5b0 : decide (x8_1 < (l0.length : Int)) = true := decide_eq_true c5
      clear c5
      by_cases c6 : a1 = (rd l0 x8_1)
      ·rw [if_pos c6] at H
       have c6b0 : (a1 == (rd l0 x8_1)) = true := beq_iff_eq.mpr c6
       have c6b1 : (a1 != (rd l0 x8_1)) = false := bne_eq_false_iff_eq.mpr c6
       clear c6
       obtain rfl := Option.some.inj H
       have p905 : 0 ≤ (x8_1 : Int) := of_decide_eq_true (by first | (with_reducible assumption) | assumption)
       have q905 : x8_1 < (l0.length : Int) := of_decide_eq_true (by first | (with_reducible assumption) | assumption)
       obtain ⟨ad905, e905, hx905_0⟩ := Kd.at_int HR0.out x8_1 p905 q905
       cases e905
       replace p905 := eq_true p905
       replace q905 := eq_true q905
       go_wp2
       go_ret
       exact ⟨by first | rfl | (simp; done) | (simp [*]; done), by repeat (first | exact Drawn0.refl _ | apply Drawn0.step)⟩
      ·rw [if_neg c6] at H
       have c6b0 : (a1 == (rd l0 x8_1)) = false := beq_eq_false_iff_ne.mpr c6
       have c6b1 : (a1 != (rd l0 x8_1)) = true := bne_iff_ne.mpr c6
       have H' := Aside0.mk H
       clear H
       have p905 : 0 ≤ (x8_1 : Int) := of_decide_eq_true (by first | (with_reducible assumption) | assumption)
       have q905 : x8_1 < (l0.length : Int) := of_decide_eq_true (by first | (with_reducible assumption) | assumption)
       obtain ⟨ad905, e905, hx905_0⟩ := Kd.at_int HR0.out x8_1 p905 q905
       cases e905
       replace p905 := eq_true p905
       replace q905 := eq_true q905
       go_wp2
       go_roundg k1
       case measure => have := HK1.out; omega
       case rel => exact ⟨(wrap64 (x8_1 + 1)), (by first | rfl | (simp; done) | (simp [*]; done)), H', ⟨by have := HK1.out; omega⟩, by repeat (first | exact Drawn0.refl _ | apply Drawn0.step)⟩
     ·rw [if_neg c5] at H
      exact absurd H (by simp)
    ·rw [if_neg c4] at H
     exact absurd H (by simp)
   ·rw [if_neg c3] at H
    have c3b0 : decide (x8_1 < (l0.length : Int)) = false := decide_eq_false c3
    clear c3
    obtain rfl := Option.some.inj H
    go_wp2
    go_ret
    exact ⟨by first | rfl | (simp; done) | (simp [*]; done), by repeat (first | exact Drawn0.refl _ | apply Drawn0.step)⟩
end Go.Proofs.Ytojpibpjieanhaa.X
end
section
-- Written by a program of this session out of the kit's print of the loaded functions: a plain function of a Go function, and its contract.
namespace Go.Proofs.Ytojpibpjieanhaa.X
open Go.RowKit Go.Proofs.YtojpibpjieanhaaW.PrintWords Go.Proofs.YtojpibpjieanhaaW.PrintLast Go.Proofs.YtojpibpjieanhaaW.PrintMore
attribute [local go_sem] max2_int min2_int max_two min_two max_three min_three max_four min_four   -- for this text's walks alone
set_option linter.unusedVariables false
set_option linter.unusedSimpArgs false
def slices_Contains_int64_int64.f (k : Nat) (l0 : List Int) (a1 : Int) : Option (Bool) := (slices_Index_int64_int64.f k l0 a1).bind fun t906 => (some (decide (t906 ≥ 0)))
set_option maxHeartbeats 8000000 in
set_option maxRecDepth 100000 in
theorem slices_Contains_int64_int64.calls (k : Nat) (A0 : Option Addr) (c0 : Nat) (l0 : List Int) (a1 : Int) (r : Bool) (w : World) (hr0 : Kd.C (Kd.int .i64) w A0 l0.length l0) (hc0 : l0.length ≤ c0) (h : slices_Contains_int64_int64.f k l0 a1 = some r) :
  Calls Try.prog 95 #[.slice A0 l0.length c0, .int .i64 a1] w fun e w' => e = .returned (.bool r) ∧ Drawn0 w w' := by
 have HR0 := Aside0.mk hr0
 have HC0 := Aside0.mk hc0
 clear hr0 hc0
 have H : ((slices_Index_int64_int64.f k l0 a1).bind fun t906 => (some (decide (t906 ≥ 0)))) = some r := h
 clear h
 replace H := Option.bind_eq_some_iff.mp H
 obtain ⟨t906, A30, H⟩ := H
 replace H : (some (decide (t906 ≥ 0))) = some r := H
 have A3 := Aside0.mk A30
 clear A30
 obtain rfl := Option.some.inj H
 go_enter Try.func95, Try.ntmps95
 go_wp2_with (first | ((with_reducible refine gate_callee (f := 105) rfl ?_); refine goesL_ (some 7) rfl rfl Try.func105 (by kernel_rfl) rfl #[.slice A0 l0.length c0, .int .i64 a1] rfl (by (try simp only [List.map_toArray, List.map_cons, List.map_nil]); first | done | rfl | (simp only [List.length_drop, List.length_take]; rfl)) ?_; (with_reducible refine (slices_Index_int64_int64.calls k _ _ l0 a1 t906 _ ?side1 ?side2 A3.out).mono ?_); (case side1 => repeat (first | exact HR0.out | (with_reducible refine Kd.C_alloc ?_ _) | (with_reducible refine Kd.C_drewN ?_ _) | (with_reducible refine Kd.C_drew ?_))); (case side2 => first | exact trivial | (exact HC0.out)); rintro e w' ⟨rfl, ⟨nd, rfl⟩⟩; refine ⟨_, rfl, ?_⟩))
 go_ret
 exact ⟨by first | rfl | (simp; done) | (simp [*]; done), by repeat (first | exact Drawn0.refl _ | apply Drawn0.step)⟩
end Go.Proofs.Ytojpibpjieanhaa.X
end
