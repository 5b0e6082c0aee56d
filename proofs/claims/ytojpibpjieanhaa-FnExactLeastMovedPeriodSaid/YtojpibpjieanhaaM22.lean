/- My own texts of this seat and its words, merged: XAll, XAllBetween, Xp100, Xp101, CSets, Xp45, Xp78. Conditions: as each lemma says. -/
import Derived.Test.YtojpibpjieanhaaM21
section
namespace Go.Proofs.Ytojpibpjieanhaa.X
open Go.RowKit Go.Proofs.YtojpibpjieanhaaW.PrintWords Go.Proofs.YtojpibpjieanhaaW.PrintLast Go.Proofs.YtojpibpjieanhaaW.PrintMore
set_option linter.unusedVariables false
set_option linter.unusedSimpArgs false
def zB : Bt := ⟨0, 0, false⟩
def zcells (n : Nat) : Array Value := madeCells (Value.agg #[.int .i64 0, .int .i64 0, .bool false]).cells (n * 3)
theorem zcells_size (n : Nat) : (zcells n).size = n * 3 := by unfold zcells; rw [size_madeCells]
theorem zcells_get (n j : Nat) (hj : j < n) : (zcells n)[j * 3]? = some (.int .i64 0) ∧ (zcells n)[j * 3 + 1]? = some (.int .i64 0) ∧ (zcells n)[j * 3 + 2]? = some (.bool false) := by
  have hs := zcells_size n
  have h3 : (Value.agg #[.int .i64 0, .int .i64 0, .bool false]).cells = #[.int .i64 0, .int .i64 0, .bool false] := by rfl
  unfold zcells at hs ⊢
  rw [h3] at hs ⊢
  have e0 : j * 3 % 3 = 0 := by omega
  have e1 : (j * 3 + 1) % 3 = 1 := by omega
  have e2 : (j * 3 + 2) % 3 = 2 := by omega
  refine ⟨?_, ?_, ?_⟩
  · rw [Array.getElem?_eq_getElem (by omega)]; simp [madeCells, e0]
  · rw [Array.getElem?_eq_getElem (by omega)]; simp [madeCells, e1]
  · rw [Array.getElem?_eq_getElem (by omega)]; simp [madeCells, e2]
def rowVals (n : Nat) (Gs : Nat → Nat) (k : Nat) : List Value := (List.range k).map fun i => .slice (some ⟨Gs i, 0, none⟩) n n
theorem rowVals_len (n : Nat) (Gs : Nat → Nat) (k : Nat) : (rowVals n Gs k).length = k := by simp [rowVals]
theorem rowVals_succ (n : Nat) (Gs : Nat → Nat) (k : Nat) : rowVals n Gs (k + 1) = rowVals n Gs k ++ [.slice (some ⟨Gs k, 0, none⟩) n n] := by simp [rowVals, List.range_succ]
theorem rowVals_ext (n : Nat) (Gs Gt : Nat → Nat) (k : Nat) (h : ∀ i, i < k → Gs i = Gt i) : rowVals n Gs k = rowVals n Gt k := by
  unfold rowVals
  refine List.map_congr_left fun i hi => ?_
  rw [h i (List.mem_range.1 hi)]
structure RowsW (B n k : Nat) (w : World) (g3 : Nat) (v : Value) (Gs : Nat → Nat) : Prop where
  b3 : w.heap[g3]? = some (.cells #[v] 79 (0, 0))
  own : w.ownsRow B 78 1 v k (rowVals n Gs k)
  blk : ∀ i, i < k → w.heap[Gs i]? = some (.cells (zcells n) 77 (0, 0))
  inj : ∀ i j, i < k → j < k → Gs i = Gs j → i = j
  h3 : B ≤ g3
  hs : ∀ i, i < k → B ≤ Gs i
theorem RowsW.move {B n k : Nat} {w w1 : World} {g3 : Nat} {v : Value} {Gs : Nat → Nat} (h : RowsW B n k w g3 v Gs) (hb : Below w.heap.size w w1) : RowsW B n k w1 g3 v Gs :=
  { h with
    b3 := blk_below h.b3 hb
    own := own_move h.own (fun q hq => hb.block q (own_lt h.own q hq))
    blk := fun i hi => blk_below (h.blk i hi) hb }
theorem RowsW.to {B n : Nat} {w : World} {g3 : Nat} {v : Value} {Gs : Nat → Nat} (h : RowsW B n n w g3 v Gs) (hn : 0 < n) : ∃ GR cR, v = .slice (some ⟨GR, 0, none⟩) n cR ∧ MatW B n w g3 GR Gs cR (fun _ _ => zB) := by
  obtain ⟨h1, h2⟩ := h.own
  rcases h2 with ⟨_, h0⟩ | ⟨g, cap, cur, rfl, hg, hh, hnc, hcm, hcs, ht⟩
  · omega
  · refine ⟨g, cap, rfl, ⟨h.b3, ⟨cur, hh, ⟨by omega, hnc, hcm⟩, fun i hi => ?_⟩, fun i hi => ⟨_, h.blk i hi, zcells_size n, fun j hj => zcells_get n j hj⟩, h.inj, h.h3, hg, h.hs⟩⟩
    have e : (rowVals n Gs n)[i]? = some (.slice (some ⟨Gs i, 0, none⟩) n n) := by simp [rowVals, hi]
    rw [← ht, List.getElem?_take_of_lt (by omega)] at e
    rw [← Array.getElem?_toList]
    exact e
theorem RowsW.step {B n k : Nat} {W w3 : World} {g3 : Nat} {v v3 : Value} {Gs : Nat → Nat} {o : Obj} (h : RowsW B n k W g3 v Gs) (hB : B ≤ W.heap.size) (hg : ((W.alloc (.cells (zcells n) 77)).alloc o).grownBy w3 v.ownBlock) (ho : w3.ownsRow B 78 1 v3 (k + 1) (rowVals n Gs k ++ [.slice (some ⟨W.heap.size, 0, none⟩) n n])) :
    RowsW B n (k + 1) (w3.setCell ⟨g3, 0, none⟩ v3) g3 v3 (fun q => if q = k then W.heap.size else Gs q) := by
  have h2 := (h.move (below_alloc (Below.refl _ _) (.cells (zcells n) 77))).move (below_alloc (Below.refl _ _) o)
  have b3 := blk_grown h2.b3 hg (own_ne h2.own h2.b3 (by decide))
  have old : ∀ i, i < k → w3.heap[Gs i]? = some (.cells (zcells n) 77 (0, 0)) := fun i hi => blk_grown (h2.blk i hi) hg (own_ne h2.own (h2.blk i hi) (by decide))
  have new : w3.heap[W.heap.size]? = some (.cells (zcells n) 77 (0, 0)) := blk_grown (blk_alloc (blk_new W (.cells (zcells n) 77)) o) hg (own_ne h2.own (blk_alloc (blk_new W (.cells (zcells n) 77)) o) (by decide))
  have lt : ∀ i, i < k → Gs i < W.heap.size := fun i hi => blk_lt (h.blk i hi)
  refine { b3 := blk_put b3 0 _ rfl, own := ?_, blk := fun i hi => ?_, inj := fun i j hi hj he => ?_, h3 := h.h3, hs := fun i hi => ?_ }
  · rw [rowVals_succ, if_pos rfl, rowVals_ext n (fun q => if q = k then W.heap.size else Gs q) Gs k (fun i hi => if_neg (by omega))]
    exact own_setCell ho (p := ⟨g3, 0, none⟩) (own_ne ho b3 (by decide)) _
  · show (w3.setCell ⟨g3, 0, none⟩ v3).heap[if i = k then W.heap.size else Gs i]? = _
    by_cases e : i = k
    · rw [if_pos e]; exact blk_far new (p := ⟨g3, 0, none⟩) (blk_ne new b3 (by decide)) _
    · rw [if_neg e]; exact blk_far (old i (by omega)) (p := ⟨g3, 0, none⟩) (blk_ne (old i (by omega)) b3 (by decide)) _
  · have he : (if i = k then W.heap.size else Gs i) = (if j = k then W.heap.size else Gs j) := he
    by_cases ei : i = k <;> by_cases ej : j = k
    · omega
    · rw [if_pos ei, if_neg ej] at he
      have := lt j (by omega); omega
    · rw [if_neg ei, if_pos ej] at he
      have := lt i (by omega); omega
    · rw [if_neg ei, if_neg ej] at he
      exact h.inj i j (by omega) (by omega) he
  · show B ≤ if i = k then W.heap.size else Gs i
    split
    · exact hB
    · exact h.hs i (by omega)
theorem infoB : (Try.prog.info? 77).map (fun i => (i.zero, i.size, i.bytes)) = some (some (.agg #[.int .i64 0, .int .i64 0, .bool false]), 3, 24) := by kernel_rfl
theorem infoS : (Try.prog.info? 78).map (fun i => (i.zero, i.size, i.bytes)) = some (some (.slice none 0 0), 1, 24) := by kernel_rfl
theorem makeB (n : Nat) (hn : n ≤ 1000000) (w : World) : (Instr.makeSlice 78 (.int .i64 n) (.int .i64 n)).run Try.prog w = .ok (.slice (some ⟨w.heap.size, 0, none⟩) n n) (w.alloc (.cells (zcells n) 77)) := by
  obtain ⟨i0, hi, hzz⟩ := Option.map_eq_some_iff.1 infoB
  simp only [Prod.mk.injEq] at hzz
  obtain ⟨hz0, hz1, hz2⟩ := hzz
  have := run_make (P := Try.prog) w 78 77 i0 _ Try.underlying78 hi hz0 .i64 .i64 (n : Int) (n : Int) (by omega) (by omega) (by rw [hz2]; omega) (by omega)
  rw [hz1] at this
  simpa [zcells] using this
def yB (d : List Int) (w : S55) : Bt := ⟨w.f2, wrap64 (rd d w.f0 + rd d w.f1), true⟩
def yT (d : List Int) (w : S55) (x : Bt) : Bt := ⟨wrap64 (x.r + w.f2), wrap64 (x.d + rd d w.f0), true⟩
abbrev MB : Type := (Nat → Nat → Bt) × Bool
def putS (s : MB) (i j : Nat) (x : Bt) : MB := (putM s.1 i j x, s.2 || btr x (s.1 i j))
def toStep (d : List Int) (w : S55) (s : MB) (j : Nat) : MB := if (s.1 w.f1.toNat j).f = true then putS s w.f0.toNat j (yT d w (s.1 w.f1.toNat j)) else s
def toN (d : List Int) (w : S55) (s : MB) : Nat → MB
  | 0 => s
  | j + 1 => toStep d w (toN d w s j) j
def wireStep (d : List Int) (n : Nat) (w : S55) (s : MB) : MB := toN d w (putS s w.f0.toNat w.f1.toNat (yB d w)) n
def wireN (d : List Int) (ws : List S55) (n : Nat) (s : MB) : Nat → MB
  | 0 => s
  | j + 1 => wireStep d n (rd_T55 ws (j : Int)) (wireN d ws n s j)
def roundM (d : List Int) (ws : List S55) (n : Nat) (M : Nat → Nat → Bt) : MB := wireN d ws n (M, false) ws.length
def allF (d : List Int) (ws : List S55) (n : Nat) : Nat → (Nat → Nat → Bt) → Option (Nat → Nat → Bt)
  | 0, _ => none
  | k + 1, M => if (roundM d ws n M).2 = true then allF d ws n k (roundM d ws n M).1 else some (roundM d ws n M).1
structure AllW (w0 : World) (fl : Array Value) (n g1 g3 GR g4 : Nat) (Gs : Nat → Nat) (cR : Nat) (s : MB) (w : World) : Prop where
  b1 : w.heap[g1]? = some (.cells fl 36 (0, 0))
  mat : MatW w0.heap.size n w g3 GR Gs cR s.1
  b4 : w.heap[g4]? = some (.cells #[.bool s.2] 4 (0, 0))
  h4 : w0.heap.size ≤ g4
  bel : Below w0.heap.size w0 w
theorem AllW.move {w0 w w1 : World} {fl : Array Value} {n g1 g3 GR g4 : Nat} {Gs : Nat → Nat} {cR : Nat} {s : MB} (h : AllW w0 fl n g1 g3 GR g4 Gs cR s w) (hb : Below w.heap.size w w1) : AllW w0 fl n g1 g3 GR g4 Gs cR s w1 :=
  ⟨blk_below h.b1 hb, h.mat.move hb, blk_below h.b4 hb, h.h4, below_step h.bel hb⟩
theorem AllW.putw {w0 w w1 : World} {fl : Array Value} {n g1 g3 GR g4 : Nat} {Gs : Nat → Nat} {cR : Nat} {s : MB} (h : AllW w0 fl n g1 g3 GR g4 Gs cR s w) {i j : Nat} {x : Bt} (hp : PutW w0.heap.size n w g3 GR g4 Gs cR (putM s.1 i j x) (s.2 || btr x (s.1 i j)) w1) : AllW w0 fl n g1 g3 GR g4 Gs cR (putS s i j x) w1 :=
  ⟨blk_kept h.b1 hp.2.2.2 (by
    rintro (e | ⟨a, ha, e⟩)
    · exact blk_ne h.b1 h.b4 (by decide) e
    · obtain ⟨cells, q1, _⟩ := h.mat.blk a ha
      exact blk_ne h.b1 q1 (by decide) e), hp.1, hp.2.1, h.h4, h.bel.trans hp.2.2.1⟩
theorem AllW.other {w0 w w1 : World} {fl : Array Value} {n g1 g3 GR g4 : Nat} {Gs : Nat → Nat} {cR : Nat} {s : MB} (h : AllW w0 fl n g1 g3 GR g4 Gs cR s w) {M : Nat → Nat → Bt} {c : Bool} (hp : PutW w0.heap.size n w g3 GR g4 Gs cR M c w1) {g : Nat} {cs : Array Value} {t : TypeId} (hg : w.heap[g]? = some (.cells cs t (0, 0))) (h1 : t ≠ 4) (h2 : t ≠ 77) : w1.heap[g]? = some (.cells cs t (0, 0)) :=
  blk_kept hg hp.2.2.2 (by
    rintro (e | ⟨a, ha, e⟩)
    · exact blk_ne hg h.b4 h1 e
    · obtain ⟨cells, q1, _⟩ := h.mat.blk a ha
      exact blk_ne hg q1 h2 e)
set_option maxHeartbeats 16000000 in
set_option maxRecDepth 100000 in
theorem all_walk (A0 : Option Addr) (c0 : Nat) (d : List Int) (A1 : Option Addr) (c1 : Nat) (ws : List S55) (n m : Nat) (hn0 : n = d.length) (hm0 : m = ws.length) (h1 : 1 ≤ n) (hn : n ≤ 1000000) (hm : m ≤ 1000000) (hw : ∀ j : Nat, j < m → WireIn n (rd_T55 ws (j : Int))) (w : World)
    (hr0 : Kd.C (Kd.int .i64) w A0 n d) (hr1 : Kd.C k55 w A1 m ws) (K : Nat) (R : Nat → Nat → Bt) (hR : allF d ws n K (fun _ _ => zB) = some R) :
    Calls Try.prog 62 #[.agg #[.slice A0 n c0, .slice A1 m c1]] w fun e w' => ∃ GR cR g3 Gs, e = .returned (.slice (some ⟨GR, 0, none⟩) n cR) ∧ MatW w.heap.size n w' g3 GR Gs cR R ∧ Below w.heap.size w w' := by
  have HR0 := Aside0.mk hr0
  have HR1 := Aside0.mk hr1
  have HW := Aside0.mk hw
  have HN0 := Aside0.mk hn0
  have HM0 := Aside0.mk hm0
  have HRR := Aside0.mk hR
  clear hr0 hr1 hw hm0 hn0 hR
  have HB := Aside0.mk (Below.refl w.heap.size w)
  go_enter Try.func62, Try.ntmps62
  go_wp2_with (first
    | ((with_reducible refine gate_dst (N := 1) rfl ?_); refine box_event ?hg (N := 1) ?hd (cs := #[.slice A0 n c0, .slice A1 m c1]) (t := 36) ?hr ?_; (case hd => rfl); (case hg => rfl); (case hr => first | (go_simp; done) | (go_simp; rfl)); intro g1 hg wn hbox hb; have GE1 := Aside0.mk (by rw [hg]; exact below_size HB.out : w.heap.size ≤ g1); clear hg; have BK10 := Aside0.mk hbox; clear hbox; have n0_ := Aside0.mk (below_step HB.out hb); clear HB  hb; have HB := n0_; clear n0_ ; have BK1 := BK10; clear BK10; have c1_0 : ∀ o1 o2, ((wn.alloc o1).alloc o2).cell? ⟨g1, 0, none⟩ = some (.slice A0 n c0) := fun o1 o2 => pw_cell_below (below_alloc (below_alloc (Below.refl _ _) _) _) ((blk_cell BK1.out 0).trans rfl)))
  obtain ⟨g3, hg3⟩ : ∃ g3, g3 = wn.heap.size + 1 := ⟨_, rfl⟩
  rw [← hg3]
  have HG3 := Aside0.mk hg3
  clear hg3
  go_loopg [14] n (fun kq v14 w' => ∃ (i : Nat) (v : Value) (Gs : Nat → Nat), v14 = .int .i64 i ∧ Aside0 (i + kq = n) ∧ Aside0 (w'.heap[g1]? = some (.cells #[.slice A0 n c0, .slice A1 m c1] 36 (0, 0))) ∧ Aside0 (RowsW w.heap.size n i w' g3 v Gs) ∧ Aside0 (Below w.heap.size w w'))
  case atStart =>
    have hz := below_size HB.out
    have hs : (wn.alloc (.cells #[] 78)).heap.size = wn.heap.size + 1 := by simp
    refine ⟨0, .slice (some ⟨wn.heap.size, 0, none⟩) 0 0, fun _ => 0, by first | rfl | simp, ⟨by omega⟩, ⟨blk_alloc (blk_alloc BK1.out _) _⟩, ⟨?_⟩, ⟨below_step HB.out (below_alloc (below_alloc (Below.refl _ _) _) _)⟩⟩
    exact { b3 := by rw [HG3.out, ← hs]; exact blk_new _ _, own := own_alloc (own_lit_of (enc := Value.int .i64) wn w.heap.size 78 ([] : List Int) hz (by simp)) _, blk := fun i hi => absurd hi (Nat.not_lt_zero _), inj := fun i j hi => absurd hi (Nat.not_lt_zero _), h3 := by rw [HG3.out]; omega, hs := fun i hi => absurd hi (Nat.not_lt_zero _) }
  case round =>
    clear BK1 HB c1_0 HG3
    obtain ⟨i, v, Gs, rfl, HE, Q1, QR, QB⟩ := hrel
    by_cases hlt : i < n
    · cases gk with
      | zero => have := HE.out; omega
      | succ gq =>
      obtain ⟨A, c, hv⟩ := own_slice QR.out.own
      subst hv
      have hmk := makeB n hn
      have c1_0 : wr.cell? ⟨g1, 0, none⟩ = some (.slice A0 n c0) := (blk_cell Q1.out 0).trans rfl
      have c3_0 : wr.cell? ⟨g3, 0, none⟩ = some (.slice A i c) := (blk_cell QR.out.b3 0).trans rfl
      have c3_1 : ∀ o, (wr.alloc o).cell? ⟨g3, 0, none⟩ = some (.slice A i c) := fun o => pw_cell_below (below_alloc (Below.refl _ _) _) c3_0
      have c3_2 : ∀ o o2, ((wr.alloc o).alloc o2).cell? ⟨g3, 0, none⟩ = some (.slice A i c) := fun o o2 => pw_cell_below (below_alloc (below_alloc (Below.refl _ _) _) _) c3_0
      have HD := Aside0.mk (QR.out.move (below_drew1 (Below.refl wr.heap.size wr)))
      have HBW := Aside0.mk (below_size QB.out)
      have hsz : (wr.drew.alloc (.cells (zcells n) 77)).heap.size = wr.heap.size + 1 := by simp
      have HCS : Aside0 (((wr.drew.alloc (.cells (zcells n) 77)).alloc (.cells #[.slice (some ⟨wr.heap.size, 0, none⟩) n n] 78)).cell? ⟨wr.heap.size + 1, 0, none⟩ = some (.slice (some ⟨wr.heap.size, 0, none⟩) n n)) := ⟨by rw [← hsz]; exact (blk_cell (blk_new (wr.drew.alloc (.cells (zcells n) 77)) (.cells #[.slice (some ⟨wr.heap.size, 0, none⟩) n n] 78)) 0).trans rfl⟩
      have HD2 := Aside0.mk ((HD.out.move (below_alloc (Below.refl _ _) (.cells (zcells n) 77))).move (below_alloc (Below.refl _ _) (.cells #[.slice (some ⟨wr.heap.size, 0, none⟩) n n] 78)))
      have HBB := Aside0.mk (below_step (below_drew1 QB.out) (below_alloc (below_alloc (Below.refl wr.drew.heap.size wr.drew) (.cells (zcells n) 77)) (.cells #[.slice (some ⟨wr.heap.size, 0, none⟩) n n] 78)))
      have HQ1 := Aside0.mk (blk_below (blk_drew Q1.out) (below_alloc (below_alloc (Below.refl wr.drew.heap.size wr.drew) (.cells (zcells n) 77)) (.cells #[.slice (some ⟨wr.heap.size, 0, none⟩) n n] 78)))
      clear hsz
      have hbytes : (i + 1) * 24 ≤ 140737488355328 := by omega
      go_wp2
      go_region_law ((refine step_append_own rfl (.tmp 16) (.tmp 21) 79 rfl 78 (.slice none 0 0) 24 Try.underlying79 infoS rfl (by decide) w.heap.size (.slice A i c) i (rowVals n Gs i) (by simp [Act.eval, Act.put]) ⟨wr.heap.size + 1, 0, none⟩ 1 (.slice (some ⟨wr.heap.size, 0, none⟩) n n) (by simp [Act.eval, Act.put]) HCS.out rfl HD2.out.own (below_size HBB.out) hbytes ?_; intro v3 w3 ho hg hat; obtain ⟨A3, c3, hv3⟩ := own_slice ho; subst hv3; have z3 := blk_frozen (blk_grown HD2.out.b3 hg (own_ne HD2.out.own HD2.out.b3 (by decide))) 0; have cg3 := blk_cell (blk_grown HD2.out.b3 hg (own_ne HD2.out.own HD2.out.b3 (by decide))) 0; have HST := Aside0.mk (HD.out.step HBW.out hg ho); have HB3 := Aside0.mk (Below.setCell (p := ⟨g3, 0, none⟩) (HBB.out.grown hg (below_size HBB.out) (own_base HD2.out.own)) HD.out.h3 (.slice A3 (i + 1) c3)); have HQ3 := Aside0.mk (blk_far (blk_grown HQ1.out hg (own_ne HD2.out.own HQ1.out (by decide))) (p := ⟨g3, 0, none⟩) (blk_ne HQ1.out HD2.out.b3 (by decide)) (.slice A3 (i + 1) c3)); clear ho hg hat))
      all_goals
        have wi : IntKind.i64.wrap ((i : Int) + 1) = (i : Int) + 1 := IntWalk.i64_in _ ⟨by omega, by omega⟩
        clear c1_0 c3_0 c3_1 c3_2 hmk hbytes z3 cg3
        go_wp2
        go_roundg gq
        case measure => omega
        case rel => exact ⟨i + 1, _, _, by first | rfl | go_num, ⟨by have := HE.out; omega⟩, HQ3, HST, HB3⟩
    · have hi : n = i := by have := HE.out; omega
      subst hi
      clear hlt HE
      obtain ⟨GR, cR, hv, HM0⟩ := QR.out.to h1
      subst hv
      have HM := Aside0.mk HM0
      clear HM0 QR
      have HFL := Q1
      clear Q1
      go_wp2_with ((with_reducible refine gate_dst (N := 4) rfl ?_); refine box_event ?hg (N := 4) ?hd (cs := #[.bool false]) (t := 4) ?hr ?_; (case hd => rfl); (case hg => rfl); (case hr => first | (go_simp; done) | (go_simp; rfl)); intro g4 hg wn hbox hb; have GE4 := Aside0.mk (by rw [hg]; exact below_size QB.out : w.heap.size ≤ g4); have B4 := Aside0.mk hbox; have n0_ := Aside0.mk (HM.out.move hb); have n1_ := Aside0.mk (blk_below HFL.out hb); have n2_ := Aside0.mk (below_step QB.out hb); clear HM HFL QB hb hbox hg; have HM := n0_; have HFL := n1_; have QB := n2_; clear n0_ n1_ n2_; have c4 : wn.cell? ⟨g4, 0, none⟩ = some (.bool false) := (blk_cell B4.out 0).trans rfl; have z4 := blk_frozen B4.out 0)
      have HS0 := Aside0.mk (show AllW w #[.slice A0 n c0, .slice A1 m c1] n g1 g3 GR g4 Gs cR ((fun _ _ => zB), true) (wn.setCell ⟨g4, 0, none⟩ (.bool true)) from ⟨blk_far HFL.out (p := ⟨g4, 0, none⟩) (blk_ne HFL.out B4.out (by decide)) _, HM.out.far B4.out (by decide) (by decide) (by decide) 0 _, blk_put B4.out 0 _ rfl, GE4.out, QB.out.setCell GE4.out _⟩)
      clear HM HFL QB B4 GE4 c4 z4
      go_loopg [4] K (fun kq v4 w' => ∃ (g4 : Nat) (s : MB), v4 = .pointer (some ⟨g4, 0, none⟩) ∧ Aside0 ((s.2 = true ∧ allF d ws n kq s.1 = some R) ∨ (s.2 = false ∧ s.1 = R)) ∧ Aside0 (AllW w #[.slice A0 n c0, .slice A1 m c1] n g1 g3 GR g4 Gs cR s w'))
      case atStart => exact ⟨g4, _, rfl, ⟨.inl ⟨rfl, HRR.out⟩⟩, HS0⟩
      case round =>
        clear HS0 HRR
        obtain ⟨g4, ⟨M, ch⟩, rfl, HF, HS⟩ := hrel
        have c4 : wr.cell? ⟨g4, 0, none⟩ = some (.bool ch) := (blk_cell HS.out.b4 0).trans rfl
        cases ch with
        | false =>
          have HR : Aside0 (M = R) := ⟨by rcases HF.out with ⟨h, _⟩ | ⟨_, h⟩; cases h; exact h⟩
          have c3 := HS.out.mat.c3
          clear HF
          go_wp2
          go_ret
          exact ⟨GR, cR, g3, Gs, rfl, by rw [← HR.out]; exact HS.out.mat, HS.out.bel⟩
        | true =>
          have hA : allF d ws n gk M = some R := by rcases HF.out with ⟨_, h⟩ | ⟨h, _⟩; exact h; cases h
          cases gk with
          | zero => cases hA
          | succ gq =>
          have HAF := Aside0.mk hA
          clear hA HF
          have z4 := blk_frozen HS.out.b4 0
          have HS1 := Aside0.mk (show AllW w #[.slice A0 n c0, .slice A1 m c1] n g1 g3 GR g4 Gs cR (M, false) (wr.setCell ⟨g4, 0, none⟩ (.bool false)) from ⟨blk_far HS.out.b1 (p := ⟨g4, 0, none⟩) (blk_ne HS.out.b1 HS.out.b4 (by decide)) _, HS.out.mat.far HS.out.b4 (by decide) (by decide) (by decide) 0 _, blk_put HS.out.b4 0 _ rfl, HS.out.h4, HS.out.bel.setCell HS.out.h4 _⟩)
          have cf1 : (wr.setCell ⟨g4, 0, none⟩ (.bool false)).cell? ⟨g1, 1, none⟩ = some (.slice A1 m c1) := (blk_cell HS1.out.b1 1).trans rfl
          clear HS
          go_wp2
          generalize wr.setCell ⟨g4, 0, none⟩ (.bool false) = W1 at HS1 ⊢
          clear c4 z4 cf1
          go_loopg [29] m (fun kq v29 w' => ∃ j : Nat, v29 = .int .i64 j ∧ Aside0 (j + kq = m) ∧ Aside0 (AllW w #[.slice A0 n c0, .slice A1 m c1] n g1 g3 GR g4 Gs cR (wireN d ws n (M, false) j) w'))
          case atStart => exact ⟨0, by first | rfl | simp, ⟨by omega⟩, HS1⟩
          case round =>
            clear HS1
            obtain ⟨j, rfl, HJ, HS⟩ := hrel
            by_cases hlj : j < m
            · cases gk with
              | zero => have := HJ.out; omega
              | succ gq2 =>
              obtain ⟨ad, hA, x0, x1, x2⟩ := at_T55 (Kd.C_below HR1.out HS.out.bel) (j : Int) (by omega) (by omega)
              cases hA
              rw [Int.toNat_natCast] at x0 x1 x2
              obtain ⟨o0, o1, o2, o3⟩ := HW.out j hlj
              have HX : Aside0 (wireN d ws n (M, false) (j + 1) = wireStep d n (rd_T55 ws (j : Int)) (wireN d ws n (M, false) j)) := ⟨rfl⟩
              obtain ⟨S, hS⟩ : ∃ S, S = wireN d ws n (M, false) j := ⟨_, rfl⟩
              rw [← hS] at HS HX
              clear hS
              obtain ⟨el, hel⟩ : ∃ el, el = rd_T55 ws (j : Int) := ⟨_, rfl⟩
              rw [← hel] at x0 x1 x2 o0 o1 o2 o3 HX
              clear hel
              obtain ⟨a, ha⟩ : ∃ a : Nat, el.f0 = a := ⟨el.f0.toNat, by omega⟩
              obtain ⟨b, hb⟩ : ∃ b : Nat, el.f1 = b := ⟨el.f1.toNat, by omega⟩
              obtain ⟨f0, f1, f2⟩ := el
              simp only at x0 x1 x2 o0 o1 o2 o3 ha hb
              subst ha
              subst hb
              have hi0 : a < n := by omega
              have hi1 : b < n := by omega
              have p0 : (0 ≤ (a : Int)) = True := eq_true (by omega)
              have p1 : ((a : Int) < (n : Int)) = True := eq_true (by omega)
              have p2 : (0 ≤ (b : Int)) = True := eq_true (by omega)
              have p3 : ((b : Int) < (n : Int)) = True := eq_true (by omega)
              go_wp2_with ((with_reducible refine gate_dst (N := 7) rfl ?_); refine box_event ?hg (N := 7) ?hd (cs := #[.int .i64 0, .int .i64 0, .int .i64 0]) (t := 55) ?hr ?_; (case hd => rfl); (case hg => rfl); (case hr => first | (go_simp; done) | (go_simp; rfl)); intro g7 hg wn hbox hb7; have B7 := Aside0.mk hbox; have HB7 := Aside0.mk hb7; have GE7 := Aside0.mk (show wr.heap.size ≤ g7 by rw [hg]; exact Nat.le_refl _); clear hg hb7 hbox; have z7_0 := blk_frozen B7.out 0; have z7_1 := blk_frozen B7.out 1; have z7_2 := blk_frozen B7.out 2; have c7_0 : wn.cell? ⟨g7, 0, none⟩ = some (.int .i64 0) := (blk_cell B7.out 0).trans rfl; have c7_1 : wn.cell? ⟨g7, 1, none⟩ = some (.int .i64 0) := (blk_cell B7.out 1).trans rfl; have c7_2 : wn.cell? ⟨g7, 2, none⟩ = some (.int .i64 0) := (blk_cell B7.out 2).trans rfl)
              have p7 := Aside0.mk (blk_put (cs' := #[.int .i64 (a : Int), .int .i64 (b : Int), .int .i64 f2]) (blk_put (cs' := #[.int .i64 (a : Int), .int .i64 (b : Int), .int .i64 0]) (blk_put (cs' := #[.int .i64 (a : Int), .int .i64 0, .int .i64 0]) B7.out 0 (.int .i64 (a : Int)) rfl) 1 (.int .i64 (b : Int)) rfl) 2 (.int .i64 f2) rfl)
              have HA := Aside0.mk (HS.out.move (below_set (j := 2) (v := .int .i64 f2) (below_set (j := 1) (v := .int .i64 (b : Int)) (below_set (j := 0) (v := .int .i64 (a : Int)) HB7.out GE7.out) GE7.out) GE7.out))
              clear c7_0 c7_1 c7_2 z7_0 z7_1 z7_2 B7 HB7 GE7 HS x0 x1 x2
              generalize ((wn.setCell ⟨g7, 0, none⟩ (.int .i64 (a : Int))).setCell ⟨g7, 1, none⟩ (.int .i64 (b : Int))).setCell ⟨g7, 2, none⟩ (.int .i64 f2) = W5 at p7 HA ⊢
              have k7_0 : W5.cell? ⟨g7, 0, none⟩ = some (.int .i64 (a : Int)) := (blk_cell p7.out 0).trans rfl
              have k7_1 : W5.cell? ⟨g7, 1, none⟩ = some (.int .i64 (b : Int)) := (blk_cell p7.out 1).trans rfl
              have k7_2 : W5.cell? ⟨g7, 2, none⟩ = some (.int .i64 f2) := (blk_cell p7.out 2).trans rfl
              have k1_0 : W5.cell? ⟨g1, 0, none⟩ = some (.slice A0 n c0) := (blk_cell HA.out.b1 0).trans rfl
              obtain ⟨dd, hD, dA⟩ := Kd.at_int (Kd.C_below HR0.out HA.out.bel) (a : Int) o0 o1
              cases hD
              obtain ⟨dd', hD', dB⟩ := Kd.at_int (Kd.C_below HR0.out HA.out.bel) (b : Int) o2 o3
              cases hD'
              rw [Int.toNat_natCast] at dA dB
              go_still_tail 21, (by kernel_rfl)
              change wpList _ _ _ _ _ W5.drew
              go_wp2_with ((with_reducible refine gate_dst (N := 54) rfl ?_); (refine goesV_ (some 54) rfl rfl Try.func91 rfl (by kernel_rfl) #[.int .i64 (a : Int), .int .i64 (b : Int), .agg #[.int .i64 f2, .int .i64 (wrap64 (rd d (a : Int) + rd d (b : Int))), .bool true]] rfl rfl (by simp [Act.eval, Act.put, IntWalk.i64_left]) ?_; refine (PutClo a b (yB d ⟨(a : Int), (b : Int), f2⟩) S.2 hi0 hi1 hn HA.out.mat.drew (blk_drew HA.out.b4) HA.out.h4).mono ?_; rintro e w2 ⟨rfl, hp⟩; refine ⟨_, rfl, ?_⟩; have n0_ := Aside0.mk ((HA.out.move (below_drew1 (Below.refl _ _))).putw hp); have n1_ := Aside0.mk ((HA.out.move (below_drew1 (Below.refl _ _))).other hp (blk_drew p7.out) (by decide) (by decide)); clear HA p7 hp; have HA := n0_; have p7 := n1_; clear n0_ n1_ k7_0 k7_1 k7_2 k1_0 dA dB; have k7_1 : w2.cell? ⟨g7, 1, none⟩ = some (.int .i64 (b : Int)) := (blk_cell p7.out 1).trans rfl; have c3 := HA.out.mat.c3; have cr := HA.out.mat.cRow b hi1))
              clear k7_1 c3 cr
              obtain ⟨S1, hS1⟩ : ∃ S1 : MB, S1 = putS S a b (yB d ⟨(a : Int), (b : Int), f2⟩) := ⟨_, rfl⟩
              have HA' := Aside0.mk (show AllW w #[.slice (some dd) n c0, .slice (some ad) m c1] n g1 g3 GR g4 Gs cR S1 w2 by rw [hS1]; exact HA.out)
              have HS1 := Aside0.mk hS1
              clear HA hS1
              go_loopg [61] n (fun kq v61 w' => ∃ q : Nat, v61 = .int .i64 q ∧ Aside0 (q + kq = n) ∧ Aside0 (w'.heap[g7]? = some (.cells #[.int .i64 (a : Int), .int .i64 (b : Int), .int .i64 f2] 55 (0, 0))) ∧ Aside0 (AllW w #[.slice (some dd) n c0, .slice (some ad) m c1] n g1 g3 GR g4 Gs cR (toN d ⟨(a : Int), (b : Int), f2⟩ S1 q) w'))
              case atStart => exact ⟨0, by first | rfl | simp, ⟨by omega⟩, p7, HA'⟩
              case round =>
                clear p7 HA'
                obtain ⟨q, rfl, HQ, p7, HA⟩ := hrel
                by_cases hlq : q < n
                · cases gk with
                  | zero => have := HQ.out; omega
                  | succ gq3 =>
                  have q2 : (0 ≤ (q : Int)) = True := eq_true (by omega)
                  have q3 : ((q : Int) < (n : Int)) = True := eq_true (by omega)
                  obtain ⟨Z, hZ⟩ : ∃ Z, Z = toN d ⟨(a : Int), (b : Int), f2⟩ S1 q := ⟨_, rfl⟩
                  have HZ : Aside0 (toN d ⟨(a : Int), (b : Int), f2⟩ S1 (q + 1) = toStep d ⟨(a : Int), (b : Int), f2⟩ Z q) := ⟨by rw [hZ]; rfl⟩
                  rw [← hZ] at HA
                  clear hZ
                  obtain ⟨cm0, cm1, cm2⟩ := HA.out.mat.cM b q hi1 hlq
                  obtain ⟨x, hx⟩ : ∃ x, x = Z.1 b q := ⟨_, rfl⟩
                  rw [← hx] at cm0 cm1 cm2
                  have HXX := Aside0.mk hx
                  clear hx
                  obtain ⟨xr, xd, xf⟩ := x
                  simp only at cm0 cm1 cm2
                  have wq : IntKind.i64.wrap ((q : Int) + 1) = (q : Int) + 1 := IntWalk.i64_in _ ⟨by omega, by omega⟩
                  cases xf with
                  | false =>
                    have HV : Aside0 (toN d ⟨(a : Int), (b : Int), f2⟩ S1 (q + 1) = Z) := ⟨by rw [HZ.out]; unfold toStep; rw [if_neg]; show ¬ (Z.1 (b : Int).toNat q).f = true; rw [Int.toNat_natCast, ← HXX.out]; exact Bool.false_ne_true⟩
                    clear HZ HXX
                    go_wp2_with ((with_reducible refine gate_dst (N := 9) rfl ?_); refine box_event ?hg (N := 9) ?hd (cs := #[.int .i64 0, .int .i64 0, .bool false]) (t := 77) ?hr ?_; (case hd => rfl); (case hg => rfl); (case hr => first | (go_simp; done) | (go_simp; rfl)); intro g9 hg wn hbox hb9; have B9 := Aside0.mk hbox; have HB9 := Aside0.mk hb9; have GE9 := Aside0.mk (show wr.heap.size ≤ g9 by rw [hg]; exact Nat.le_refl _); clear hg hb9 hbox; have z9_0 := blk_frozen B9.out 0; have z9_1 := blk_frozen B9.out 1; have z9_2 := blk_frozen B9.out 2; have c9_0 : wn.cell? ⟨g9, 0, none⟩ = some (.int .i64 0) := (blk_cell B9.out 0).trans rfl; have c9_1 : wn.cell? ⟨g9, 1, none⟩ = some (.int .i64 0) := (blk_cell B9.out 1).trans rfl; have c9_2 : wn.cell? ⟨g9, 2, none⟩ = some (.bool false) := (blk_cell B9.out 2).trans rfl; have c9_3 : ∀ u v t, (((wn.setCell ⟨g9, 0, none⟩ u).setCell ⟨g9, 1, none⟩ v).setCell ⟨g9, 2, none⟩ t).cell? ⟨g9, 2, none⟩ = some t := fun u v t => (blk_cell (blk_put (blk_put (blk_put B9.out 0 u rfl) 1 v rfl) 2 t rfl) 2).trans rfl)
                    have HBX := below_set (j := 2) (v := .bool false) (below_set (j := 1) (v := .int .i64 xd) (below_set (j := 0) (v := .int .i64 xr) HB9.out GE9.out) GE9.out) GE9.out
                    have HA2 := Aside0.mk (HA.out.move HBX)
                    have p72 := Aside0.mk (blk_below p7.out HBX)
                    clear c9_0 c9_1 c9_2 c9_3 z9_0 z9_1 z9_2
                    go_roundg gq3
                    case measure => omega
                    case rel => exact ⟨q + 1, by go_num, ⟨by have := HQ.out; omega⟩, p72, by rw [HV.out]; exact HA2⟩
                  | true =>
                    have HV : Aside0 (toN d ⟨(a : Int), (b : Int), f2⟩ S1 (q + 1) = putS Z a q (yT d ⟨(a : Int), (b : Int), f2⟩ ⟨xr, xd, true⟩)) := ⟨by
                      rw [HZ.out]; unfold toStep
                      rw [if_pos]
                      · rw [Int.toNat_natCast, Int.toNat_natCast, ← HXX.out]
                      · show (Z.1 (b : Int).toNat q).f = true; rw [Int.toNat_natCast, ← HXX.out]⟩
                    clear HZ HXX
                    go_wp2_with ((with_reducible refine gate_dst (N := 9) rfl ?_); refine box_event ?hg (N := 9) ?hd (cs := #[.int .i64 0, .int .i64 0, .bool false]) (t := 77) ?hr ?_; (case hd => rfl); (case hg => rfl); (case hr => first | (go_simp; done) | (go_simp; rfl)); intro g9 hg wn hbox hb9; have B9 := Aside0.mk hbox; have HB9 := Aside0.mk hb9; have GE9 := Aside0.mk (show wr.heap.size ≤ g9 by rw [hg]; exact Nat.le_refl _); clear hg hb9 hbox; have z9_0 := blk_frozen B9.out 0; have z9_1 := blk_frozen B9.out 1; have z9_2 := blk_frozen B9.out 2; have c9_0 : wn.cell? ⟨g9, 0, none⟩ = some (.int .i64 0) := (blk_cell B9.out 0).trans rfl; have c9_1 : wn.cell? ⟨g9, 1, none⟩ = some (.int .i64 0) := (blk_cell B9.out 1).trans rfl; have c9_2 : wn.cell? ⟨g9, 2, none⟩ = some (.bool false) := (blk_cell B9.out 2).trans rfl; have c9_3 : ∀ u v t, (((wn.setCell ⟨g9, 0, none⟩ u).setCell ⟨g9, 1, none⟩ v).setCell ⟨g9, 2, none⟩ t).cell? ⟨g9, 2, none⟩ = some t := fun u v t => (blk_cell (blk_put (blk_put (blk_put B9.out 0 u rfl) 1 v rfl) 2 t rfl) 2).trans rfl)
                    have HBX := below_set (j := 2) (v := .bool true) (below_set (j := 1) (v := .int .i64 xd) (below_set (j := 0) (v := .int .i64 xr) HB9.out GE9.out) GE9.out) GE9.out
                    have HA2 := Aside0.mk (HA.out.move HBX)
                    have p72 := Aside0.mk (blk_below p7.out HBX)
                    have p92 := Aside0.mk (blk_put (cs' := #[.int .i64 xr, .int .i64 xd, .bool true]) (blk_put (cs' := #[.int .i64 xr, .int .i64 xd, .bool false]) (blk_put (cs' := #[.int .i64 xr, .int .i64 0, .bool false]) B9.out 0 (.int .i64 xr) rfl) 1 (.int .i64 xd) rfl) 2 (.bool true) rfl)
                    clear c9_0 c9_1 c9_2 c9_3 z9_0 z9_1 z9_2 B9 HB9 GE9 HBX HA p7 cm0 cm1 cm2
                    generalize ((wn.setCell ⟨g9, 0, none⟩ (.int .i64 xr)).setCell ⟨g9, 1, none⟩ (.int .i64 xd)).setCell ⟨g9, 2, none⟩ (.bool true) = W6 at HA2 p72 p92 ⊢
                    have k7_0 : W6.cell? ⟨g7, 0, none⟩ = some (.int .i64 (a : Int)) := (blk_cell p72.out 0).trans rfl
                    have k7_2 : W6.cell? ⟨g7, 2, none⟩ = some (.int .i64 f2) := (blk_cell p72.out 2).trans rfl
                    have k9_0 : W6.cell? ⟨g9, 0, none⟩ = some (.int .i64 xr) := (blk_cell p92.out 0).trans rfl
                    have k9_1 : W6.cell? ⟨g9, 1, none⟩ = some (.int .i64 xd) := (blk_cell p92.out 1).trans rfl
                    have k1_0 : W6.cell? ⟨g1, 0, none⟩ = some (.slice (some dd) n c0) := (blk_cell HA2.out.b1 0).trans rfl
                    obtain ⟨dd', hD', dA⟩ := Kd.at_int (Kd.C_below HR0.out HA2.out.bel) (a : Int) o0 o1
                    cases hD'
                    rw [Int.toNat_natCast] at dA
                    go_still_tail 19, (by kernel_rfl)
                    change wpList _ _ _ _ _ W6.drew
                    go_wp2_with ((with_reducible refine gate_dst (N := 87) rfl ?_); (refine goesV_ (some 87) rfl rfl Try.func91 rfl (by kernel_rfl) #[.int .i64 (a : Int), .int .i64 (q : Int), .agg #[.int .i64 (wrap64 (xr + f2)), .int .i64 (wrap64 (xd + rd d (a : Int))), .bool true]] rfl rfl (by simp [Act.eval, Act.put, IntWalk.i64_left]) ?_; refine (PutClo a q (yT d ⟨(a : Int), (b : Int), f2⟩ ⟨xr, xd, true⟩) Z.2 hi0 hlq hn HA2.out.mat.drew (blk_drew HA2.out.b4) HA2.out.h4).mono ?_; rintro e w3 ⟨rfl, hp⟩; refine ⟨_, rfl, ?_⟩; have n0_ := Aside0.mk ((HA2.out.move (below_drew1 (Below.refl _ _))).putw hp); have n1_ := Aside0.mk ((HA2.out.move (below_drew1 (Below.refl _ _))).other hp (blk_drew p72.out) (by decide) (by decide)); clear HA2 p72 hp; have HA := n0_; have p7 := n1_; clear n0_ n1_ k7_0 k7_2 k9_0 k9_1 k1_0 dA))
                    go_roundg gq3
                    case measure => omega
                    case rel => exact ⟨q + 1, by go_num, ⟨by have := HQ.out; omega⟩, p7, by rw [HV.out]; exact HA⟩
                · have hq : q = n := by have := HQ.out; omega
                  have f1 : decide ((q : Int) < (n : Int)) = false := decide_eq_false (by omega)
                  have f2' : decide (q < n) = false := decide_eq_false hlq
                  have wj : IntKind.i64.wrap ((j : Int) + 1) = (j : Int) + 1 := IntWalk.i64_in _ ⟨by omega, by omega⟩
                  have HV : Aside0 (wireN d ws n (M, false) (j + 1) = toN d ⟨(a : Int), (b : Int), f2⟩ S1 q) := ⟨by rw [HX.out, hq]; unfold wireStep; rw [Int.toNat_natCast, Int.toNat_natCast, ← HS1.out]⟩
                  clear hq
                  go_wp2
                  go_roundg gq2
                  case measure => omega
                  case rel => exact ⟨j + 1, by go_num, ⟨by have := HJ.out; omega⟩, by rw [HV.out]; exact HA⟩
            · have hj : j = m := by have := HJ.out; omega
              have f1 : decide ((j : Int) < (m : Int)) = false := decide_eq_false (by omega)
              have f2 : decide (j < m) = false := decide_eq_false hlj
              have HV : Aside0 (roundM d ws n M = wireN d ws n (M, false) j) := ⟨by rw [hj, HM0.out]; rfl⟩
              clear hj
              obtain ⟨⟨M2, ch2⟩, hS2⟩ : ∃ S2 : MB, S2 = wireN d ws n (M, false) j := ⟨_, rfl⟩
              rw [← hS2] at HS HV
              have HF2 : Aside0 ((ch2 = true ∧ allF d ws n gq M2 = some R) ∨ (ch2 = false ∧ M2 = R)) := ⟨by
                have h := HAF.out
                unfold allF at h
                rw [HV.out] at h
                cases ch2 with
                | true => rw [if_pos rfl] at h; exact .inl ⟨rfl, h⟩
                | false => rw [if_neg (show ¬ (false = true) from Bool.false_ne_true)] at h; exact .inr ⟨rfl, Option.some.inj h⟩⟩
              clear hS2 HAF
              have c4 : wr.cell? ⟨g4, 0, none⟩ = some (.bool ch2) := (blk_cell HS.out.b4 0).trans rfl
              go_wp2_with ((with_reducible refine gate_dst (N := 4) rfl ?_); refine box_event ?hg (N := 4) ?hd (cs := #[.bool false]) (t := 4) ?hr ?_; (case hd => rfl); (case hg => rfl); (case hr => first | (go_simp; done) | (go_simp; rfl)); intro g5 hg wn hbox hb5; have GE5 := Aside0.mk (show w.heap.size ≤ g5 by rw [hg]; exact below_size HS.out.bel); have B5 := Aside0.mk hbox; have HA5 := Aside0.mk (HS.out.move hb5); clear hg hb5 hbox; have z5 := blk_frozen B5.out 0; have c5 : wn.cell? ⟨g5, 0, none⟩ = some (.bool false) := (blk_cell B5.out 0).trans rfl)
              go_roundg gq
              case measure => omega
              case rel => exact ⟨g5, (M2, ch2), rfl, HF2, ⟨⟨blk_far HA5.out.b1 (p := ⟨g5, 0, none⟩) (blk_ne HA5.out.b1 B5.out (by decide)) _, HA5.out.mat.far B5.out (by decide) (by decide) (by decide) 0 _, blk_put B5.out 0 _ rfl, GE5.out, HA5.out.bel.setCell GE5.out _⟩⟩⟩
end Go.Proofs.Ytojpibpjieanhaa.X
end
section
namespace Go.Proofs.Ytojpibpjieanhaa.X
open Go.RowKit Go.Proofs.YtojpibpjieanhaaW.PrintWords Go.Proofs.YtojpibpjieanhaaW.PrintLast Go.Proofs.YtojpibpjieanhaaW.PrintMore
set_option linter.unusedVariables false
set_option linter.unusedSimpArgs false
def toS (x : Bt) : S77 := ⟨x.r, x.d, x.f⟩
def rowS (n : Nat) (M : Nat → Nat → Bt) (i : Nat) : List S77 := (List.range n).map fun j => toS (M i j)
def rowsS (n : Nat) (M : Nat → Nat → Bt) : List (List S77) := (List.range n).map fun i => rowS n M i
theorem rowS_get (n : Nat) (M : Nat → Nat → Bt) (i j : Nat) (hj : j < n) : (rowS n M i)[j]? = some (toS (M i j)) := by simp [rowS, hj]
theorem rowsS_get (n : Nat) (M : Nat → Nat → Bt) (i : Nat) (hi : i < n) : (rowsS n M)[i]? = some (rowS n M i) := by simp [rowsS, hi]
theorem three_at (cs : List Value) (j : Nat) (u v t : Value) (h0 : cs[j * 3]? = some u) (h1 : cs[j * 3 + 1]? = some v) (h2 : cs[j * 3 + 2]? = some t) : (cs.drop (j * 3)).take 3 = [u, v, t] := by
  apply List.ext_getElem?
  intro i
  rw [List.getElem?_take]
  rcases i with _ | _ | _ | i
  · rw [if_pos (by omega), List.getElem?_drop]; simpa using h0
  · rw [if_pos (by omega), List.getElem?_drop]; simpa using h1
  · rw [if_pos (by omega), List.getElem?_drop]; simpa using h2
  · rw [if_neg (by omega)]; rfl
theorem MatW.row_R {B n : Nat} {w : World} {g3 GR : Nat} {Gs : Nat → Nat} {cR : Nat} {M : Nat → Nat → Bt} (h : MatW B n w g3 GR Gs cR M) (hn : n ≤ maxLen) (ok : Nat → Prop) (i : Nat) (hi : i < n) (hok : ok (Gs i)) : Kd.R k77 77 w B ok (.slice (some ⟨Gs i, 0, none⟩) n n) (rowS n M i) := by
  obtain ⟨cells, q1, q2, q3⟩ := h.blk i hi
  have hl : (rowS n M i).length = n := by simp [rowS]
  refine ⟨fun k hk => ?_, cells.toList, ⟨?_, ?_⟩, ?_, ?_⟩
  · have : Gs i = k := by simpa [Value.ownBlock] using hk
    rw [← this]; exact hok
  · rw [hl, Array.length_toList]; exact q2
  · rw [hl]
    refine .inr ⟨Gs i, n, cells, rfl, h.hs i hi, q1, Nat.le_refl _, hn, q2, ?_⟩
    show cells.toList.take (n * 3) = cells.toList
    rw [← q2, ← Array.length_toList, List.take_length]
  · rw [hl, Array.length_toList]; exact q2
  · intro j p hp
    have hj : j < n := by
      obtain ⟨hh, _⟩ := List.getElem?_eq_some_iff.1 hp
      omega
    rw [rowS_get n M i j hj] at hp
    obtain rfl := Option.some.inj hp
    obtain ⟨k0, k1, k2⟩ := q3 j hj
    have e := three_at cells.toList j _ _ _ (by rw [Array.getElem?_toList]; exact k0) (by rw [Array.getElem?_toList]; exact k1) (by rw [Array.getElem?_toList]; exact k2)
    show k77.M _ _ _ _ ((cells.toList.drop (j * 3)).take 3)
    rw [e]
    exact k77_mkM _ _ _ _
open Classical in
theorem MatW.to_S {B n : Nat} {w : World} {g3 GR : Nat} {Gs : Nat → Nat} {cR : Nat} {M : Nat → Nat → Bt} (h : MatW B n w g3 GR Gs cR M) (hn : n ≤ maxLen) : Kd.S (Kd.slice 77 k77) 78 w B (fun _ => True) (.slice (some ⟨GR, 0, none⟩) n cR) (rowsS n M) := by
  obtain ⟨cells, q1, ⟨q2, q3, q4⟩, q5⟩ := h.row
  have hl : (rowsS n M).length = n := by simp [rowsS]
  have hz : (rowsS n M).zipIdx.length = n := by rw [List.length_zipIdx, hl]
  have hv : cells.toList.take n = rowVals n Gs n := by
    apply List.ext_getElem?
    intro i
    rw [List.getElem?_take]
    by_cases hi : i < n
    · rw [if_pos hi, Array.getElem?_toList, q5 i hi]
      simp [rowVals, hi]
    · rw [if_neg hi, List.getElem?_eq_none (by rw [rowVals_len]; omega)]
  refine ⟨fun k => if hk : ∃ i, i < n ∧ Gs i = k then hk.choose else 0, fun _ _ => trivial, rowVals n Gs n, ⟨?_, ?_⟩, ?_, ?_⟩
  · rw [hz, rowVals_len]; simp [Kd.slice, Kd.tag]
  · rw [hz]
    refine .inr ⟨GR, cR, cells, rfl, h.hR, q1, q3, q4, ?_, ?_⟩
    · show cells.size = cR * 1
      omega
    · show cells.toList.take (n * 1) = _
      rw [Nat.mul_one]; exact hv
  · rw [hz, rowVals_len]; simp [Kd.slice, Kd.tag]
  · intro j p hp
    have hj : j < n := by
      obtain ⟨hh, _⟩ := List.getElem?_eq_some_iff.1 hp
      omega
    rw [List.getElem?_zipIdx, rowsS_get n M j hj, Nat.zero_add] at hp
    obtain rfl := Option.some.inj hp
    have hf : (if hk : ∃ i, i < n ∧ Gs i = Gs j then hk.choose else 0) = j := by
      have hk : ∃ i, i < n ∧ Gs i = Gs j := ⟨j, hj, rfl⟩
      rw [dif_pos hk]
      exact h.inj _ _ hk.choose_spec.1 hj hk.choose_spec.2
    refine ⟨.slice (some ⟨Gs j, 0, none⟩) n n, ?_, h.row_R hn _ j hj ⟨⟨trivial, ?_⟩, hf⟩⟩
    · show ((rowVals n Gs n).drop (j * 1)).take 1 = _
      rw [Nat.mul_one]
      have e : (rowVals n Gs n)[j]? = some (.slice (some ⟨Gs j, 0, none⟩) n n) := by simp [rowVals, hj]
      obtain ⟨hh, he⟩ := List.getElem?_eq_some_iff.1 e
      rw [List.drop_eq_getElem_cons hh, he]; rfl
    · obtain ⟨cj, r1, _⟩ := h.blk j hj
      have := blk_ne r1 q1 (by decide)
      simpa [Value.ownBlock] using this
theorem allF_mono (d : List Int) (ws : List S55) (n : Nat) : ∀ (k : Nat) (M : Nat → Nat → Bt), LeO (allF d ws n k M) (allF d ws n (k + 1) M)
  | 0, M => fun r h => by simp [allF] at h
  | k + 1, M => by
    have := allF_mono d ws n k (roundM d ws n M).1
    rw [allF, show allF d ws n (k + 1 + 1) M = if (roundM d ws n M).2 = true then allF d ws n (k + 1) (roundM d ws n M).1 else some (roundM d ws n M).1 from rfl]
    exact LeO.ite this (LeO.refl _)
instance (l0 : List Int) (l1 : List S55) : Decidable (∀ w ∈ l1, WireIn l0.length w) := List.decidableBAll _ l1
def impl_Flow_allBetween.f (k : Nat) (l0 : List Int) (l1 : List S55) : Option (List (List S77)) :=
  if 1 ≤ l0.length ∧ l0.length ≤ 1000000 ∧ l1.length ≤ 1000000 ∧ ∀ w ∈ l1, WireIn l0.length w then (allF l0 l1 l0.length k (fun _ _ => zB)).bind fun M => some (rowsS l0.length M) else none
theorem impl_Flow_allBetween.mono : ∀ a0 a1 k, LeO (impl_Flow_allBetween.f k a0 a1) (impl_Flow_allBetween.f (k + 1) a0 a1) := by
  intro a0 a1 k
  unfold impl_Flow_allBetween.f
  split
  · exact LeO.bind (allF_mono a0 a1 a0.length k _) (fun _ => LeO.refl _)
  · exact LeO.refl _
theorem impl_Flow_allBetween.calls (k : Nat) (A0_0 : Option Addr) (c0_0 : Nat) (l0_0 : List Int) (A0_1 : Option Addr) (c0_1 : Nat) (l0_1 : List (S55)) (r : List (List S77)) (w : World) (hr0_0 : Kd.C (Kd.int .i64) w A0_0 l0_0.length l0_0) (hc0_0 : l0_0.length ≤ c0_0) (hr0_1 : Kd.C k55 w A0_1 l0_1.length l0_1) (hc0_1 : l0_1.length ≤ c0_1) (h : impl_Flow_allBetween.f k l0_0 l0_1 = some r) :
    Calls Try.prog 62 #[.agg #[.slice A0_0 l0_0.length c0_0, .slice A0_1 l0_1.length c0_1]] w fun e w' => ∃ v0_ : Value, e = .returned (v0_) ∧ Kd.S (Kd.slice 77 k77) 78 w' w.heap.size (fun _ => True) v0_ r ∧ Below w.heap.size w w' := by
  unfold impl_Flow_allBetween.f at h
  by_cases hc : 1 ≤ l0_0.length ∧ l0_0.length ≤ 1000000 ∧ l0_1.length ≤ 1000000 ∧ ∀ w ∈ l0_1, WireIn l0_0.length w
  · rw [if_pos hc] at h
    obtain ⟨M, hM, h⟩ := Option.bind_eq_some_iff.mp h
    obtain rfl := Option.some.inj h
    obtain ⟨h1, h2, h3, h4⟩ := hc
    refine (all_walk A0_0 c0_0 l0_0 A0_1 c0_1 l0_1 l0_0.length l0_1.length rfl rfl h1 h2 h3 (fun j hj => ?_) w hr0_0 hr0_1 k M hM).mono ?_
    · refine h4 _ ?_
      unfold rd_T55
      rw [Int.toNat_natCast, List.getD_eq_getElem?_getD, List.getElem?_eq_getElem hj]
      exact List.getElem_mem hj
    · rintro e w' ⟨GR, cR, g3, Gs, rfl, hm, hb⟩
      exact ⟨_, rfl, hm.to_S (by simp only [maxLen]; omega), hb⟩
  · rw [if_neg hc] at h; cases h
end Go.Proofs.Ytojpibpjieanhaa.X
end
section
-- Written by a program of this session out of the kit's print of the loaded functions: a plain function of a Go function, and its contract.
namespace Go.Proofs.Ytojpibpjieanhaa.X
open Go.RowKit Go.Proofs.YtojpibpjieanhaaW.PrintWords Go.Proofs.YtojpibpjieanhaaW.PrintLast Go.Proofs.YtojpibpjieanhaaW.PrintMore
attribute [local go_sem] max2_int min2_int max_two min_two max_three min_three max_four min_four   -- for this text's walks alone
set_option linter.unusedVariables false
set_option linter.unusedSimpArgs false
def spec_l00Has.l0 : Nat → List Int → Int → Int → Option (Bool)
 | 0, _, _, _ => none
 | k + 1, x0, x1, x5 => if x5 < (x0.length : Int) then (if 0 ≤ x5 then (if (rd x0 x5) = x1 then (some true) else (spec_l00Has.l0 k x0 x1 (wrap64 (x5 + 1)))) else (none)) else (some false)
def spec_l00Has.f (k : Nat) (l0 : List Int) (a1 : Int) : Option (Bool) := spec_l00Has.l0 k l0 a1 0
theorem spec_l00Has.mono_l : ∀ k, (∀ y0 y1 y2, LeO (spec_l00Has.l0 k y0 y1 y2) (spec_l00Has.l0 (k + 1) y0 y1 y2))
 | 0 => fun _ _ _ r h => by simp [spec_l00Has.l0] at h
 | k + 1 => by
  have ih0 := spec_l00Has.mono_l k
  ·intro y0 y1 y2
   unfold spec_l00Has.l0
   repeat' first
   | (with_reducible exact ih0 _ _ _)
   | (with_reducible exact LeO.refl _)
   | (with_reducible exact LeO.none _)
   | (with_reducible refine LeO.ite ?_ ?_)
   | (with_reducible refine LeO.bind ?_ (fun _ => ?_))
   | exact ih0 _ _ _
   | exact LeO.none _
   | refine LeO.ite ?_ ?_
   | refine LeO.bind ?_ (fun _ => ?_)
theorem spec_l00Has.mono : ∀ a0 a1 k, LeO (spec_l00Has.f k a0 a1) (spec_l00Has.f (k + 1) a0 a1) := by
 intro a0 a1 k
 have ih0 := spec_l00Has.mono_l k
 unfold spec_l00Has.f
 repeat' first
   | (with_reducible exact ih0 _ _ _)
   | (with_reducible exact LeO.refl _)
   | (with_reducible exact LeO.none _)
   | (with_reducible refine LeO.ite ?_ ?_)
   | (with_reducible refine LeO.bind ?_ (fun _ => ?_))
   | exact ih0 _ _ _
   | exact LeO.none _
   | refine LeO.ite ?_ ?_
   | refine LeO.bind ?_ (fun _ => ?_)
set_option maxHeartbeats 8000000 in
set_option maxRecDepth 100000 in
theorem spec_l00Has.calls (k : Nat) (A0 : Option Addr) (c0 : Nat) (l0 : List Int) (a1 : Int) (r : Bool) (w : World) (hr0 : Kd.C (Kd.int .i64) w A0 l0.length l0) (hc0 : l0.length ≤ c0) (h : spec_l00Has.f k l0 a1 = some r) :
  Calls Try.prog 100 #[.slice A0 l0.length c0, .int .i64 a1] w fun e w' => e = .returned (.bool r) ∧ Drawn0 w w' := by
 have HR0 := Aside0.mk hr0
 have HC0 := Aside0.mk hc0
 clear hr0 hc0
 have H : (spec_l00Has.l0 k l0 a1 0) = some r := h
 clear h
 have H' := Aside0.mk H
 clear H
 go_enter Try.func100, Try.ntmps100
 go_wp2
 go_loopg [5] k (fun kq v5 w' => ∃ (x5_1 : Int), v5 = .int .i64 x5_1 ∧ Aside0 (spec_l00Has.l0 kq l0 a1 x5_1 = some r) ∧ Aside0 (kq ≤ k) ∧ Drawn0 w w')
 case atStart => exact ⟨(0), (by first | rfl | (simp; done) | (simp [*]; done)), H', ⟨Nat.le_refl _⟩, by repeat (first | exact Drawn0.refl _ | apply Drawn0.step)⟩
 case round =>
  clear H'
  try clear c1
  try clear p2
  obtain ⟨x5_1, rfl, HA, HK1, ⟨m1, rfl⟩⟩ := hrel
  cases gk with
  | zero => exact absurd HA.out (by simp [spec_l00Has.l0])
  | succ k1 =>
   have H := HA.out
   clear HA
   simp only [spec_l00Has.l0] at H
   by_cases c3 : x5_1 < (l0.length : Int)
   ·rw [if_pos c3] at H
    have c3b0 : decide (x5_1 < (l0.length : Int)) = true := decide_eq_true c3
    clear c3
    by_cases c4 : 0 ≤ x5_1
    ·rw [if_pos c4] at H
     have c4b0 : decide (0 ≤ x5_1) = true := decide_eq_true c4
     clear c4
     by_cases c5 : (rd l0 x5_1) = a1
     ·rw [if_pos c5] at H
      have c5b0 : ((rd l0 x5_1) == a1) = true := beq_iff_eq.mpr c5
      have c5b1 : ((rd l0 x5_1) != a1) = false := bne_eq_false_iff_eq.mpr c5
      clear c5
      obtain rfl := Option.some.inj H
      have p181 : 0 ≤ (x5_1 : Int) := of_decide_eq_true (by first | (with_reducible assumption) | assumption)
      have q181 : x5_1 < (l0.length : Int) := of_decide_eq_true (by first | (with_reducible assumption) | assumption)
      obtain ⟨ad181, e181, hx181_0⟩ := Kd.at_int HR0.out x5_1 p181 q181
      cases e181
      replace p181 := eq_true p181
      replace q181 := eq_true q181
      go_wp2
      go_ret
      exact ⟨by first | rfl | (simp; done) | (simp [*]; done), by repeat (first | exact Drawn0.refl _ | apply Drawn0.step)⟩
     ·rw [if_neg c5] at H
      have c5b0 : ((rd l0 x5_1) == a1) = false := beq_eq_false_iff_ne.mpr c5
      have c5b1 : ((rd l0 x5_1) != a1) = true := bne_iff_ne.mpr c5
      have H' := Aside0.mk H
      clear H
      have p181 : 0 ≤ (x5_1 : Int) := of_decide_eq_true (by first | (with_reducible assumption) | assumption)
      have q181 : x5_1 < (l0.length : Int) := of_decide_eq_true (by first | (with_reducible assumption) | assumption)
      obtain ⟨ad181, e181, hx181_0⟩ := Kd.at_int HR0.out x5_1 p181 q181
      cases e181
      replace p181 := eq_true p181
      replace q181 := eq_true q181
      go_wp2
      go_roundg k1
      case measure => have := HK1.out; omega
      case rel => exact ⟨(wrap64 (x5_1 + 1)), (by first | rfl | (simp; done) | (simp [*]; done)), H', ⟨by have := HK1.out; omega⟩, by repeat (first | exact Drawn0.refl _ | apply Drawn0.step)⟩
    ·rw [if_neg c4] at H
     exact absurd H (by simp)
   ·rw [if_neg c3] at H
    have c3b0 : decide (x5_1 < (l0.length : Int)) = false := decide_eq_false c3
    clear c3
    obtain rfl := Option.some.inj H
    go_wp2
    go_ret
    exact ⟨by first | rfl | (simp; done) | (simp [*]; done), by repeat (first | exact Drawn0.refl _ | apply Drawn0.step)⟩
end Go.Proofs.Ytojpibpjieanhaa.X
end
section
-- Written by a program of this session out of the kit's print of the loaded functions: a plain function of a Go function, and its contract.
namespace Go.Proofs.Ytojpibpjieanhaa.X
open Go.RowKit Go.Proofs.YtojpibpjieanhaaW.PrintWords Go.Proofs.YtojpibpjieanhaaW.PrintLast Go.Proofs.YtojpibpjieanhaaW.PrintMore
attribute [local go_sem] max2_int min2_int max_two min_two max_three min_three max_four min_four   -- for this text's walks alone
set_option linter.unusedVariables false
set_option linter.unusedSimpArgs false
mutual
def spec_l00Put.l0 : Nat → List Int → Int → List Int → Bool → Int → Option (List Int)
 | 0, _, _, _, _, _ => none
 | k + 1, x0, x1, x5, x6, x7 => if x7 < (x0.length : Int) then (if x6 = true then (spec_l00Put.j1 k x0 x1 x5 x6 x7 false) else (if 0 ≤ x7 then (spec_l00Put.j1 k x0 x1 x5 x6 x7 (decide ((rd x0 x7) ≥ x1))) else (none))) else (if x6 = true then (some x5) else (if x5.length < 17592186044416 then (some (x5 ++ [x1])) else (none)))
def spec_l00Put.j1 : Nat → List Int → Int → List Int → Bool → Int → Bool → Option (List Int)
 | 0, _, _, _, _, _, _ => none
 | k + 1, x0, x1, x5, x6, x7, x24 => if x24 = true then (if 0 ≤ x7 then (if x7 < (x0.length : Int) then (if (rd x0 x7) > x1 then (if x5.length < 17592186044416 then ((some (x5 ++ [x1] : List Int)).bind fun y190 => (if y190.length < 17592186044416 then (spec_l00Put.l0 k x0 x1 (y190 ++ [rd x0 x7]) true (wrap64 (x7 + 1))) else (none))) else (none)) else (if x5.length < 17592186044416 then (spec_l00Put.l0 k x0 x1 (x5 ++ [rd x0 x7]) true (wrap64 (x7 + 1))) else (none))) else (none)) else (none)) else (if 0 ≤ x7 then (if x7 < (x0.length : Int) then (if x5.length < 17592186044416 then (spec_l00Put.l0 k x0 x1 (x5 ++ [rd x0 x7]) x6 (wrap64 (x7 + 1))) else (none)) else (none)) else (none))
end
def spec_l00Put.f (k : Nat) (l0 : List Int) (a1 : Int) : Option (List Int) := spec_l00Put.l0 k l0 a1 (([] : List Int)) false 0
theorem spec_l00Put.mono_l : ∀ k, (∀ y0 y1 y2 y3 y4, LeO (spec_l00Put.l0 k y0 y1 y2 y3 y4) (spec_l00Put.l0 (k + 1) y0 y1 y2 y3 y4)) ∧ (∀ y0 y1 y2 y3 y4 y5, LeO (spec_l00Put.j1 k y0 y1 y2 y3 y4 y5) (spec_l00Put.j1 (k + 1) y0 y1 y2 y3 y4 y5))
 | 0 => ⟨fun _ _ _ _ _ r h => by simp [spec_l00Put.l0] at h, fun _ _ _ _ _ _ r h => by simp [spec_l00Put.j1] at h⟩
 | k + 1 => by
  obtain ⟨ih0, ih1⟩ := spec_l00Put.mono_l k
  refine ⟨?_, ?_⟩
  ·intro y0 y1 y2 y3 y4
   unfold spec_l00Put.l0
   repeat' first
   | (with_reducible exact ih0 _ _ _ _ _)
   | (with_reducible exact ih1 _ _ _ _ _ _)
   | (with_reducible exact LeO.refl _)
   | (with_reducible exact LeO.none _)
   | (with_reducible refine LeO.ite ?_ ?_)
   | (with_reducible refine LeO.bind ?_ (fun _ => ?_))
   | exact ih0 _ _ _ _ _
   | exact ih1 _ _ _ _ _ _
   | exact LeO.none _
   | refine LeO.ite ?_ ?_
   | refine LeO.bind ?_ (fun _ => ?_)
  ·intro y0 y1 y2 y3 y4 y5
   unfold spec_l00Put.j1
   repeat' first
   | (with_reducible exact ih0 _ _ _ _ _)
   | (with_reducible exact ih1 _ _ _ _ _ _)
   | (with_reducible exact LeO.refl _)
   | (with_reducible exact LeO.none _)
   | (with_reducible refine LeO.ite ?_ ?_)
   | (with_reducible refine LeO.bind ?_ (fun _ => ?_))
   | exact ih0 _ _ _ _ _
   | exact ih1 _ _ _ _ _ _
   | exact LeO.none _
   | refine LeO.ite ?_ ?_
   | refine LeO.bind ?_ (fun _ => ?_)
theorem spec_l00Put.mono : ∀ a0 a1 k, LeO (spec_l00Put.f k a0 a1) (spec_l00Put.f (k + 1) a0 a1) := by
 intro a0 a1 k
 obtain ⟨ih0, ih1⟩ := spec_l00Put.mono_l k
 unfold spec_l00Put.f
 repeat' first
   | (with_reducible exact ih0 _ _ _ _ _)
   | (with_reducible exact ih1 _ _ _ _ _ _)
   | (with_reducible exact LeO.refl _)
   | (with_reducible exact LeO.none _)
   | (with_reducible refine LeO.ite ?_ ?_)
   | (with_reducible refine LeO.bind ?_ (fun _ => ?_))
   | exact ih0 _ _ _ _ _
   | exact ih1 _ _ _ _ _ _
   | exact LeO.none _
   | refine LeO.ite ?_ ?_
   | refine LeO.bind ?_ (fun _ => ?_)
set_option maxHeartbeats 8000000 in
set_option maxRecDepth 100000 in
theorem spec_l00Put.calls (k : Nat) (A0 : Option Addr) (c0 : Nat) (l0 : List Int) (a1 : Int) (r : List Int) (w : World) (hr0 : Kd.C (Kd.int .i64) w A0 l0.length l0) (hc0 : l0.length ≤ c0) (h : spec_l00Put.f k l0 a1 = some r) :
  Calls Try.prog 101 #[.slice A0 l0.length c0, .int .i64 a1] w fun e w' => ∃ v0_ : Value, e = .returned (v0_) ∧ Kd.R (Kd.int .i64) 2 w' w.heap.size (fun _ => True) v0_ r ∧ Below w.heap.size w w' := by
 have HR0 := Aside0.mk hr0
 have HC0 := Aside0.mk hc0
 clear hr0 hc0
 have HB := Aside0.mk (Below.refl w.heap.size w)
 have H : (spec_l00Put.l0 k l0 a1 (([] : List Int)) false 0) = some r := h
 clear h
 obtain ⟨y182, hy182⟩ : ∃ y_ : List Int, y_ = (([] : List Int)) := ⟨_, rfl⟩
 replace H : (spec_l00Put.l0 k l0 a1 y182 false 0) = some r := by first | (rw [hy182]; with_reducible exact H) | (have H2_ := (Option.bind_some _ _).symm.trans H; rw [hy182]; with_reducible exact H2_) | (have H2_ := (Option.bind_some _ _).symm.trans H; with_reducible exact H2_) | with_reducible exact H | (rw [hy182]; exact H) | exact H
 have Ny182 := Aside0.mk hy182
 clear hy182
 have H' := Aside0.mk H
 clear H
 go_enter Try.func101, Try.ntmps101
 go_wp2_with (first | ((with_reducible refine gate_dst (N := 8) rfl ?_); refine Kd.R_lit (Kd.int .i64) _ 2 ?hg (N := 8) ?hd (xs := ([] : List Int)) (inner := []) (ok := fun _ => True) (okp := fun _ => True) ?hr ?hp (fun _ hk => hk) trivial (Below.refl _ _) (Nat.le_refl _) (by simp) ?_; (case hd => rfl); (case hg => rfl); (case hr => first | (go_simp; done) | (go_simp; rfl)); (case hp => exact (Reps.none _ _)); intro v183 w3 ho4 hb hg_ hnew_; clear hg_ hnew_; (first | rw [← Ny182.out] at ho4 | (simp only [Int.reduceToNat] at ho4; rw [← Ny182.out] at ho4)); have n0_ := Aside0.mk (Kd.R_lower ho4 (below_size (by repeat (first | (with_reducible first | exact HB.out | apply below_alloc | apply pw_below_drewN | apply below_drew1) | exact HB.out)))); have n1_ := Aside0.mk (below_step (by repeat (first | (with_reducible first | exact HB.out | apply below_alloc | apply pw_below_drewN | apply below_drew1) | exact HB.out)) hb); clear HB; have HO184 := n0_; have HB := n1_; clear n0_ n1_; clear hb ho4))
 go_loopg [5, 6, 7] k (fun kq v5 v6 v7 w' => ∃ (x5_1 : List Int) (x6_1 : Bool) (x7_1 : Int), v6 = .bool x6_1 ∧ v7 = .int .i64 x7_1 ∧ Aside0 (spec_l00Put.l0 kq l0 a1 x5_1 x6_1 x7_1 = some r) ∧ Aside0 (kq ≤ k) ∧ Aside0 (Kd.R (Kd.int .i64) 2 w' w.heap.size (fun _ => True) v5 x5_1) ∧ Aside0 (Below w.heap.size w w'))
 case atStart => exact ⟨(y182), (false), (0), (by first | rfl | (simp; done) | (simp [*]; done)), (by first | rfl | (simp; done) | (simp [*]; done)), H', ⟨Nat.le_refl _⟩, ⟨by (with_reducible repeat (first | apply Kd.R_alloc | apply Kd.R_drewN | apply Kd.R_drew)); exact HO184.out⟩, ⟨by repeat (first | (with_reducible first | exact HB.out | apply below_alloc | apply pw_below_drewN | apply below_drew1) | exact HB.out)⟩⟩
 case round =>
  clear H'
  try clear c1
  try clear p2
  obtain ⟨x5_1, x6_1, x7_1, rfl, rfl, HA, HK1, HO_5, HB⟩ := hrel
  cases gk with
  | zero => exact absurd HA.out (by simp [spec_l00Put.l0])
  | succ k1 =>
   have H := HA.out
   clear HA
   simp only [spec_l00Put.l0] at H
   by_cases c5 : x7_1 < (l0.length : Int)
   ·rw [if_pos c5] at H
    have c5b0 : decide (x7_1 < (l0.length : Int)) = true := decide_eq_true c5
    clear c5
    have HC6 := Aside0.mk H
    clear H
    go_upto_region 6 with (fail)
    go_cut [24] (fun v24 wc => ∃ (kq : Nat) (x24_5 : Bool), v24 = .bool x24_5 ∧ Aside0 (spec_l00Put.j1 kq l0 a1 x5_1 x6_1 x7_1 x24_5 = some r) ∧ Aside0 (kq ≤ k1) ∧ Aside0 (Kd.R (Kd.int .i64) 2 wc w.heap.size (fun _ => True) u5 x5_1) ∧ Aside0 (Below w.heap.size w wc))
    case first =>
     have H := HC6.out
     clear HC6
     by_cases c7 : x6_1 = true
     ·subst c7
      have H1 : (spec_l00Put.j1 k1 l0 a1 x5_1 true x7_1 false) = some r := by rw [if_pos rfl] at H; exact H
      clear H
      have H := H1
      clear H1
      have H' := Aside0.mk H
      clear H
      go_wp2
      go_meet
      case rel => exact ⟨_, (false), (by first | rfl | (simp; done) | (simp [*]; done)), H', ⟨by have := HK1.out; first | omega | exact Nat.le_refl _⟩, ⟨by (with_reducible repeat (first | apply Kd.R_alloc | apply Kd.R_drewN | apply Kd.R_drew)); exact HO_5.out⟩, ⟨by repeat (first | (with_reducible first | exact HB.out | apply below_alloc | apply pw_below_drewN | apply below_drew1) | exact HB.out)⟩⟩
     ·replace c7 := Bool.eq_false_iff.mpr c7
      subst c7
      have H1 : (if 0 ≤ x7_1 then (spec_l00Put.j1 k1 l0 a1 x5_1 false x7_1 (decide ((rd l0 x7_1) ≥ a1))) else (none)) = some r := by rw [if_neg (show ¬ (false = true) by decide)] at H; exact H
      clear H
      have H := H1
      clear H1
      by_cases c8 : 0 ≤ x7_1
      ·rw [if_pos c8] at H
       have c8b0 : decide (0 ≤ x7_1) = true := decide_eq_true c8
       clear c8
       (first | rw [c8b0] | (simp only [i64_w, i32_w]; rw [c8b0]) | skip)
       have H' := Aside0.mk H
       clear H
       have p188 : 0 ≤ (x7_1 : Int) := of_decide_eq_true (by first | (with_reducible assumption) | assumption)
       have q188 : x7_1 < (l0.length : Int) := of_decide_eq_true (by first | (with_reducible assumption) | assumption)
       obtain ⟨ad188, e188, hx188_0⟩ := Kd.at_int HR0.out x7_1 p188 q188
       cases e188
       replace hx188_0 := (HB.out.cell (World.block_lt_of_cell? w _ hx188_0)).trans hx188_0
       replace p188 := eq_true p188
       replace q188 := eq_true q188
       go_wp2
       go_meet
       case rel => exact ⟨_, (decide ((rd l0 x7_1) ≥ a1)), (by first | rfl | (simp; done) | (simp [*]; done)), H', ⟨by have := HK1.out; first | omega | exact Nat.le_refl _⟩, ⟨by (with_reducible repeat (first | apply Kd.R_alloc | apply Kd.R_drewN | apply Kd.R_drew)); exact HO_5.out⟩, ⟨by repeat (first | (with_reducible first | exact HB.out | apply below_alloc | apply pw_below_drewN | apply below_drew1) | exact HB.out)⟩⟩
      ·rw [if_neg c8] at H
       exact absurd H (by simp)
    case rest =>
     clear HC6
     try clear c1
     try clear p1
     try clear q1
     try clear hx1
     try clear p2
     try clear c5
     try clear c5b0
     try clear c7
     try clear c8
     try clear c8b0
     try clear hx188_0
     try clear p188
     try clear p2
     try clear q188
     obtain ⟨kq, x24_5, rfl, HA, HJ5, HO_5, HB⟩ := hcut
     cases kq with
     | zero => exact absurd HA.out (by simp [spec_l00Put.j1])
     | succ kj5 =>
      have H := HA.out
      clear HA
      simp only [spec_l00Put.j1] at H
      by_cases c9 : x24_5 = true
      ·subst c9
       have H1 : (if 0 ≤ x7_1 then (if x7_1 < (l0.length : Int) then (if (rd l0 x7_1) > a1 then (if x5_1.length < 17592186044416 then ((some (x5_1 ++ [a1] : List Int)).bind fun y190 => (if y190.length < 17592186044416 then (spec_l00Put.l0 kj5 l0 a1 (y190 ++ [rd l0 x7_1]) true (wrap64 (x7_1 + 1))) else (none))) else (none)) else (if x5_1.length < 17592186044416 then (spec_l00Put.l0 kj5 l0 a1 (x5_1 ++ [rd l0 x7_1]) true (wrap64 (x7_1 + 1))) else (none))) else (none)) else (none)) = some r := by rw [if_pos rfl] at H; exact H
       clear H
       have H := H1
       clear H1
       by_cases c10 : 0 ≤ x7_1
       ·rw [if_pos c10] at H
        have c10b0 : decide (0 ≤ x7_1) = true := decide_eq_true c10
        clear c10
        by_cases c11 : x7_1 < (l0.length : Int)
        ·rw [if_pos c11] at H
         have c11b0 : decide (x7_1 < (l0.length : Int)) = true := decide_eq_true c11
         clear c11
         by_cases c12 : (rd l0 x7_1) > a1
         ·rw [if_pos c12] at H
          have c12b0 : decide (a1 < (rd l0 x7_1)) = true := decide_eq_true c12
          clear c12
          by_cases c13 : x5_1.length < 17592186044416
          ·rw [if_pos c13] at H
           have LMc13 := Aside0.mk c13
           clear c13
           obtain ⟨y190, hy190⟩ : ∃ y_ : List Int, y_ = (x5_1 ++ [a1]) := ⟨_, rfl⟩
           replace H : (if y190.length < 17592186044416 then (spec_l00Put.l0 kj5 l0 a1 (y190 ++ [rd l0 x7_1]) true (wrap64 (x7_1 + 1))) else (none)) = some r := by first | (rw [hy190]; with_reducible exact H) | (have H2_ := (Option.bind_some _ _).symm.trans H; rw [hy190]; with_reducible exact H2_) | (have H2_ := (Option.bind_some _ _).symm.trans H; with_reducible exact H2_) | with_reducible exact H | (rw [hy190]; exact H) | exact H
           have Ny190 := Aside0.mk hy190
           clear hy190
           by_cases c14 : y190.length < 17592186044416
           ·rw [if_pos c14] at H
            have LMc14 := Aside0.mk c14
            clear c14
            obtain ⟨y194, hy194⟩ : ∃ y_ : List Int, y_ = (y190 ++ [rd l0 x7_1]) := ⟨_, rfl⟩
            replace H : (spec_l00Put.l0 kj5 l0 a1 y194 true (wrap64 (x7_1 + 1))) = some r := by first | (rw [hy194]; with_reducible exact H) | (have H2_ := (Option.bind_some _ _).symm.trans H; rw [hy194]; with_reducible exact H2_) | (have H2_ := (Option.bind_some _ _).symm.trans H; with_reducible exact H2_) | with_reducible exact H | (rw [hy194]; exact H) | exact H
            have Ny194 := Aside0.mk hy194
            clear hy194
            have H' := Aside0.mk H
            clear H
            have p189 : 0 ≤ (x7_1 : Int) := of_decide_eq_true (by first | (with_reducible assumption) | assumption)
            have q189 : x7_1 < (l0.length : Int) := of_decide_eq_true (by first | (with_reducible assumption) | assumption)
            obtain ⟨ad189, e189, hx189_0⟩ := Kd.at_int HR0.out x7_1 p189 q189
            cases e189
            replace hx189_0 := (HB.out.cell (World.block_lt_of_cell? w _ hx189_0)).trans hx189_0
            replace p189 := eq_true p189
            replace q189 := eq_true q189
            go_wp2_with (first | ((with_reducible refine gate_builtin (b := .append) (xs := #[.tmp 31, .tmp 33]) rfl ?_); at_builtin; refine Kd.R_append (Kd.int .i64) (w0 := w) w.heap.size rfl (.tmp 31) (.tmp 33) 22 2 (.int .i64 0) 8 rfl Try.underlying22 info2 rfl (by decide) (by omega) u5 x5_1 a1 [.int .i64 a1] (fun _ => True) (fun _ => False) rfl rfl ?aP (fun _ hk => hk.elim) ?aF ?aO ?aB ?aS ?aL ?_; (case aP => exact rfl); (case aB => exact (by repeat (first | (with_reducible first | exact HB.out | apply below_alloc | apply pw_below_drewN | apply below_drew1) | exact HB.out))); (case aF => exact (fun _ _ => trivial)); (case aO => exact (by (with_reducible repeat (first | apply Kd.R_alloc | apply Kd.R_drewN | apply Kd.R_drew)); exact HO_5.out)); (case aS => exact (below_size (by repeat (first | (with_reducible first | exact HB.out | apply below_alloc | apply pw_below_drewN | apply below_drew1) | exact HB.out)))); (case aL => have := LMc13.out; omega); intro v191 w15 ho hb hg hat; rw [← Ny190.out] at ho; have n0_ := Aside0.mk (hb); have n1_ := Aside0.mk (ho); clear HB; clear HO_5; have HB := n0_; have HO192 := n1_; clear n0_ n1_; clear ho hb hg hat; have p193 : 0 ≤ (x7_1 : Int) := of_decide_eq_true (by first | (with_reducible assumption) | assumption); have q193 : x7_1 < (l0.length : Int) := of_decide_eq_true (by first | (with_reducible assumption) | assumption); obtain ⟨ad193, e193, hx193_0⟩ := Kd.at_int HR0.out x7_1 p193 q193; obtain rfl : ad189 = ad193 := (by injection e193); replace hx193_0 := (HB.out.cell (World.block_lt_of_cell? w _ hx193_0)).trans hx193_0; replace p193 := eq_true p193; replace q193 := eq_true q193) | ((with_reducible refine gate_builtin (b := .append) (xs := #[.tmp 35, .tmp 40]) rfl ?_); at_builtin; refine Kd.R_append (Kd.int .i64) (w0 := w) w.heap.size rfl (.tmp 35) (.tmp 40) 22 2 (.int .i64 0) 8 rfl Try.underlying22 info2 rfl (by decide) (by omega) v191 y190 (rd l0 x7_1) [.int .i64 (rd l0 x7_1)] (fun _ => True) (fun _ => False) rfl rfl ?aP (fun _ hk => hk.elim) ?aF ?aO ?aB ?aS ?aL ?_; (case aP => exact rfl); (case aB => exact (by repeat (first | (with_reducible first | exact HB.out | apply below_alloc | apply pw_below_drewN | apply below_drew1) | exact HB.out))); (case aF => exact (fun _ _ => trivial)); (case aO => exact (by (with_reducible repeat (first | apply Kd.R_alloc | apply Kd.R_drewN | apply Kd.R_drew)); exact HO192.out)); (case aS => exact (below_size (by repeat (first | (with_reducible first | exact HB.out | apply below_alloc | apply pw_below_drewN | apply below_drew1) | exact HB.out)))); (case aL => have := LMc14.out; omega); intro v195 w16 ho hb hg hat; rw [← Ny194.out] at ho; have n0_ := Aside0.mk (hb); have n1_ := Aside0.mk (ho); clear HB; clear HO192; have HB := n0_; have HO196 := n1_; clear n0_ n1_; clear ho hb hg hat))
            go_roundg kj5
            case measure => have := HK1.out; have := HJ5.out; omega
            case rel => exact ⟨(y194), (true), (wrap64 (x7_1 + 1)), (by first | rfl | (simp; done) | (simp [*]; done)), (by first | rfl | (simp; done) | (simp [*]; done)), H', ⟨by have := HK1.out; have := HJ5.out; omega⟩, ⟨by (with_reducible repeat (first | apply Kd.R_alloc | apply Kd.R_drewN | apply Kd.R_drew)); exact HO196.out⟩, ⟨by repeat (first | (with_reducible first | exact HB.out | apply below_alloc | apply pw_below_drewN | apply below_drew1) | exact HB.out)⟩⟩
           ·rw [if_neg c14] at H
            exact absurd H (by simp)
          ·rw [if_neg c13] at H
           exact absurd H (by simp)
         ·rw [if_neg c12] at H
          have c12b0 : decide (a1 < (rd l0 x7_1)) = false := decide_eq_false c12
          clear c12
          by_cases c17 : x5_1.length < 17592186044416
          ·rw [if_pos c17] at H
           have LMc17 := Aside0.mk c17
           clear c17
           obtain ⟨y198, hy198⟩ : ∃ y_ : List Int, y_ = (x5_1 ++ [rd l0 x7_1]) := ⟨_, rfl⟩
           replace H : (spec_l00Put.l0 kj5 l0 a1 y198 true (wrap64 (x7_1 + 1))) = some r := by first | (rw [hy198]; with_reducible exact H) | (have H2_ := (Option.bind_some _ _).symm.trans H; rw [hy198]; with_reducible exact H2_) | (have H2_ := (Option.bind_some _ _).symm.trans H; with_reducible exact H2_) | with_reducible exact H | (rw [hy198]; exact H) | exact H
           have Ny198 := Aside0.mk hy198
           clear hy198
           have H' := Aside0.mk H
           clear H
           have p189 : 0 ≤ (x7_1 : Int) := of_decide_eq_true (by first | (with_reducible assumption) | assumption)
           have q189 : x7_1 < (l0.length : Int) := of_decide_eq_true (by first | (with_reducible assumption) | assumption)
           obtain ⟨ad189, e189, hx189_0⟩ := Kd.at_int HR0.out x7_1 p189 q189
           cases e189
           replace hx189_0 := (HB.out.cell (World.block_lt_of_cell? w _ hx189_0)).trans hx189_0
           replace p189 := eq_true p189
           replace q189 := eq_true q189
           have p197 : 0 ≤ (x7_1 : Int) := of_decide_eq_true (by first | (with_reducible assumption) | assumption)
           have q197 : x7_1 < (l0.length : Int) := of_decide_eq_true (by first | (with_reducible assumption) | assumption)
           obtain ⟨ad197, e197, hx197_0⟩ := Kd.at_int HR0.out x7_1 p197 q197
           obtain rfl : ad189 = ad197 := (by injection e197)
           replace hx197_0 := (HB.out.cell (World.block_lt_of_cell? w _ hx197_0)).trans hx197_0
           replace p197 := eq_true p197
           replace q197 := eq_true q197
           go_wp2_with (first | ((with_reducible refine gate_builtin (b := .append) (xs := #[.tmp 35, .tmp 40]) rfl ?_); at_builtin; refine Kd.R_append (Kd.int .i64) (w0 := w) w.heap.size rfl (.tmp 35) (.tmp 40) 22 2 (.int .i64 0) 8 rfl Try.underlying22 info2 rfl (by decide) (by omega) u5 x5_1 (rd l0 x7_1) [.int .i64 (rd l0 x7_1)] (fun _ => True) (fun _ => False) rfl rfl ?aP (fun _ hk => hk.elim) ?aF ?aO ?aB ?aS ?aL ?_; (case aP => exact rfl); (case aB => exact (by repeat (first | (with_reducible first | exact HB.out | apply below_alloc | apply pw_below_drewN | apply below_drew1) | exact HB.out))); (case aF => exact (fun _ _ => trivial)); (case aO => exact (by (with_reducible repeat (first | apply Kd.R_alloc | apply Kd.R_drewN | apply Kd.R_drew)); exact HO_5.out)); (case aS => exact (below_size (by repeat (first | (with_reducible first | exact HB.out | apply below_alloc | apply pw_below_drewN | apply below_drew1) | exact HB.out)))); (case aL => have := LMc17.out; omega); intro v199 w18 ho hb hg hat; rw [← Ny198.out] at ho; have n0_ := Aside0.mk (hb); have n1_ := Aside0.mk (ho); clear HB; clear HO_5; have HB := n0_; have HO200 := n1_; clear n0_ n1_; clear ho hb hg hat))
           go_roundg kj5
           case measure => have := HK1.out; have := HJ5.out; omega
           case rel => exact ⟨(y198), (true), (wrap64 (x7_1 + 1)), (by first | rfl | (simp; done) | (simp [*]; done)), (by first | rfl | (simp; done) | (simp [*]; done)), H', ⟨by have := HK1.out; have := HJ5.out; omega⟩, ⟨by (with_reducible repeat (first | apply Kd.R_alloc | apply Kd.R_drewN | apply Kd.R_drew)); exact HO200.out⟩, ⟨by repeat (first | (with_reducible first | exact HB.out | apply below_alloc | apply pw_below_drewN | apply below_drew1) | exact HB.out)⟩⟩
          ·rw [if_neg c17] at H
           exact absurd H (by simp)
        ·rw [if_neg c11] at H
         exact absurd H (by simp)
       ·rw [if_neg c10] at H
        exact absurd H (by simp)
      ·replace c9 := Bool.eq_false_iff.mpr c9
       subst c9
       have H1 : (if 0 ≤ x7_1 then (if x7_1 < (l0.length : Int) then (if x5_1.length < 17592186044416 then (spec_l00Put.l0 kj5 l0 a1 (x5_1 ++ [rd l0 x7_1]) x6_1 (wrap64 (x7_1 + 1))) else (none)) else (none)) else (none)) = some r := by rw [if_neg (show ¬ (false = true) by decide)] at H; exact H
       clear H
       have H := H1
       clear H1
       by_cases c19 : 0 ≤ x7_1
       ·rw [if_pos c19] at H
        have c19b0 : decide (0 ≤ x7_1) = true := decide_eq_true c19
        clear c19
        by_cases c20 : x7_1 < (l0.length : Int)
        ·rw [if_pos c20] at H
         have c20b0 : decide (x7_1 < (l0.length : Int)) = true := decide_eq_true c20
         clear c20
         by_cases c21 : x5_1.length < 17592186044416
         ·rw [if_pos c21] at H
          have LMc21 := Aside0.mk c21
          clear c21
          obtain ⟨y202, hy202⟩ : ∃ y_ : List Int, y_ = (x5_1 ++ [rd l0 x7_1]) := ⟨_, rfl⟩
          replace H : (spec_l00Put.l0 kj5 l0 a1 y202 x6_1 (wrap64 (x7_1 + 1))) = some r := by first | (rw [hy202]; with_reducible exact H) | (have H2_ := (Option.bind_some _ _).symm.trans H; rw [hy202]; with_reducible exact H2_) | (have H2_ := (Option.bind_some _ _).symm.trans H; with_reducible exact H2_) | with_reducible exact H | (rw [hy202]; exact H) | exact H
          have Ny202 := Aside0.mk hy202
          clear hy202
          have H' := Aside0.mk H
          clear H
          have p201 : 0 ≤ (x7_1 : Int) := of_decide_eq_true (by first | (with_reducible assumption) | assumption)
          have q201 : x7_1 < (l0.length : Int) := of_decide_eq_true (by first | (with_reducible assumption) | assumption)
          obtain ⟨ad201, e201, hx201_0⟩ := Kd.at_int HR0.out x7_1 p201 q201
          cases e201
          replace hx201_0 := (HB.out.cell (World.block_lt_of_cell? w _ hx201_0)).trans hx201_0
          replace p201 := eq_true p201
          replace q201 := eq_true q201
          go_wp2_with (first | ((with_reducible refine gate_builtin (b := .append) (xs := #[.tmp 35, .tmp 40]) rfl ?_); at_builtin; refine Kd.R_append (Kd.int .i64) (w0 := w) w.heap.size rfl (.tmp 35) (.tmp 40) 22 2 (.int .i64 0) 8 rfl Try.underlying22 info2 rfl (by decide) (by omega) u5 x5_1 (rd l0 x7_1) [.int .i64 (rd l0 x7_1)] (fun _ => True) (fun _ => False) rfl rfl ?aP (fun _ hk => hk.elim) ?aF ?aO ?aB ?aS ?aL ?_; (case aP => exact rfl); (case aB => exact (by repeat (first | (with_reducible first | exact HB.out | apply below_alloc | apply pw_below_drewN | apply below_drew1) | exact HB.out))); (case aF => exact (fun _ _ => trivial)); (case aO => exact (by (with_reducible repeat (first | apply Kd.R_alloc | apply Kd.R_drewN | apply Kd.R_drew)); exact HO_5.out)); (case aS => exact (below_size (by repeat (first | (with_reducible first | exact HB.out | apply below_alloc | apply pw_below_drewN | apply below_drew1) | exact HB.out)))); (case aL => have := LMc21.out; omega); intro v203 w22 ho hb hg hat; rw [← Ny202.out] at ho; have n0_ := Aside0.mk (hb); have n1_ := Aside0.mk (ho); clear HB; clear HO_5; have HB := n0_; have HO204 := n1_; clear n0_ n1_; clear ho hb hg hat))
          go_roundg kj5
          case measure => have := HK1.out; have := HJ5.out; omega
          case rel => exact ⟨(y202), (x6_1), (wrap64 (x7_1 + 1)), (by first | rfl | (simp; done) | (simp [*]; done)), (by first | rfl | (simp; done) | (simp [*]; done)), H', ⟨by have := HK1.out; have := HJ5.out; omega⟩, ⟨by (with_reducible repeat (first | apply Kd.R_alloc | apply Kd.R_drewN | apply Kd.R_drew)); exact HO204.out⟩, ⟨by repeat (first | (with_reducible first | exact HB.out | apply below_alloc | apply pw_below_drewN | apply below_drew1) | exact HB.out)⟩⟩
         ·rw [if_neg c21] at H
          exact absurd H (by simp)
        ·rw [if_neg c20] at H
         exact absurd H (by simp)
       ·rw [if_neg c19] at H
        exact absurd H (by simp)
   ·rw [if_neg c5] at H
    have c5b0 : decide (x7_1 < (l0.length : Int)) = false := decide_eq_false c5
    clear c5
    by_cases c23 : x6_1 = true
    ·subst c23
     have H1 : (some x5_1) = some r := by rw [if_pos rfl] at H; exact H
     clear H
     have H := H1
     clear H1
     obtain rfl := Option.some.inj H
     go_wp2
     go_ret
     exact ⟨_, by first | rfl | (simp [errW_none, errW_some] <;> rfl) | (simp [*, errW_none, errW_some] <;> rfl), by (with_reducible repeat (first | apply Kd.R_alloc | apply Kd.R_drewN | apply Kd.R_drew)); exact HO_5.out, by repeat (first | (with_reducible first | exact HB.out | apply below_alloc | apply pw_below_drewN | apply below_drew1) | exact HB.out)⟩
    ·replace c23 := Bool.eq_false_iff.mpr c23
     subst c23
     have H1 : (if x5_1.length < 17592186044416 then (some (x5_1 ++ [a1])) else (none)) = some r := by rw [if_neg (show ¬ (false = true) by decide)] at H; exact H
     clear H
     have H := H1
     clear H1
     by_cases c24 : x5_1.length < 17592186044416
     ·rw [if_pos c24] at H
      have LMc24 := Aside0.mk c24
      clear c24
      obtain ⟨y185, hy185⟩ : ∃ y_ : List Int, y_ = (x5_1 ++ [a1]) := ⟨_, rfl⟩
      replace H : (some y185) = some r := by first | (rw [hy185]; with_reducible exact H) | (have H2_ := (Option.bind_some _ _).symm.trans H; rw [hy185]; with_reducible exact H2_) | (have H2_ := (Option.bind_some _ _).symm.trans H; with_reducible exact H2_) | with_reducible exact H | (rw [hy185]; exact H) | exact H
      have Ny185 := Aside0.mk hy185
      clear hy185
      obtain rfl := Option.some.inj H
      go_wp2_with (first | ((with_reducible refine gate_builtin (b := .append) (xs := #[.tmp 44, .tmp 46]) rfl ?_); at_builtin; refine Kd.R_append (Kd.int .i64) (w0 := w) w.heap.size rfl (.tmp 44) (.tmp 46) 22 2 (.int .i64 0) 8 rfl Try.underlying22 info2 rfl (by decide) (by omega) u5 x5_1 a1 [.int .i64 a1] (fun _ => True) (fun _ => False) rfl rfl ?aP (fun _ hk => hk.elim) ?aF ?aO ?aB ?aS ?aL ?_; (case aP => exact rfl); (case aB => exact (by repeat (first | (with_reducible first | exact HB.out | apply below_alloc | apply pw_below_drewN | apply below_drew1) | exact HB.out))); (case aF => exact (fun _ _ => trivial)); (case aO => exact (by (with_reducible repeat (first | apply Kd.R_alloc | apply Kd.R_drewN | apply Kd.R_drew)); exact HO_5.out)); (case aS => exact (below_size (by repeat (first | (with_reducible first | exact HB.out | apply below_alloc | apply pw_below_drewN | apply below_drew1) | exact HB.out)))); (case aL => have := LMc24.out; omega); intro v186 w25 ho hb hg hat; rw [← Ny185.out] at ho; have n0_ := Aside0.mk (hb); have n1_ := Aside0.mk (ho); clear HB; clear HO_5; have HB := n0_; have HO187 := n1_; clear n0_ n1_; clear ho hb hg hat))
      go_ret
      exact ⟨_, by first | rfl | (simp [errW_none, errW_some] <;> rfl) | (simp [*, errW_none, errW_some] <;> rfl), by (with_reducible repeat (first | apply Kd.R_alloc | apply Kd.R_drewN | apply Kd.R_drew)); exact HO187.out, by repeat (first | (with_reducible first | exact HB.out | apply below_alloc | apply pw_below_drewN | apply below_drew1) | exact HB.out)⟩
     ·rw [if_neg c24] at H
      exact absurd H (by simp)
end Go.Proofs.Ytojpibpjieanhaa.X
end
section
namespace Go.Proofs.Ytojpibpjieanhaa.X
open Go.RowKit Go.Proofs.YtojpibpjieanhaaW.PrintWords Go.Proofs.YtojpibpjieanhaaW.PrintLast Go.Proofs.YtojpibpjieanhaaW.PrintMore
set_option linter.unusedVariables false
set_option linter.unusedSimpArgs false
theorem rd_at (l : List Int) (i : Nat) (h : i < l.length) : rd l (i : Int) = l[i] := rd_nat l i h
theorem has_loop (l : List Int) (v : Int) (hl : l.length ≤ 1000) : ∀ (d i k : Nat), i + d = l.length → d < k → spec_l00Has.l0 k l v i = some (decide (v ∈ l.drop i))
  | 0, i, k, hi, hk => by
    cases k with
    | zero => omega
    | succ k => rw [spec_l00Has.l0, if_neg (by omega), List.drop_of_length_le (by omega)]; simp
  | d + 1, i, k, hi, hk => by
    cases k with
    | zero => omega
    | succ k =>
      have ih := has_loop l v hl d (i + 1) k (by omega) (by omega)
      have hlt : i < l.length := by omega
      rw [spec_l00Has.l0, if_pos (by omega), if_pos (by omega), rd_at l i hlt, List.drop_eq_getElem_cons hlt, w64 (by omega) (by omega)]
      by_cases e : l[i] = v
      · rw [if_pos e]; simp [e]
      · rw [if_neg e]
        rw [Int.natCast_add, Int.natCast_one] at ih
        rw [ih]
        congr 1
        rw [decide_eq_decide, List.mem_cons]
        constructor
        · exact .inr
        · rintro (h | h)
          · exact absurd h.symm e
          · exact h
theorem has_eq (l : List Int) (v : Int) (hl : l.length ≤ 1000) (k : Nat) (hk : l.length < k) : spec_l00Has.f k l v = some (decide (v ∈ l)) := by
  have := has_loop l v hl l.length 0 k (by omega) hk
  simpa [spec_l00Has.f] using this
theorem put_loop (l : List Int) (v : Int) (hv : v ∉ l) (hl : l.length ≤ 1000) : ∀ (d i k : Nat) (out : List Int) (done : Bool), i + d = l.length → out.length ≤ 2 * i + 2 → 2 * d + 1 < k →
    ∃ r, spec_l00Put.l0 k l v out done i = some r ∧ r.length = out.length + d + (if done = true then 0 else 1) ∧ ∀ x, x ∈ r ↔ x ∈ out ∨ x ∈ l.drop i ∨ (done = false ∧ x = v)
  | 0, i, k, out, done, hi, ho, hk => by
    cases k with
    | zero => omega
    | succ k =>
      rw [spec_l00Put.l0, if_neg (by omega), List.drop_of_length_le (by omega)]
      cases done with
      | true => exact ⟨out, by simp, by simp, by simp⟩
      | false => exact ⟨out ++ [v], by rw [if_neg (by decide), if_pos (by omega)], by simp, by simp⟩
  | d + 1, i, k, out, done, hi, ho, hk => by
    cases k with
    | zero => omega
    | succ k =>
    cases k with
    | zero => omega
    | succ k =>
      have hlt : i < l.length := by omega
      have hne : l[i] ≠ v := fun e => hv (e ▸ List.getElem_mem hlt)
      rw [spec_l00Put.l0, if_pos (by omega), List.drop_eq_getElem_cons hlt]
      cases done with
      | true =>
        obtain ⟨r, h1, h2, h3⟩ := put_loop l v hv hl d (i + 1) k (out ++ [l[i]]) true (by omega) (by simp; omega) (by omega)
        refine ⟨r, ?_, by rw [h2]; simp; omega, fun x => by rw [h3]; simp only [List.mem_append, List.mem_cons, List.not_mem_nil, or_false, List.mem_singleton]; grind⟩
        rw [if_pos rfl, spec_l00Put.j1, if_neg (by decide), if_pos (by omega), if_pos (by omega), if_pos (by omega), rd_at l i hlt, w64 (by omega) (by omega)]
        rw [Int.natCast_add, Int.natCast_one] at h1
        exact h1
      | false =>
        rw [if_neg (by decide), if_pos (by omega), rd_at l i hlt, spec_l00Put.j1]
        by_cases hge : l[i] ≥ v
        · obtain ⟨r, h1, h2, h3⟩ := put_loop l v hv hl d (i + 1) k (out ++ [v] ++ [l[i]]) true (by omega) (by simp; omega) (by omega)
          refine ⟨r, ?_, by rw [h2]; simp; omega, fun x => by rw [h3]; simp only [List.mem_append, List.mem_cons, List.not_mem_nil, or_false, List.mem_singleton]; grind⟩
          rw [decide_eq_true hge, if_pos rfl, if_pos (by omega), if_pos (by omega), rd_at l i hlt, if_pos (by omega), if_pos (by omega), Option.bind_some, if_pos (by simp; omega), w64 (by omega) (by omega)]
          rw [Int.natCast_add, Int.natCast_one] at h1
          exact h1
        · obtain ⟨r, h1, h2, h3⟩ := put_loop l v hv hl d (i + 1) k (out ++ [l[i]]) false (by omega) (by simp; omega) (by omega)
          refine ⟨r, ?_, by rw [h2]; simp; omega, fun x => by rw [h3]; simp only [List.mem_append, List.mem_cons, List.not_mem_nil, or_false, List.mem_singleton]; grind⟩
          rw [decide_eq_false hge, if_neg (by decide), if_pos (by omega), if_pos (by omega), if_pos (by omega), rd_at l i hlt, w64 (by omega) (by omega)]
          rw [Int.natCast_add, Int.natCast_one] at h1
          exact h1
theorem put_eq (l : List Int) (v : Int) (hv : v ∉ l) (hl : l.length ≤ 1000) (k : Nat) (hk : 2 * l.length + 1 < k) : ∃ r, spec_l00Put.f k l v = some r ∧ r.length = l.length + 1 ∧ ∀ x, x ∈ r ↔ x ∈ l ∨ x = v := by
  obtain ⟨r, h1, h2, h3⟩ := put_loop l v hv hl l.length 0 k [] false (by omega) (by simp) hk
  exact ⟨r, h1, by rw [h2]; simp, fun x => by rw [h3]; simp⟩
end Go.Proofs.Ytojpibpjieanhaa.X
end
section
-- Written by a program of this session out of the kit's print of the loaded functions: a plain function of a Go function, and its contract.
namespace Go.Proofs.Ytojpibpjieanhaa.X
open Go.RowKit Go.Proofs.YtojpibpjieanhaaW.PrintWords Go.Proofs.YtojpibpjieanhaaW.PrintLast Go.Proofs.YtojpibpjieanhaaW.PrintMore
attribute [local go_sem] max2_int min2_int max_two min_two max_three min_three max_four min_four   -- for this text's walks alone
set_option linter.unusedVariables false
set_option linter.unusedSimpArgs false
def spec_l00In.f (a0 : Int) (a1 : Int) (a2 : Int) : Option (Bool) := if a0 ≥ a1 then (some (decide (a0 ≤ a2))) else (some false)
set_option maxHeartbeats 8000000 in
set_option maxRecDepth 100000 in
theorem spec_l00In.calls (a0 : Int) (a1 : Int) (a2 : Int) (r : Bool) (w : World) (h : spec_l00In.f a0 a1 a2 = some r) :
  Calls Try.prog 45 #[.int .i64 a0, .int .i64 a1, .int .i64 a2] w fun e w' => e = .returned (.bool r) ∧ Drawn0 w w' := by
 have H : (if a0 ≥ a1 then (some (decide (a0 ≤ a2))) else (some false)) = some r := h
 clear h
 by_cases c4 : a0 ≥ a1
 ·rw [if_pos c4] at H
  have c4b0 : decide (a1 ≤ a0) = true := decide_eq_true c4
  clear c4
  obtain rfl := Option.some.inj H
  go_enter Try.func45, Try.ntmps45
  go_wp2
  go_ret
  exact ⟨by first | rfl | (simp; done) | (simp [*]; done), by repeat (first | exact Drawn0.refl _ | apply Drawn0.step)⟩
 ·rw [if_neg c4] at H
  have c4b0 : decide (a1 ≤ a0) = false := decide_eq_false c4
  clear c4
  obtain rfl := Option.some.inj H
  go_enter Try.func45, Try.ntmps45
  go_wp2
  go_ret
  exact ⟨by first | rfl | (simp; done) | (simp [*]; done), by repeat (first | exact Drawn0.refl _ | apply Drawn0.step)⟩
end Go.Proofs.Ytojpibpjieanhaa.X
end
section
-- Written by a program of this session out of the kit's print of the loaded functions: a plain function of a Go function, and its contract.
namespace Go.Proofs.Ytojpibpjieanhaa.X
open Go.RowKit Go.Proofs.YtojpibpjieanhaaW.PrintWords Go.Proofs.YtojpibpjieanhaaW.PrintLast Go.Proofs.YtojpibpjieanhaaW.PrintMore
attribute [local go_sem] max2_int min2_int max_two min_two max_three min_three max_four min_four   -- for this text's walks alone
set_option linter.unusedVariables false
set_option linter.unusedSimpArgs false
def IsS36 (w0 W : World) (g : Nat) (f0 : List Int) (f1 : List (S55)) : Prop := ∃ A0 c0, ∃ A1 c1, W.heap[g]? = some (.cells #[.slice A0 f0.length c0, .slice A1 f1.length c1] 36 (0, 0)) ∧ w0.heap.size ≤ g ∧ Kd.C (Kd.int .i64) w0 A0 f0.length f0 ∧ Kd.C k55 w0 A1 f1.length f1
theorem IsS36.grown {w0 W : World} {g : Nat} {f0 : List Int} {f1 : List (S55)} {W1 : World} {row : Option Nat} (h : IsS36 w0 W g f0 f1) (hw : W.grownBy W1 row) (hne : some g ≠ row) : IsS36 w0 W1 g f0 f1 := by
 obtain ⟨A0, c0, A1, c1, hb, hg, hr0, hr1⟩ := h
 exact ⟨A0, c0, A1, c1, blk_grown hb hw hne, hg, hr0, hr1⟩
theorem IsS36.kept {w0 W : World} {g : Nat} {f0 : List Int} {f1 : List (S55)} {W1 : World} {S : Nat → Prop} (h : IsS36 w0 W g f0 f1) (hk : Kept W W1 S) (hne : ¬ S g) : IsS36 w0 W1 g f0 f1 := by
 obtain ⟨A0, c0, A1, c1, hb, hg, hr0, hr1⟩ := h
 exact ⟨A0, c0, A1, c1, blk_kept hb hk hne, hg, hr0, hr1⟩
theorem IsS36.below {w0 W : World} {g : Nat} {f0 : List Int} {f1 : List (S55)} {W1 : World} (h : IsS36 w0 W g f0 f1) (hw : Below W.heap.size W W1) : IsS36 w0 W1 g f0 f1 := h.grown (grown_of_below hw none) (by simp)
theorem IsS36.alloc {w0 W : World} {g : Nat} {f0 : List Int} {f1 : List (S55)} (h : IsS36 w0 W g f0 f1) (o : Obj) : IsS36 w0 (W.alloc o) g f0 f1 := h.below (below_alloc (Below.refl _ _) o)
theorem IsS36.drewN {w0 W : World} {g : Nat} {f0 : List Int} {f1 : List (S55)} (h : IsS36 w0 W g f0 f1) (m : Nat) : IsS36 w0 (W.drewN m) g f0 f1 := h
theorem IsS36.drew {w0 W : World} {g : Nat} {f0 : List Int} {f1 : List (S55)} (h : IsS36 w0 W g f0 f1) : IsS36 w0 W.drew g f0 f1 := h
theorem IsS36.at_ {w0 W : World} {g : Nat} {f0 : List Int} {f1 : List (S55)} {w' : World} {m : Nat} (hq : W.drewN m = w') (h : IsS36 w0 W g f0 f1) : IsS36 w0 w' g f0 f1 := by subst hq; exact IsS36.drewN h m
theorem IsS36.apart {w0 W : World} {g : Nat} {f0 : List Int} {f1 : List (S55)} {α : Type} {d : Kd α} {e : Nat} {base : Nat} {ok : Nat → Prop} {v : Value} {xs : List α} (h : IsS36 w0 W g f0 f1) (ho : d.R e W base ok v xs) (ht : ∀ q, q ∈ e :: d.E → q ≠ 36) : d.R e W base (fun k => ok k ∧ k ≠ g) v xs := by
 obtain ⟨A0, c0, A1, c1, hb, hg, hr0, hr1⟩ := h
 exact Kd.R_types ho hb ht
theorem IsS36.own_ne {w0 W : World} {g : Nat} {f0 : List Int} {f1 : List (S55)} {α : Type} {d : Kd α} {e : Nat} {base : Nat} {ok : Nat → Prop} {v : Value} {xs : List α} (h : IsS36 w0 W g f0 f1) (ho : d.R e W base ok v xs) (ht : e ≠ 36) : some g ≠ v.ownBlock := by
 obtain ⟨A0, c0, A1, c1, hb, hg, hr0, hr1⟩ := h
 exact Kd.R_ne ho hb ht
theorem IsS36.lt {w0 W : World} {g : Nat} {f0 : List Int} {f1 : List (S55)} (h : IsS36 w0 W g f0 f1) : g < W.heap.size := by
 obtain ⟨A0, c0, A1, c1, hb, hg, hr0, hr1⟩ := h
 exact blk_lt hb
theorem IsS36.ge {w0 W : World} {g : Nat} {f0 : List Int} {f1 : List (S55)} (h : IsS36 w0 W g f0 f1) : w0.heap.size ≤ g := by
 obtain ⟨A0, c0, A1, c1, hb, hg, hr0, hr1⟩ := h
 exact hg
theorem IsS36.far {w0 W : World} {g : Nat} {f0 : List Int} {f1 : List (S55)} {p : Addr} (h : IsS36 w0 W g f0 f1) (hne : g ≠ p.block) (u : Value) : IsS36 w0 (W.setCell p u) g f0 f1 := by
 obtain ⟨A0, c0, A1, c1, hb, hg, hr0, hr1⟩ := h
 exact ⟨A0, c0, A1, c1, blk_far hb hne u, hg, hr0, hr1⟩
theorem cellS36_0 {W : World} {g : Nat} {A0 : Option Addr} {c0 : Nat} {A1 : Option Addr} {c1 : Nat} {f0 : List Int} {f1 : List (S55)} (h : W.heap[g]? = some (.cells #[.slice A0 f0.length c0, .slice A1 f1.length c1] 36 (0, 0))) : W.cell? ⟨g, 0, none⟩ = some (.slice A0 f0.length c0) := (blk_cell h 0).trans rfl
theorem cellS36_1 {W : World} {g : Nat} {A0 : Option Addr} {c0 : Nat} {A1 : Option Addr} {c1 : Nat} {f0 : List Int} {f1 : List (S55)} (h : W.heap[g]? = some (.cells #[.slice A0 f0.length c0, .slice A1 f1.length c1] 36 (0, 0))) : W.cell? ⟨g, 1, none⟩ = some (.slice A1 f1.length c1) := (blk_cell h 1).trans rfl
theorem IsS36.new (w0 W : World) (A0 : Option Addr) (c0 : Nat) (A1 : Option Addr) (c1 : Nat) (f0 : List Int) (f1 : List (S55)) (hB : Below w0.heap.size w0 W) (hr0 : Kd.C (Kd.int .i64) w0 A0 f0.length f0) (hr1 : Kd.C k55 w0 A1 f1.length f1) : IsS36 w0 (W.alloc (.cells #[.slice A0 f0.length c0, .slice A1 f1.length c1] 36)) W.heap.size f0 f1 := ⟨A0, c0, A1, c1, by simpa using heap_alloc_new W _, hB.size, hr0, hr1⟩
mutual
def spec_l08Form.j0 : Nat → Int → Bool → List Int → List (S55) → Option (Bool)
 | 0, _, _, _, _ => none
 | k + 1, x3, x22, x1000, x1001 => if x22 = true then (some false) else (spec_l08Form.l0 k x3 0 x1000 x1001)
def spec_l08Form.l0 : Nat → Int → Int → List Int → List (S55) → Option (Bool)
 | 0, _, _, _, _ => none
 | k + 1, x3, x4, x1000, x1001 => if x4 < (x1000.length : Int) then (if 0 ≤ x4 then ((spec_l00In.f (rd x1000 x4) 0 100).bind fun t175 => (if t175 = true then (spec_l08Form.l0 k x3 (wrap64 (x4 + 1)) x1000 x1001) else (some false))) else (none)) else (spec_l08Form.l1 k x3 0 x1000 x1001)
def spec_l08Form.l1 : Nat → Int → Int → List Int → List (S55) → Option (Bool)
 | 0, _, _, _, _ => none
 | k + 1, x3, x5, x1000, x1001 => if x5 < (x1001.length : Int) then (if 0 ≤ x5 then ((spec_l00In.f ((rd_T55 x1001 x5).f0) 0 (wrap64 (x3 - 1))).bind fun t178 => (if t178 = true then ((spec_l00In.f ((rd_T55 x1001 x5).f1) 0 (wrap64 (x3 - 1))).bind fun t179 => (if t179 = true then ((spec_l00In.f ((rd_T55 x1001 x5).f2) 0 20).bind fun t180 => (if t180 = true then (spec_l08Form.l1 k x3 (wrap64 (x5 + 1)) x1000 x1001) else (some false))) else (some false))) else (some false))) else (none)) else (some true)
end
def spec_l08Form.f (k : Nat) (s0_0 : List Int) (s0_1 : List (S55)) : Option (Bool) := (spec_l00In.f (s0_0.length : Int) 1 8).bind fun t173 => (if t173 = true then (spec_l08Form.j0 k (s0_0.length : Int) (decide ((s0_1.length : Int) > 16)) s0_0 s0_1) else (spec_l08Form.j0 k (s0_0.length : Int) true s0_0 s0_1))
theorem spec_l08Form.mono_l : ∀ k, (∀ y0 y1 y2 y3, LeO (spec_l08Form.j0 k y0 y1 y2 y3) (spec_l08Form.j0 (k + 1) y0 y1 y2 y3)) ∧ (∀ y0 y1 y2 y3, LeO (spec_l08Form.l0 k y0 y1 y2 y3) (spec_l08Form.l0 (k + 1) y0 y1 y2 y3)) ∧ (∀ y0 y1 y2 y3, LeO (spec_l08Form.l1 k y0 y1 y2 y3) (spec_l08Form.l1 (k + 1) y0 y1 y2 y3))
 | 0 => ⟨fun _ _ _ _ r h => by simp [spec_l08Form.j0] at h, fun _ _ _ _ r h => by simp [spec_l08Form.l0] at h, fun _ _ _ _ r h => by simp [spec_l08Form.l1] at h⟩
 | k + 1 => by
  obtain ⟨ih0, ih1, ih2⟩ := spec_l08Form.mono_l k
  refine ⟨?_, ?_, ?_⟩
  ·intro y0 y1 y2 y3
   unfold spec_l08Form.j0
   repeat' first
   | (with_reducible exact ih0 _ _ _ _)
   | (with_reducible exact ih1 _ _ _ _)
   | (with_reducible exact ih2 _ _ _ _)
   | (with_reducible exact LeO.refl _)
   | (with_reducible exact LeO.none _)
   | (with_reducible refine LeO.ite ?_ ?_)
   | (with_reducible refine LeO.bind ?_ (fun _ => ?_))
   | exact ih0 _ _ _ _
   | exact ih1 _ _ _ _
   | exact ih2 _ _ _ _
   | exact LeO.none _
   | refine LeO.ite ?_ ?_
   | refine LeO.bind ?_ (fun _ => ?_)
  ·intro y0 y1 y2 y3
   unfold spec_l08Form.l0
   repeat' first
   | (with_reducible exact ih0 _ _ _ _)
   | (with_reducible exact ih1 _ _ _ _)
   | (with_reducible exact ih2 _ _ _ _)
   | (with_reducible exact LeO.refl _)
   | (with_reducible exact LeO.none _)
   | (with_reducible refine LeO.ite ?_ ?_)
   | (with_reducible refine LeO.bind ?_ (fun _ => ?_))
   | exact ih0 _ _ _ _
   | exact ih1 _ _ _ _
   | exact ih2 _ _ _ _
   | exact LeO.none _
   | refine LeO.ite ?_ ?_
   | refine LeO.bind ?_ (fun _ => ?_)
  ·intro y0 y1 y2 y3
   unfold spec_l08Form.l1
   repeat' first
   | (with_reducible exact ih0 _ _ _ _)
   | (with_reducible exact ih1 _ _ _ _)
   | (with_reducible exact ih2 _ _ _ _)
   | (with_reducible exact LeO.refl _)
   | (with_reducible exact LeO.none _)
   | (with_reducible refine LeO.ite ?_ ?_)
   | (with_reducible refine LeO.bind ?_ (fun _ => ?_))
   | exact ih0 _ _ _ _
   | exact ih1 _ _ _ _
   | exact ih2 _ _ _ _
   | exact LeO.none _
   | refine LeO.ite ?_ ?_
   | refine LeO.bind ?_ (fun _ => ?_)
theorem spec_l08Form.mono : ∀ a0 a1 k, LeO (spec_l08Form.f k a0 a1) (spec_l08Form.f (k + 1) a0 a1) := by
 intro a0 a1 k
 obtain ⟨ih0, ih1, ih2⟩ := spec_l08Form.mono_l k
 unfold spec_l08Form.f
 repeat' first
   | (with_reducible exact ih0 _ _ _ _)
   | (with_reducible exact ih1 _ _ _ _)
   | (with_reducible exact ih2 _ _ _ _)
   | (with_reducible exact LeO.refl _)
   | (with_reducible exact LeO.none _)
   | (with_reducible refine LeO.ite ?_ ?_)
   | (with_reducible refine LeO.bind ?_ (fun _ => ?_))
   | exact ih0 _ _ _ _
   | exact ih1 _ _ _ _
   | exact ih2 _ _ _ _
   | exact LeO.none _
   | refine LeO.ite ?_ ?_
   | refine LeO.bind ?_ (fun _ => ?_)
set_option maxHeartbeats 8000000 in
set_option maxRecDepth 100000 in
theorem spec_l08Form.calls (k : Nat) (g : Nat) (s0_0 : List Int) (s0_1 : List (S55)) (r : Bool) (w0 w : World) (hI : IsS36 w0 w g s0_0 s0_1) (hB : Below w0.heap.size w0 w) (h : spec_l08Form.f k s0_0 s0_1 = some r) :
  Calls Try.prog 78 #[.pointer (some ⟨g, 0, none⟩)] w fun e w' => e = .returned (.bool r) ∧ IsS36 w0 w' g s0_0 s0_1 ∧ Below w0.heap.size w0 w' ∧ KeepBut w w' g none := by
 have hu55 := Try.underlying55
 have HI0 := Aside0.mk hI
 have HK := Aside0.mk (KeepBut.refl w g none)
 have HL := Aside0.mk hB.size
 clear hI
 have HW0 := Aside0.mk hB.size
 have HB := Aside0.mk hB
 clear hB
 have H : ((spec_l00In.f (s0_0.length : Int) 1 8).bind fun t173 => (if t173 = true then (spec_l08Form.j0 k (s0_0.length : Int) (decide ((s0_1.length : Int) > 16)) s0_0 s0_1) else (spec_l08Form.j0 k (s0_0.length : Int) true s0_0 s0_1))) = some r := h
 clear h
 have HC2 := Aside0.mk H
 clear H
 obtain ⟨ASz3_0, cSz3_0, ASz3_1, cSz3_1, HGz3, hgz3, HSz3_0, HSz3_1⟩ := HI0.out
 have hcz3_0 := cellS36_0 HGz3
 have hcz3_1 := cellS36_1 HGz3
 clear HGz3 hgz3
 go_enter Try.func78, Try.ntmps78
 go_upto_region 2 with (fail)
 go_cut [22] (fun v22 wc => ∃ (kq : Nat) (x22_1 : Bool), v22 = .bool x22_1 ∧ Aside0 (spec_l08Form.j0 kq (s0_0.length : Int) x22_1 s0_0 s0_1 = some r) ∧ Aside0 (kq ≤ k) ∧ Aside0 (IsS36 w0 wc g s0_0 s0_1) ∧ Aside0 (KeepBut w wc g none) ∧ Aside0 (Below w0.heap.size w0 wc))
 case first =>
  have H := HC2.out
  clear HC2
  replace H := Option.bind_eq_some_iff.mp H
  obtain ⟨t173, A40, H⟩ := H
  replace H : (if t173 = true then (spec_l08Form.j0 k (s0_0.length : Int) (decide ((s0_1.length : Int) > 16)) s0_0 s0_1) else (spec_l08Form.j0 k (s0_0.length : Int) true s0_0 s0_1)) = some r := H
  have A4 := Aside0.mk A40
  clear A40
  by_cases c5 : t173 = true
  ·subst c5
   have H1 : (spec_l08Form.j0 k (s0_0.length : Int) (decide ((s0_1.length : Int) > 16)) s0_0 s0_1) = some r := by rw [if_pos rfl] at H; exact H
   clear H
   have H := H1
   clear H1
   have H' := Aside0.mk H
   clear H
   go_wp2_with (first | ((with_reducible refine gate_callee (f := 45) rfl ?_); refine goesL_ (some 13) rfl rfl Try.func45 (by kernel_rfl) rfl #[.int .i64 (s0_0.length : Int), .int .i64 1, .int .i64 8] rfl (by (try simp only [List.map_toArray, List.map_cons, List.map_nil]); first | done | rfl | (simp only [List.length_drop, List.length_take]; rfl)) ?_; (with_reducible refine (spec_l00In.calls (s0_0.length : Int) 1 8 true _ A4.out).mono ?_); rintro e w' ⟨rfl, ⟨nd, rfl⟩⟩; refine ⟨_, rfl, ?_⟩; obtain ⟨ASz6_0, cSz6_0, ASz6_1, cSz6_1, HGz6, hgz6, HSz6_0, HSz6_1⟩ := HI0.out; have hcz6_0 := cellS36_0 HGz6; have hcz6_1 := cellS36_1 HGz6; clear HGz6 hgz6))
   go_meet
   case rel => exact ⟨_, (decide ((s0_1.length : Int) > 16)), (by first | rfl | (simp; done) | (simp [*]; done)), H', ⟨by first | omega | exact Nat.le_refl _⟩, ⟨by repeat (first | (with_reducible first | exact HI0.out | apply IsS36.alloc | apply IsS36.drewN | apply IsS36.drew) | exact HI0.out)⟩, ⟨by repeat (first | (with_reducible first | exact HK.out | apply KeepBut.set_ | apply keep_drewN | apply keep_drew | apply keep_alloc) | exact HK.out)⟩, ⟨by repeat (first | (with_reducible first | exact HB.out | apply below_alloc | apply pw_below_drewN | apply below_drew1 | refine below_set ?_ (IsS36.ge HI0.out)) | exact HB.out)⟩⟩
  ·replace c5 := Bool.eq_false_iff.mpr c5
   subst c5
   have H1 : (spec_l08Form.j0 k (s0_0.length : Int) true s0_0 s0_1) = some r := by rw [if_neg (show ¬ (false = true) by decide)] at H; exact H
   clear H
   have H := H1
   clear H1
   have H' := Aside0.mk H
   clear H
   go_wp2_with (first | ((with_reducible refine gate_callee (f := 45) rfl ?_); refine goesL_ (some 13) rfl rfl Try.func45 (by kernel_rfl) rfl #[.int .i64 (s0_0.length : Int), .int .i64 1, .int .i64 8] rfl (by (try simp only [List.map_toArray, List.map_cons, List.map_nil]); first | done | rfl | (simp only [List.length_drop, List.length_take]; rfl)) ?_; (with_reducible refine (spec_l00In.calls (s0_0.length : Int) 1 8 false _ A4.out).mono ?_); rintro e w' ⟨rfl, ⟨nd, rfl⟩⟩; refine ⟨_, rfl, ?_⟩))
   go_meet
   case rel => exact ⟨_, (true), (by first | rfl | (simp; done) | (simp [*]; done)), H', ⟨by first | omega | exact Nat.le_refl _⟩, ⟨by repeat (first | (with_reducible first | exact HI0.out | apply IsS36.alloc | apply IsS36.drewN | apply IsS36.drew) | exact HI0.out)⟩, ⟨by repeat (first | (with_reducible first | exact HK.out | apply KeepBut.set_ | apply keep_drewN | apply keep_drew | apply keep_alloc) | exact HK.out)⟩, ⟨by repeat (first | (with_reducible first | exact HB.out | apply below_alloc | apply pw_below_drewN | apply below_drew1 | refine below_set ?_ (IsS36.ge HI0.out)) | exact HB.out)⟩⟩
 case rest =>
  clear HC2
  try clear p2
  try clear c4
  try clear c5
  try clear hcz3_0
  try clear hcz3_1
  try clear hcz6_0
  try clear hcz6_1
  obtain ⟨kq, x22_1, rfl, HA, HJ1, HI0, HK, HB⟩ := hcut
  cases kq with
  | zero => exact absurd HA.out (by simp [spec_l08Form.j0])
  | succ kj1 =>
   have H := HA.out
   clear HA
   simp only [spec_l08Form.j0] at H
   by_cases c7 : x22_1 = true
   ·subst c7
    have H1 : (some false) = some r := by rw [if_pos rfl] at H; exact H
    clear H
    have H := H1
    clear H1
    obtain rfl := Option.some.inj H
    go_wp2
    go_ret
    exact ⟨by first | rfl | (simp [errW_none, errW_some] <;> rfl) | (simp [*, errW_none, errW_some] <;> rfl), by repeat (first | (with_reducible first | exact HI0.out | apply IsS36.alloc | apply IsS36.drewN | apply IsS36.drew) | exact HI0.out), by repeat (first | (with_reducible first | exact HB.out | apply below_alloc | apply pw_below_drewN | apply below_drew1 | refine below_set ?_ (IsS36.ge HI0.out)) | exact HB.out), by repeat (first | (with_reducible first | exact HK.out | apply KeepBut.set_ | apply keep_drewN | apply keep_drew | apply keep_alloc) | exact HK.out)⟩
   ·replace c7 := Bool.eq_false_iff.mpr c7
    subst c7
    have H1 : (spec_l08Form.l0 kj1 (s0_0.length : Int) 0 s0_0 s0_1) = some r := by rw [if_neg (show ¬ (false = true) by decide)] at H; exact H
    clear H
    have H := H1
    clear H1
    have H' := Aside0.mk H
    clear H
    go_wp2
    go_loopg [4] kj1 (fun kq v4 w' => ∃ (x4_2 : Int), v4 = .int .i64 x4_2 ∧ Aside0 (spec_l08Form.l0 kq (s0_0.length : Int) x4_2 s0_0 s0_1 = some r) ∧ Aside0 (kq ≤ kj1) ∧ Aside0 (IsS36 w0 w' g s0_0 s0_1) ∧ Aside0 (KeepBut w w' g none) ∧ Aside0 (Below w0.heap.size w0 w'))
    case atStart => exact ⟨(0), (by first | rfl | (simp; done) | (simp [*]; done)), H', ⟨Nat.le_refl _⟩, ⟨by repeat (first | (with_reducible first | exact HI0.out | apply IsS36.alloc | apply IsS36.drewN | apply IsS36.drew) | exact HI0.out)⟩, ⟨by repeat (first | (with_reducible first | exact HK.out | apply KeepBut.set_ | apply keep_drewN | apply keep_drew | apply keep_alloc) | exact HK.out)⟩, ⟨by repeat (first | (with_reducible first | exact HB.out | apply below_alloc | apply pw_below_drewN | apply below_drew1 | refine below_set ?_ (IsS36.ge HI0.out)) | exact HB.out)⟩⟩
    case round =>
     clear H'
     try clear p2
     try clear c4
     try clear c5
     try clear c7
     try clear hcz3_0
     try clear hcz3_1
     try clear hcz6_0
     try clear hcz6_1
     try clear p2
     obtain ⟨x4_2, rfl, HA, HK2, HI0, HK, HB⟩ := hrel
     cases gk with
     | zero => exact absurd HA.out (by simp [spec_l08Form.l0])
     | succ k2 =>
      have H := HA.out
      clear HA
      simp only [spec_l08Form.l0] at H
      by_cases c8 : x4_2 < (s0_0.length : Int)
      ·rw [if_pos c8] at H
       have c8b0 : decide (x4_2 < (s0_0.length : Int)) = true := decide_eq_true c8
       clear c8
       by_cases c9 : 0 ≤ x4_2
       ·rw [if_pos c9] at H
        have c9b0 : decide (0 ≤ x4_2) = true := decide_eq_true c9
        clear c9
        replace H := Option.bind_eq_some_iff.mp H
        obtain ⟨t175, A100, H⟩ := H
        replace H : (if t175 = true then (spec_l08Form.l0 k2 (s0_0.length : Int) (wrap64 (x4_2 + 1)) s0_0 s0_1) else (some false)) = some r := H
        have A10 := Aside0.mk A100
        clear A100
        by_cases c11 : t175 = true
        ·subst c11
         have H1 : (spec_l08Form.l0 k2 (s0_0.length : Int) (wrap64 (x4_2 + 1)) s0_0 s0_1) = some r := by rw [if_pos rfl] at H; exact H
         clear H
         have H := H1
         clear H1
         have H' := Aside0.mk H
         clear H
         obtain ⟨ASz12_0, cSz12_0, ASz12_1, cSz12_1, HGz12, hgz12, HSz12_0, HSz12_1⟩ := HI0.out
         have hcz12_0 := cellS36_0 HGz12
         have hcz12_1 := cellS36_1 HGz12
         clear HGz12 hgz12
         have p174 : 0 ≤ (x4_2 : Int) := of_decide_eq_true (by first | (with_reducible assumption) | assumption)
         have q174 : x4_2 < (s0_0.length : Int) := of_decide_eq_true (by first | (with_reducible assumption) | assumption)
         obtain ⟨ad174, e174, hx174_0⟩ := Kd.at_int HSz12_0 x4_2 p174 q174
         cases e174
         replace hx174_0 := pw_cell_below HB.out hx174_0
         replace p174 := eq_true p174
         replace q174 := eq_true q174
         go_wp2_with (first | ((with_reducible refine gate_callee (f := 45) rfl ?_); refine goesL_ (some 39) rfl rfl Try.func45 (by kernel_rfl) rfl #[.int .i64 (rd s0_0 x4_2), .int .i64 0, .int .i64 100] rfl (by (try simp only [List.map_toArray, List.map_cons, List.map_nil]); first | done | rfl | (simp only [List.length_drop, List.length_take]; rfl)) ?_; (with_reducible refine (spec_l00In.calls (rd s0_0 x4_2) 0 100 true _ A10.out).mono ?_); rintro e w' ⟨rfl, ⟨nd, rfl⟩⟩; refine ⟨_, rfl, ?_⟩))
         go_roundg k2
         case measure => have := HJ1.out; have := HK2.out; omega
         case rel => exact ⟨(wrap64 (x4_2 + 1)), (by first | rfl | (simp; done) | (simp [*]; done)), H', ⟨by have := HJ1.out; have := HK2.out; omega⟩, ⟨by repeat (first | (with_reducible first | exact HI0.out | apply IsS36.alloc | apply IsS36.drewN | apply IsS36.drew) | exact HI0.out)⟩, ⟨by repeat (first | (with_reducible first | exact HK.out | apply KeepBut.set_ | apply keep_drewN | apply keep_drew | apply keep_alloc) | exact HK.out)⟩, ⟨by repeat (first | (with_reducible first | exact HB.out | apply below_alloc | apply pw_below_drewN | apply below_drew1 | refine below_set ?_ (IsS36.ge HI0.out)) | exact HB.out)⟩⟩
        ·replace c11 := Bool.eq_false_iff.mpr c11
         subst c11
         have H1 : (some false) = some r := by rw [if_neg (show ¬ (false = true) by decide)] at H; exact H
         clear H
         have H := H1
         clear H1
         obtain rfl := Option.some.inj H
         obtain ⟨ASz13_0, cSz13_0, ASz13_1, cSz13_1, HGz13, hgz13, HSz13_0, HSz13_1⟩ := HI0.out
         have hcz13_0 := cellS36_0 HGz13
         have hcz13_1 := cellS36_1 HGz13
         clear HGz13 hgz13
         have p174 : 0 ≤ (x4_2 : Int) := of_decide_eq_true (by first | (with_reducible assumption) | assumption)
         have q174 : x4_2 < (s0_0.length : Int) := of_decide_eq_true (by first | (with_reducible assumption) | assumption)
         obtain ⟨ad174, e174, hx174_0⟩ := Kd.at_int HSz13_0 x4_2 p174 q174
         cases e174
         replace hx174_0 := pw_cell_below HB.out hx174_0
         replace p174 := eq_true p174
         replace q174 := eq_true q174
         go_wp2_with (first | ((with_reducible refine gate_callee (f := 45) rfl ?_); refine goesL_ (some 39) rfl rfl Try.func45 (by kernel_rfl) rfl #[.int .i64 (rd s0_0 x4_2), .int .i64 0, .int .i64 100] rfl (by (try simp only [List.map_toArray, List.map_cons, List.map_nil]); first | done | rfl | (simp only [List.length_drop, List.length_take]; rfl)) ?_; (with_reducible refine (spec_l00In.calls (rd s0_0 x4_2) 0 100 false _ A10.out).mono ?_); rintro e w' ⟨rfl, ⟨nd, rfl⟩⟩; refine ⟨_, rfl, ?_⟩))
         go_ret
         exact ⟨by first | rfl | (simp [errW_none, errW_some] <;> rfl) | (simp [*, errW_none, errW_some] <;> rfl), by repeat (first | (with_reducible first | exact HI0.out | apply IsS36.alloc | apply IsS36.drewN | apply IsS36.drew) | exact HI0.out), by repeat (first | (with_reducible first | exact HB.out | apply below_alloc | apply pw_below_drewN | apply below_drew1 | refine below_set ?_ (IsS36.ge HI0.out)) | exact HB.out), by repeat (first | (with_reducible first | exact HK.out | apply KeepBut.set_ | apply keep_drewN | apply keep_drew | apply keep_alloc) | exact HK.out)⟩
       ·rw [if_neg c9] at H
        exact absurd H (by simp)
      ·rw [if_neg c8] at H
       have c8b0 : decide (x4_2 < (s0_0.length : Int)) = false := decide_eq_false c8
       clear c8
       have H' := Aside0.mk H
       clear H
       obtain ⟨ASz14_0, cSz14_0, ASz14_1, cSz14_1, HGz14, hgz14, HSz14_0, HSz14_1⟩ := HI0.out
       have hcz14_0 := cellS36_0 HGz14
       have hcz14_1 := cellS36_1 HGz14
       clear HGz14 hgz14
       go_wp2
       go_loopg [5] k2 (fun kq v5 w' => ∃ (x5_3 : Int), v5 = .int .i64 x5_3 ∧ Aside0 (spec_l08Form.l1 kq (s0_0.length : Int) x5_3 s0_0 s0_1 = some r) ∧ Aside0 (kq ≤ k2) ∧ Aside0 (IsS36 w0 w' g s0_0 s0_1) ∧ Aside0 (KeepBut w w' g none) ∧ Aside0 (Below w0.heap.size w0 w'))
       case atStart => exact ⟨(0), (by first | rfl | (simp; done) | (simp [*]; done)), H', ⟨Nat.le_refl _⟩, ⟨by repeat (first | (with_reducible first | exact HI0.out | apply IsS36.alloc | apply IsS36.drewN | apply IsS36.drew) | exact HI0.out)⟩, ⟨by repeat (first | (with_reducible first | exact HK.out | apply KeepBut.set_ | apply keep_drewN | apply keep_drew | apply keep_alloc) | exact HK.out)⟩, ⟨by repeat (first | (with_reducible first | exact HB.out | apply below_alloc | apply pw_below_drewN | apply below_drew1 | refine below_set ?_ (IsS36.ge HI0.out)) | exact HB.out)⟩⟩
       case round =>
        clear H'
        try clear c1
        try clear p1
        try clear q1
        try clear hx1
        try clear p2
        try clear c4
        try clear c5
        try clear p6
        try clear c7
        try clear c8
        try clear c8b0
        try clear c9
        try clear c9b0
        try clear c11
        try clear hcz12_0
        try clear hcz12_1
        try clear hcz13_0
        try clear hcz13_1
        try clear hcz14_0
        try clear hcz14_1
        try clear hcz3_0
        try clear hcz3_1
        try clear hcz6_0
        try clear hcz6_1
        try clear hx174_0
        try clear p174
        try clear p2
        try clear q174
        obtain ⟨x5_3, rfl, HA, HK3, HI0, HK, HB⟩ := hrel
        cases gk with
        | zero => exact absurd HA.out (by simp [spec_l08Form.l1])
        | succ k3 =>
         have H := HA.out
         clear HA
         simp only [spec_l08Form.l1] at H
         by_cases c15 : x5_3 < (s0_1.length : Int)
         ·rw [if_pos c15] at H
          have c15b0 : decide (x5_3 < (s0_1.length : Int)) = true := decide_eq_true c15
          clear c15
          by_cases c16 : 0 ≤ x5_3
          ·rw [if_pos c16] at H
           have c16b0 : decide (0 ≤ x5_3) = true := decide_eq_true c16
           clear c16
           replace H := Option.bind_eq_some_iff.mp H
           obtain ⟨t178, A170, H⟩ := H
           replace H : (if t178 = true then ((spec_l00In.f ((rd_T55 s0_1 x5_3).f1) 0 (wrap64 ((s0_0.length : Int) - 1))).bind fun t179 => (if t179 = true then ((spec_l00In.f ((rd_T55 s0_1 x5_3).f2) 0 20).bind fun t180 => (if t180 = true then (spec_l08Form.l1 k3 (s0_0.length : Int) (wrap64 (x5_3 + 1)) s0_0 s0_1) else (some false))) else (some false))) else (some false)) = some r := H
           have A17 := Aside0.mk A170
           clear A170
           by_cases c18 : t178 = true
           ·subst c18
            have H1 : ((spec_l00In.f ((rd_T55 s0_1 x5_3).f1) 0 (wrap64 ((s0_0.length : Int) - 1))).bind fun t179 => (if t179 = true then ((spec_l00In.f ((rd_T55 s0_1 x5_3).f2) 0 20).bind fun t180 => (if t180 = true then (spec_l08Form.l1 k3 (s0_0.length : Int) (wrap64 (x5_3 + 1)) s0_0 s0_1) else (some false))) else (some false))) = some r := by rw [if_pos rfl] at H; exact H
            clear H
            have H := H1
            clear H1
            replace H := Option.bind_eq_some_iff.mp H
            obtain ⟨t179, A190, H⟩ := H
            replace H : (if t179 = true then ((spec_l00In.f ((rd_T55 s0_1 x5_3).f2) 0 20).bind fun t180 => (if t180 = true then (spec_l08Form.l1 k3 (s0_0.length : Int) (wrap64 (x5_3 + 1)) s0_0 s0_1) else (some false))) else (some false)) = some r := H
            have A19 := Aside0.mk A190
            clear A190
            by_cases c20 : t179 = true
            ·subst c20
             have H1 : ((spec_l00In.f ((rd_T55 s0_1 x5_3).f2) 0 20).bind fun t180 => (if t180 = true then (spec_l08Form.l1 k3 (s0_0.length : Int) (wrap64 (x5_3 + 1)) s0_0 s0_1) else (some false))) = some r := by rw [if_pos rfl] at H; exact H
             clear H
             have H := H1
             clear H1
             replace H := Option.bind_eq_some_iff.mp H
             obtain ⟨t180, A210, H⟩ := H
             replace H : (if t180 = true then (spec_l08Form.l1 k3 (s0_0.length : Int) (wrap64 (x5_3 + 1)) s0_0 s0_1) else (some false)) = some r := H
             have A21 := Aside0.mk A210
             clear A210
             by_cases c22 : t180 = true
             ·subst c22
              have H1 : (spec_l08Form.l1 k3 (s0_0.length : Int) (wrap64 (x5_3 + 1)) s0_0 s0_1) = some r := by rw [if_pos rfl] at H; exact H
              clear H
              have H := H1
              clear H1
              have H' := Aside0.mk H
              clear H
              obtain ⟨ASz23_0, cSz23_0, ASz23_1, cSz23_1, HGz23, hgz23, HSz23_0, HSz23_1⟩ := HI0.out
              have hcz23_0 := cellS36_0 HGz23
              have hcz23_1 := cellS36_1 HGz23
              clear HGz23 hgz23
              have p176 : 0 ≤ (x5_3 : Int) := of_decide_eq_true (by first | (with_reducible assumption) | assumption)
              have q176 : x5_3 < (s0_1.length : Int) := of_decide_eq_true (by first | (with_reducible assumption) | assumption)
              obtain ⟨ad176, e176, hx176_0, hx176_1, hx176_2⟩ := at_T55 HSz23_1 x5_3 p176 q176
              cases e176
              replace hx176_0 := pw_cell_below HB.out hx176_0
              replace hx176_1 := pw_cell_below HB.out hx176_1
              replace hx176_2 := pw_cell_below HB.out hx176_2
              replace p176 := eq_true p176
              replace q176 := eq_true q176
              go_wp2_with (first | ((with_reducible refine gate_dst (N := 6) rfl ?_); (try (refine gate_guard (by rfl) ?_; dsimp only)); refine box_event ?hg (N := 6) ?hd (cs := #[.int .i64 0, .int .i64 0, .int .i64 0]) (t := 55) ?hr ?_; (case hd => rfl); (case hg => rfl); (case hr => first | (go_simp; done) | (go_simp; rfl)); intro gb177 hg w24 hbox hb; have n0_ := Aside0.mk (IsS36.below (by repeat (first | (with_reducible first | exact HI0.out | apply IsS36.alloc | apply IsS36.drewN | apply IsS36.drew) | exact HI0.out)) hb); have n1_ := Aside0.mk (KeepBut.trans (by repeat (first | (with_reducible first | exact HK.out | apply KeepBut.set_ | apply keep_drewN | apply keep_drew | apply keep_alloc) | exact HK.out)) (KeepBut.of_below hb g none) (.inl rfl)); have n2_ := Aside0.mk (below_step (by repeat (first | (with_reducible first | exact HB.out | apply below_alloc | apply pw_below_drewN | apply below_drew1 | refine below_set ?_ (IsS36.ge HI0.out)) | exact HB.out)) hb); have n3_ := Aside0.mk (hbox); have n4_ := Aside0.mk ((by rw [hg]; exact (keep_size (w := w) (g := g) (row := none) (by repeat (first | (with_reducible first | exact HK.out | apply KeepBut.set_ | apply keep_drewN | apply keep_drew | apply keep_alloc) | exact HK.out))) : w.heap.size ≤ gb177)); have n5_ := Aside0.mk ((Nat.le_trans HW0.out (by rw [hg]; exact (keep_size (w := w) (g := g) (row := none) (by repeat (first | (with_reducible first | exact HK.out | apply KeepBut.set_ | apply keep_drewN | apply keep_drew | apply keep_alloc) | exact HK.out))) : w.heap.size ≤ gb177) : w0.heap.size ≤ gb177)); have n6_ := Aside0.mk ((by rw [hg]; exact Nat.ne_of_lt (IsS36.lt (show IsS36 w0 _ g s0_0 s0_1 from by repeat (first | (with_reducible first | exact HI0.out | apply IsS36.alloc | apply IsS36.drewN | apply IsS36.drew) | exact HI0.out))) : g ≠ gb177)); have n7_ := Aside0.mk ((by rw [hg]; exact Nat.ne_of_gt (IsS36.lt (show IsS36 w0 _ g s0_0 s0_1 from by repeat (first | (with_reducible first | exact HI0.out | apply IsS36.alloc | apply IsS36.drewN | apply IsS36.drew) | exact HI0.out))) : gb177 ≠ g)); clear HI0; clear HK; clear HB; have HI0 := n0_; have HK := n1_; have HB := n2_; have BK177 := n3_; have GW177 := n4_; have GE177 := n5_; have NB0_177 := n6_; have NB177_0 := n7_; clear n0_ n1_ n2_ n3_ n4_ n5_ n6_ n7_; clear hb hbox hg; have hnb25 := NB177_0.out; have hnc25 := NB0_177.out; have hcz26_0 : w24.cell? ⟨gb177, 0, none⟩ = some (.int .i64 0) := (blk_cell BK177.out 0).trans rfl; have hcz26_1 : w24.cell? ⟨gb177, 1, none⟩ = some (.int .i64 0) := (blk_cell BK177.out 1).trans rfl; have hcz26_2 : w24.cell? ⟨gb177, 2, none⟩ = some (.int .i64 0) := (blk_cell BK177.out 2).trans rfl; have hfz26_0 := blk_frozen BK177.out 0; have hfz26_1 := blk_frozen BK177.out 1; have hfz26_2 := blk_frozen BK177.out 2) | ((with_reducible refine gate_callee (f := 45) rfl ?_); refine goesL_ (some 61) rfl rfl Try.func45 (by kernel_rfl) rfl #[.int .i64 ((rd_T55 s0_1 x5_3).f0), .int .i64 0, .int .i64 (wrap64 ((s0_0.length : Int) - 1))] rfl (by (try simp only [List.map_toArray, List.map_cons, List.map_nil]); first | done | rfl | (simp only [List.length_drop, List.length_take]; rfl)) ?_; (with_reducible refine (spec_l00In.calls ((rd_T55 s0_1 x5_3).f0) 0 (wrap64 ((s0_0.length : Int) - 1)) true _ A17.out).mono ?_); rintro e w' ⟨rfl, ⟨nd, rfl⟩⟩; refine ⟨_, rfl, ?_⟩) | (go_at_call 45; (with_reducible refine (spec_l00In.calls ((rd_T55 s0_1 x5_3).f1) 0 (wrap64 ((s0_0.length : Int) - 1)) true _ A19.out).mono ?_); rintro e w' ⟨rfl, ⟨nd, rfl⟩⟩) | (go_at_call 45; (with_reducible refine (spec_l00In.calls ((rd_T55 s0_1 x5_3).f2) 0 20 true _ A21.out).mono ?_); rintro e w' ⟨rfl, ⟨nd, rfl⟩⟩))
              go_roundg k3
              case measure => have := HJ1.out; have := HK2.out; have := HK3.out; omega
              case rel => exact ⟨(wrap64 (x5_3 + 1)), (by first | rfl | (simp; done) | (simp [*]; done)), H', ⟨by have := HJ1.out; have := HK2.out; have := HK3.out; omega⟩, ⟨by repeat (first | (with_reducible first | exact HI0.out | apply IsS36.alloc | apply IsS36.drewN | apply IsS36.drew | refine IsS36.far ?_ NB0_177.out _) | exact HI0.out)⟩, ⟨by repeat (first | (with_reducible first | exact HK.out | apply KeepBut.set_ | apply keep_drewN | apply keep_drew | apply keep_alloc | refine keep_far ?_ GW177.out _) | exact HK.out)⟩, ⟨by repeat (first | (with_reducible first | exact HB.out | apply below_alloc | apply pw_below_drewN | apply below_drew1 | refine below_set ?_ (IsS36.ge HI0.out) | refine below_set ?_ GE177.out) | exact HB.out)⟩⟩
             ·replace c22 := Bool.eq_false_iff.mpr c22
              subst c22
              have H1 : (some false) = some r := by rw [if_neg (show ¬ (false = true) by decide)] at H; exact H
              clear H
              have H := H1
              clear H1
              obtain rfl := Option.some.inj H
              obtain ⟨ASz27_0, cSz27_0, ASz27_1, cSz27_1, HGz27, hgz27, HSz27_0, HSz27_1⟩ := HI0.out
              have hcz27_0 := cellS36_0 HGz27
              have hcz27_1 := cellS36_1 HGz27
              clear HGz27 hgz27
              have p176 : 0 ≤ (x5_3 : Int) := of_decide_eq_true (by first | (with_reducible assumption) | assumption)
              have q176 : x5_3 < (s0_1.length : Int) := of_decide_eq_true (by first | (with_reducible assumption) | assumption)
              obtain ⟨ad176, e176, hx176_0, hx176_1, hx176_2⟩ := at_T55 HSz27_1 x5_3 p176 q176
              cases e176
              replace hx176_0 := pw_cell_below HB.out hx176_0
              replace hx176_1 := pw_cell_below HB.out hx176_1
              replace hx176_2 := pw_cell_below HB.out hx176_2
              replace p176 := eq_true p176
              replace q176 := eq_true q176
              go_wp2_with (first | ((with_reducible refine gate_dst (N := 6) rfl ?_); (try (refine gate_guard (by rfl) ?_; dsimp only)); refine box_event ?hg (N := 6) ?hd (cs := #[.int .i64 0, .int .i64 0, .int .i64 0]) (t := 55) ?hr ?_; (case hd => rfl); (case hg => rfl); (case hr => first | (go_simp; done) | (go_simp; rfl)); intro gb177 hg w28 hbox hb; have n0_ := Aside0.mk (IsS36.below (by repeat (first | (with_reducible first | exact HI0.out | apply IsS36.alloc | apply IsS36.drewN | apply IsS36.drew) | exact HI0.out)) hb); have n1_ := Aside0.mk (KeepBut.trans (by repeat (first | (with_reducible first | exact HK.out | apply KeepBut.set_ | apply keep_drewN | apply keep_drew | apply keep_alloc) | exact HK.out)) (KeepBut.of_below hb g none) (.inl rfl)); have n2_ := Aside0.mk (below_step (by repeat (first | (with_reducible first | exact HB.out | apply below_alloc | apply pw_below_drewN | apply below_drew1 | refine below_set ?_ (IsS36.ge HI0.out)) | exact HB.out)) hb); have n3_ := Aside0.mk (hbox); have n4_ := Aside0.mk ((by rw [hg]; exact (keep_size (w := w) (g := g) (row := none) (by repeat (first | (with_reducible first | exact HK.out | apply KeepBut.set_ | apply keep_drewN | apply keep_drew | apply keep_alloc) | exact HK.out))) : w.heap.size ≤ gb177)); have n5_ := Aside0.mk ((Nat.le_trans HW0.out (by rw [hg]; exact (keep_size (w := w) (g := g) (row := none) (by repeat (first | (with_reducible first | exact HK.out | apply KeepBut.set_ | apply keep_drewN | apply keep_drew | apply keep_alloc) | exact HK.out))) : w.heap.size ≤ gb177) : w0.heap.size ≤ gb177)); have n6_ := Aside0.mk ((by rw [hg]; exact Nat.ne_of_lt (IsS36.lt (show IsS36 w0 _ g s0_0 s0_1 from by repeat (first | (with_reducible first | exact HI0.out | apply IsS36.alloc | apply IsS36.drewN | apply IsS36.drew) | exact HI0.out))) : g ≠ gb177)); have n7_ := Aside0.mk ((by rw [hg]; exact Nat.ne_of_gt (IsS36.lt (show IsS36 w0 _ g s0_0 s0_1 from by repeat (first | (with_reducible first | exact HI0.out | apply IsS36.alloc | apply IsS36.drewN | apply IsS36.drew) | exact HI0.out))) : gb177 ≠ g)); clear HI0; clear HK; clear HB; have HI0 := n0_; have HK := n1_; have HB := n2_; have BK177 := n3_; have GW177 := n4_; have GE177 := n5_; have NB0_177 := n6_; have NB177_0 := n7_; clear n0_ n1_ n2_ n3_ n4_ n5_ n6_ n7_; clear hb hbox hg; have hnb29 := NB177_0.out; have hnc29 := NB0_177.out; have hcz30_0 : w28.cell? ⟨gb177, 0, none⟩ = some (.int .i64 0) := (blk_cell BK177.out 0).trans rfl; have hcz30_1 : w28.cell? ⟨gb177, 1, none⟩ = some (.int .i64 0) := (blk_cell BK177.out 1).trans rfl; have hcz30_2 : w28.cell? ⟨gb177, 2, none⟩ = some (.int .i64 0) := (blk_cell BK177.out 2).trans rfl; have hfz30_0 := blk_frozen BK177.out 0; have hfz30_1 := blk_frozen BK177.out 1; have hfz30_2 := blk_frozen BK177.out 2) | ((with_reducible refine gate_callee (f := 45) rfl ?_); refine goesL_ (some 61) rfl rfl Try.func45 (by kernel_rfl) rfl #[.int .i64 ((rd_T55 s0_1 x5_3).f0), .int .i64 0, .int .i64 (wrap64 ((s0_0.length : Int) - 1))] rfl (by (try simp only [List.map_toArray, List.map_cons, List.map_nil]); first | done | rfl | (simp only [List.length_drop, List.length_take]; rfl)) ?_; (with_reducible refine (spec_l00In.calls ((rd_T55 s0_1 x5_3).f0) 0 (wrap64 ((s0_0.length : Int) - 1)) true _ A17.out).mono ?_); rintro e w' ⟨rfl, ⟨nd, rfl⟩⟩; refine ⟨_, rfl, ?_⟩) | (go_at_call 45; (with_reducible refine (spec_l00In.calls ((rd_T55 s0_1 x5_3).f1) 0 (wrap64 ((s0_0.length : Int) - 1)) true _ A19.out).mono ?_); rintro e w' ⟨rfl, ⟨nd, rfl⟩⟩) | (go_at_call 45; (with_reducible refine (spec_l00In.calls ((rd_T55 s0_1 x5_3).f2) 0 20 false _ A21.out).mono ?_); rintro e w' ⟨rfl, ⟨nd, rfl⟩⟩))
              go_ret
              exact ⟨by first | rfl | (simp [errW_none, errW_some] <;> rfl) | (simp [*, errW_none, errW_some] <;> rfl), by repeat (first | (with_reducible first | exact HI0.out | apply IsS36.alloc | apply IsS36.drewN | apply IsS36.drew | refine IsS36.far ?_ NB0_177.out _) | exact HI0.out), by repeat (first | (with_reducible first | exact HB.out | apply below_alloc | apply pw_below_drewN | apply below_drew1 | refine below_set ?_ (IsS36.ge HI0.out) | refine below_set ?_ GE177.out) | exact HB.out), by repeat (first | (with_reducible first | exact HK.out | apply KeepBut.set_ | apply keep_drewN | apply keep_drew | apply keep_alloc | refine keep_far ?_ GW177.out _) | exact HK.out)⟩
            ·replace c20 := Bool.eq_false_iff.mpr c20
             subst c20
             have H1 : (some false) = some r := by rw [if_neg (show ¬ (false = true) by decide)] at H; exact H
             clear H
             have H := H1
             clear H1
             obtain rfl := Option.some.inj H
             obtain ⟨ASz31_0, cSz31_0, ASz31_1, cSz31_1, HGz31, hgz31, HSz31_0, HSz31_1⟩ := HI0.out
             have hcz31_0 := cellS36_0 HGz31
             have hcz31_1 := cellS36_1 HGz31
             clear HGz31 hgz31
             have p176 : 0 ≤ (x5_3 : Int) := of_decide_eq_true (by first | (with_reducible assumption) | assumption)
             have q176 : x5_3 < (s0_1.length : Int) := of_decide_eq_true (by first | (with_reducible assumption) | assumption)
             obtain ⟨ad176, e176, hx176_0, hx176_1, hx176_2⟩ := at_T55 HSz31_1 x5_3 p176 q176
             cases e176
             replace hx176_0 := pw_cell_below HB.out hx176_0
             replace hx176_1 := pw_cell_below HB.out hx176_1
             replace hx176_2 := pw_cell_below HB.out hx176_2
             replace p176 := eq_true p176
             replace q176 := eq_true q176
             go_wp2_with (first | ((with_reducible refine gate_dst (N := 6) rfl ?_); (try (refine gate_guard (by rfl) ?_; dsimp only)); refine box_event ?hg (N := 6) ?hd (cs := #[.int .i64 0, .int .i64 0, .int .i64 0]) (t := 55) ?hr ?_; (case hd => rfl); (case hg => rfl); (case hr => first | (go_simp; done) | (go_simp; rfl)); intro gb177 hg w32 hbox hb; have n0_ := Aside0.mk (IsS36.below (by repeat (first | (with_reducible first | exact HI0.out | apply IsS36.alloc | apply IsS36.drewN | apply IsS36.drew) | exact HI0.out)) hb); have n1_ := Aside0.mk (KeepBut.trans (by repeat (first | (with_reducible first | exact HK.out | apply KeepBut.set_ | apply keep_drewN | apply keep_drew | apply keep_alloc) | exact HK.out)) (KeepBut.of_below hb g none) (.inl rfl)); have n2_ := Aside0.mk (below_step (by repeat (first | (with_reducible first | exact HB.out | apply below_alloc | apply pw_below_drewN | apply below_drew1 | refine below_set ?_ (IsS36.ge HI0.out)) | exact HB.out)) hb); have n3_ := Aside0.mk (hbox); have n4_ := Aside0.mk ((by rw [hg]; exact (keep_size (w := w) (g := g) (row := none) (by repeat (first | (with_reducible first | exact HK.out | apply KeepBut.set_ | apply keep_drewN | apply keep_drew | apply keep_alloc) | exact HK.out))) : w.heap.size ≤ gb177)); have n5_ := Aside0.mk ((Nat.le_trans HW0.out (by rw [hg]; exact (keep_size (w := w) (g := g) (row := none) (by repeat (first | (with_reducible first | exact HK.out | apply KeepBut.set_ | apply keep_drewN | apply keep_drew | apply keep_alloc) | exact HK.out))) : w.heap.size ≤ gb177) : w0.heap.size ≤ gb177)); have n6_ := Aside0.mk ((by rw [hg]; exact Nat.ne_of_lt (IsS36.lt (show IsS36 w0 _ g s0_0 s0_1 from by repeat (first | (with_reducible first | exact HI0.out | apply IsS36.alloc | apply IsS36.drewN | apply IsS36.drew) | exact HI0.out))) : g ≠ gb177)); have n7_ := Aside0.mk ((by rw [hg]; exact Nat.ne_of_gt (IsS36.lt (show IsS36 w0 _ g s0_0 s0_1 from by repeat (first | (with_reducible first | exact HI0.out | apply IsS36.alloc | apply IsS36.drewN | apply IsS36.drew) | exact HI0.out))) : gb177 ≠ g)); clear HI0; clear HK; clear HB; have HI0 := n0_; have HK := n1_; have HB := n2_; have BK177 := n3_; have GW177 := n4_; have GE177 := n5_; have NB0_177 := n6_; have NB177_0 := n7_; clear n0_ n1_ n2_ n3_ n4_ n5_ n6_ n7_; clear hb hbox hg; have hnb33 := NB177_0.out; have hnc33 := NB0_177.out; have hcz34_0 : w32.cell? ⟨gb177, 0, none⟩ = some (.int .i64 0) := (blk_cell BK177.out 0).trans rfl; have hcz34_1 : w32.cell? ⟨gb177, 1, none⟩ = some (.int .i64 0) := (blk_cell BK177.out 1).trans rfl; have hcz34_2 : w32.cell? ⟨gb177, 2, none⟩ = some (.int .i64 0) := (blk_cell BK177.out 2).trans rfl; have hfz34_0 := blk_frozen BK177.out 0; have hfz34_1 := blk_frozen BK177.out 1; have hfz34_2 := blk_frozen BK177.out 2) | ((with_reducible refine gate_callee (f := 45) rfl ?_); refine goesL_ (some 61) rfl rfl Try.func45 (by kernel_rfl) rfl #[.int .i64 ((rd_T55 s0_1 x5_3).f0), .int .i64 0, .int .i64 (wrap64 ((s0_0.length : Int) - 1))] rfl (by (try simp only [List.map_toArray, List.map_cons, List.map_nil]); first | done | rfl | (simp only [List.length_drop, List.length_take]; rfl)) ?_; (with_reducible refine (spec_l00In.calls ((rd_T55 s0_1 x5_3).f0) 0 (wrap64 ((s0_0.length : Int) - 1)) true _ A17.out).mono ?_); rintro e w' ⟨rfl, ⟨nd, rfl⟩⟩; refine ⟨_, rfl, ?_⟩) | (go_at_call 45; (with_reducible refine (spec_l00In.calls ((rd_T55 s0_1 x5_3).f1) 0 (wrap64 ((s0_0.length : Int) - 1)) false _ A19.out).mono ?_); rintro e w' ⟨rfl, ⟨nd, rfl⟩⟩))
             go_ret
             exact ⟨by first | rfl | (simp [errW_none, errW_some] <;> rfl) | (simp [*, errW_none, errW_some] <;> rfl), by repeat (first | (with_reducible first | exact HI0.out | apply IsS36.alloc | apply IsS36.drewN | apply IsS36.drew | refine IsS36.far ?_ NB0_177.out _) | exact HI0.out), by repeat (first | (with_reducible first | exact HB.out | apply below_alloc | apply pw_below_drewN | apply below_drew1 | refine below_set ?_ (IsS36.ge HI0.out) | refine below_set ?_ GE177.out) | exact HB.out), by repeat (first | (with_reducible first | exact HK.out | apply KeepBut.set_ | apply keep_drewN | apply keep_drew | apply keep_alloc | refine keep_far ?_ GW177.out _) | exact HK.out)⟩
           ·replace c18 := Bool.eq_false_iff.mpr c18
            subst c18
            have H1 : (some false) = some r := by rw [if_neg (show ¬ (false = true) by decide)] at H; exact H
            clear H
            have H := H1
            clear H1
            obtain rfl := Option.some.inj H
            obtain ⟨ASz35_0, cSz35_0, ASz35_1, cSz35_1, HGz35, hgz35, HSz35_0, HSz35_1⟩ := HI0.out
            have hcz35_0 := cellS36_0 HGz35
            have hcz35_1 := cellS36_1 HGz35
            clear HGz35 hgz35
            have p176 : 0 ≤ (x5_3 : Int) := of_decide_eq_true (by first | (with_reducible assumption) | assumption)
            have q176 : x5_3 < (s0_1.length : Int) := of_decide_eq_true (by first | (with_reducible assumption) | assumption)
            obtain ⟨ad176, e176, hx176_0, hx176_1, hx176_2⟩ := at_T55 HSz35_1 x5_3 p176 q176
            cases e176
            replace hx176_0 := pw_cell_below HB.out hx176_0
            replace hx176_1 := pw_cell_below HB.out hx176_1
            replace hx176_2 := pw_cell_below HB.out hx176_2
            replace p176 := eq_true p176
            replace q176 := eq_true q176
            go_wp2_with (first | ((with_reducible refine gate_dst (N := 6) rfl ?_); (try (refine gate_guard (by rfl) ?_; dsimp only)); refine box_event ?hg (N := 6) ?hd (cs := #[.int .i64 0, .int .i64 0, .int .i64 0]) (t := 55) ?hr ?_; (case hd => rfl); (case hg => rfl); (case hr => first | (go_simp; done) | (go_simp; rfl)); intro gb177 hg w36 hbox hb; have n0_ := Aside0.mk (IsS36.below (by repeat (first | (with_reducible first | exact HI0.out | apply IsS36.alloc | apply IsS36.drewN | apply IsS36.drew) | exact HI0.out)) hb); have n1_ := Aside0.mk (KeepBut.trans (by repeat (first | (with_reducible first | exact HK.out | apply KeepBut.set_ | apply keep_drewN | apply keep_drew | apply keep_alloc) | exact HK.out)) (KeepBut.of_below hb g none) (.inl rfl)); have n2_ := Aside0.mk (below_step (by repeat (first | (with_reducible first | exact HB.out | apply below_alloc | apply pw_below_drewN | apply below_drew1 | refine below_set ?_ (IsS36.ge HI0.out)) | exact HB.out)) hb); have n3_ := Aside0.mk (hbox); have n4_ := Aside0.mk ((by rw [hg]; exact (keep_size (w := w) (g := g) (row := none) (by repeat (first | (with_reducible first | exact HK.out | apply KeepBut.set_ | apply keep_drewN | apply keep_drew | apply keep_alloc) | exact HK.out))) : w.heap.size ≤ gb177)); have n5_ := Aside0.mk ((Nat.le_trans HW0.out (by rw [hg]; exact (keep_size (w := w) (g := g) (row := none) (by repeat (first | (with_reducible first | exact HK.out | apply KeepBut.set_ | apply keep_drewN | apply keep_drew | apply keep_alloc) | exact HK.out))) : w.heap.size ≤ gb177) : w0.heap.size ≤ gb177)); have n6_ := Aside0.mk ((by rw [hg]; exact Nat.ne_of_lt (IsS36.lt (show IsS36 w0 _ g s0_0 s0_1 from by repeat (first | (with_reducible first | exact HI0.out | apply IsS36.alloc | apply IsS36.drewN | apply IsS36.drew) | exact HI0.out))) : g ≠ gb177)); have n7_ := Aside0.mk ((by rw [hg]; exact Nat.ne_of_gt (IsS36.lt (show IsS36 w0 _ g s0_0 s0_1 from by repeat (first | (with_reducible first | exact HI0.out | apply IsS36.alloc | apply IsS36.drewN | apply IsS36.drew) | exact HI0.out))) : gb177 ≠ g)); clear HI0; clear HK; clear HB; have HI0 := n0_; have HK := n1_; have HB := n2_; have BK177 := n3_; have GW177 := n4_; have GE177 := n5_; have NB0_177 := n6_; have NB177_0 := n7_; clear n0_ n1_ n2_ n3_ n4_ n5_ n6_ n7_; clear hb hbox hg; have hnb37 := NB177_0.out; have hnc37 := NB0_177.out; have hcz38_0 : w36.cell? ⟨gb177, 0, none⟩ = some (.int .i64 0) := (blk_cell BK177.out 0).trans rfl; have hcz38_1 : w36.cell? ⟨gb177, 1, none⟩ = some (.int .i64 0) := (blk_cell BK177.out 1).trans rfl; have hcz38_2 : w36.cell? ⟨gb177, 2, none⟩ = some (.int .i64 0) := (blk_cell BK177.out 2).trans rfl; have hfz38_0 := blk_frozen BK177.out 0; have hfz38_1 := blk_frozen BK177.out 1; have hfz38_2 := blk_frozen BK177.out 2) | ((with_reducible refine gate_callee (f := 45) rfl ?_); refine goesL_ (some 61) rfl rfl Try.func45 (by kernel_rfl) rfl #[.int .i64 ((rd_T55 s0_1 x5_3).f0), .int .i64 0, .int .i64 (wrap64 ((s0_0.length : Int) - 1))] rfl (by (try simp only [List.map_toArray, List.map_cons, List.map_nil]); first | done | rfl | (simp only [List.length_drop, List.length_take]; rfl)) ?_; (with_reducible refine (spec_l00In.calls ((rd_T55 s0_1 x5_3).f0) 0 (wrap64 ((s0_0.length : Int) - 1)) false _ A17.out).mono ?_); rintro e w' ⟨rfl, ⟨nd, rfl⟩⟩; refine ⟨_, rfl, ?_⟩))
            go_ret
            exact ⟨by first | rfl | (simp [errW_none, errW_some] <;> rfl) | (simp [*, errW_none, errW_some] <;> rfl), by repeat (first | (with_reducible first | exact HI0.out | apply IsS36.alloc | apply IsS36.drewN | apply IsS36.drew | refine IsS36.far ?_ NB0_177.out _) | exact HI0.out), by repeat (first | (with_reducible first | exact HB.out | apply below_alloc | apply pw_below_drewN | apply below_drew1 | refine below_set ?_ (IsS36.ge HI0.out) | refine below_set ?_ GE177.out) | exact HB.out), by repeat (first | (with_reducible first | exact HK.out | apply KeepBut.set_ | apply keep_drewN | apply keep_drew | apply keep_alloc | refine keep_far ?_ GW177.out _) | exact HK.out)⟩
          ·rw [if_neg c16] at H
           exact absurd H (by simp)
         ·rw [if_neg c15] at H
          have c15b0 : decide (x5_3 < (s0_1.length : Int)) = false := decide_eq_false c15
          clear c15
          obtain rfl := Option.some.inj H
          obtain ⟨ASz39_0, cSz39_0, ASz39_1, cSz39_1, HGz39, hgz39, HSz39_0, HSz39_1⟩ := HI0.out
          have hcz39_0 := cellS36_0 HGz39
          have hcz39_1 := cellS36_1 HGz39
          clear HGz39 hgz39
          go_wp2
          go_ret
          exact ⟨by first | rfl | (simp [errW_none, errW_some] <;> rfl) | (simp [*, errW_none, errW_some] <;> rfl), by repeat (first | (with_reducible first | exact HI0.out | apply IsS36.alloc | apply IsS36.drewN | apply IsS36.drew) | exact HI0.out), by repeat (first | (with_reducible first | exact HB.out | apply below_alloc | apply pw_below_drewN | apply below_drew1 | refine below_set ?_ (IsS36.ge HI0.out)) | exact HB.out), by repeat (first | (with_reducible first | exact HK.out | apply KeepBut.set_ | apply keep_drewN | apply keep_drew | apply keep_alloc) | exact HK.out)⟩
end Go.Proofs.Ytojpibpjieanhaa.X
end
