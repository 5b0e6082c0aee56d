/- My own texts of this seat and its words, merged: G5. Conditions: as each lemma says. -/
import Derived.Test.YthkpnbelbaljdaaDoorK22
import Derived.Test.YthkpnbelbaljdaaDoorK23
import Derived.Deep.DeepCutAuto
import Derived.StillTailTactics
import Derived.Test.YthkpnbelbaljdaaDoorK21
import Derived.Test.YthkpnbelbaljdaaDoorK25
section
/- My own texts of this seat, merged: XSpec, XSpecI, XSRun, Xp58, XEnS, Xp5, CEn. Conditions: as each lemma says. -/
/- The reference's side of a switch: what is done at a tick, and what it has at first. Conditions: as each lemma says. -/
namespace Go.Proofs.YthkpnbelbaljdaaDoor.X
open Go.RowKit Go.Proofs.YthkpnbelbaljdaaDoorW.PrintWords Go.Proofs.YthkpnbelbaljdaaDoorW.PrintLast Go.Proofs.YthkpnbelbaljdaaDoorW.PrintMore
set_option linter.unusedVariables false
set_option linter.unusedSimpArgs false
set_option maxHeartbeats 4000000 in
set_option maxRecDepth 100000 in
theorem Down (g B : Nat) (on wish other : Bool) (row : List Bool) (v : Value) (w : World) (hg : w.heap[g]? = some (.cells #[.bool on, v] 99 (0, 0))) (hr : RowB B w v row) (hl : row.length ≤ 100) (hBg : B ≤ g) (hB : B ≤ w.heap.size) :
    Calls Tryd.prog 88 #[.pointer (some ⟨g, 0, none⟩), .bool wish, .bool other] w fun e w' => e = .returned (.tuple #[]) ∧ ∃ v', w'.heap[g]? = some (.cells #[.bool (sideUse row wish && !other), v'] 99 (0, 0)) ∧ RowB B w' v' (sideRow row wish) ∧ Below B w w' ∧ Kept w w' (· = g) := by
  obtain ⟨N, hN⟩ : ∃ N, N = row.length := ⟨_, rfl⟩
  obtain ⟨A0, c0, hv⟩ := own_slice hr
  rw [← hN] at hv
  subst hv
  have HG := Aside0.mk hg
  have HR0 := Aside0.mk hr
  have HN := Aside0.mk hN
  have HB0 := Aside0.mk hB
  have HBg := Aside0.mk hBg
  have HL := Aside0.mk hl
  have cF : w.cell? ⟨g, 0, none⟩ = some (.bool on) := (blk_cell hg 0).trans rfl
  have cR : w.cell? ⟨g, 1, none⟩ = some (.slice A0 N c0) := (blk_cell hg 1).trans rfl
  have zF := blk_frozen hg 0
  have zR := blk_frozen hg 1
  clear hg hr hN hB hBg hl
  rcases Nat.eq_zero_or_pos N with h0 | h0
  · subst h0
    have HE : Aside0 (row = []) := ⟨List.eq_nil_of_length_eq_zero HN.out.symm⟩
    have hfin : ∀ x : Bool, x = (wish && !other) → (w.setCell ⟨g, 0, none⟩ (.bool x)).heap[g]? = some (.cells #[.bool (sideUse row wish && !other), .slice A0 0 c0] 99 (0, 0)) ∧ RowB B (w.setCell ⟨g, 0, none⟩ (.bool x)) (.slice A0 0 c0) (sideRow row wish) ∧ Below B w (w.setCell ⟨g, 0, none⟩ (.bool x)) ∧ Kept w (w.setCell ⟨g, 0, none⟩ (.bool x)) (· = g) := by
      intro x hx
      refine ⟨?_, ?_, (Below.refl _ _).setCell HBg.out _, Kept.setCell (S := (· = g)) (p := ⟨g, 0, none⟩) (Kept.of_below (Below.refl w.heap.size w) (· = g)) (.inl rfl) _⟩
      · rw [HE.out, hx]
        exact blk_put HG.out 0 _ rfl
      · have := HR0.out
        rw [HE.out] at this ⊢
        exact RowB.far this HG.out (by decide) _ _
    have HF := Aside0.mk hfin
    clear hfin
    cases wish with
    | false =>
      go_enter Tryd.func88, Tryd.ntmps88
      go_wp2
      (first | (refine bodyPost_end (results_none rfl _ _ _) rfl ?_) | (refine bodyPost_ret (results_none rfl _ _ _) rfl ?_))
      exact ⟨rfl, _, HF.out false rfl⟩
    | true =>
      go_enter Tryd.func88, Tryd.ntmps88
      go_wp2
      (first | (refine bodyPost_end (results_none rfl _ _ _) rfl ?_) | (refine bodyPost_ret (results_none rfl _ _ _) rfl ?_))
      exact ⟨rfl, _, HF.out (!other) rfl⟩
  · obtain ⟨b, hA, hcell, hrd, hcap⟩ := RowB.last HR0.out HN.out h0
    subst hA
    have HE : Aside0 (row ≠ []) := ⟨fun e => by have := HN.out; rw [e] at this; simp at this; omega⟩
    obtain ⟨M, hM⟩ : ∃ M, M = N - 1 := ⟨_, rfl⟩
    have pn : (0 < (N : Int)) = True := eq_true (by omega)
    have pn2 : decide (0 < N) = true := decide_eq_true h0
    have pn3 : decide (0 < (N : Int)) = true := decide_eq_true (by omega)
    have pn4 := h0
    have wn : IntKind.i64.wrap ((N : Int) - 1) = (M : Int) := by rw [w_in _ (by omega) (by have := HL.out; have := HN.out; omega)]; omega
    have pm : ((M : Int) < (N : Int)) = True := eq_true (by omega)
    have pc0 : ((M : Int) ≤ (c0 : Int)) = True := eq_true (by omega)
    have pc1 : (M ≤ c0) = True := eq_true (by omega)
    rw [← hM] at hrd hcell
    have HR := Aside0.mk hrd
    obtain ⟨L, hL⟩ : ∃ L, L = row.getLastD false := ⟨_, rfl⟩
    rw [← hL] at hcell
    have HLL := Aside0.mk hL
    have HM := Aside0.mk hM
    have cRa : ∀ o, (w.alloc o).cell? ⟨g, 1, none⟩ = some (.slice (some ⟨b, 0, none⟩) N c0) := fun o => pw_cell_below (below_alloc (Below.refl _ _) _) cR
    clear hL hM hrd h0 hcap
    have hfin : ∀ (w3 : World) (v3 : Value) (x : Bool), Below w.heap.size w w3 → RowB w.heap.size w3 v3 (wish :: row.dropLast) → x = (L && !other) →
        ((w3.setCell ⟨g, 1, none⟩ v3).setCell ⟨g, 0, none⟩ (.bool x)).heap[g]? = some (.cells #[.bool (sideUse row wish && !other), v3] 99 (0, 0)) ∧ RowB B ((w3.setCell ⟨g, 1, none⟩ v3).setCell ⟨g, 0, none⟩ (.bool x)) v3 (sideRow row wish) ∧ Below B w ((w3.setCell ⟨g, 1, none⟩ v3).setCell ⟨g, 0, none⟩ (.bool x)) ∧ Kept w ((w3.setCell ⟨g, 1, none⟩ v3).setCell ⟨g, 0, none⟩ (.bool x)) (· = g) := by
      intro w3 v3 x hb ho hx
      have b3 := blk_below HG.out hb
      have b4 := blk_put b3 1 v3 (cs' := #[.bool on, v3]) rfl
      refine ⟨?_, ?_, ((hb.mono HB0.out).setCell HBg.out _).setCell HBg.out _, Kept.setCell (S := (· = g)) (p := ⟨g, 0, none⟩) (Kept.setCell (S := (· = g)) (p := ⟨g, 1, none⟩) (Kept.of_below hb (· = g)) (.inl rfl) _) (.inl rfl) _⟩
      · rw [show (sideUse row wish && !other) = x by rw [hx, HLL.out]; unfold sideUse; rw [if_neg HE.out]]
        exact blk_put b4 0 _ rfl
      · rw [show sideRow row wish = wish :: row.dropLast from if_neg HE.out]
        exact RowB.far (RowB.far (own_weaken ho HB0.out) b3 (by decide) _ _) b4 (by decide) _ _
    have HF := Aside0.mk hfin
    clear hfin
    cases L with
    | false =>
      go_enter Tryd.func88, Tryd.ntmps88
      go_wp2_with ((with_reducible refine gate_builtin (b := .append) (xs := #[.tmp 28, .tmp 35]) rfl ?_); at_builtin; refine print_append_row_of (w0 := w) Value.bool false w.heap.size rfl (.tmp 28) (.tmp 35) 97 4 (.bool false) 1 rfl Tryd.underlying97 boolInfo rfl (by decide) (fun _ => rfl) (.slice (some ⟨w.heap.size, 0, none⟩) 1 1) [wish] row.dropLast (some ⟨b, 0, none⟩) M c0 rfl rfl ?aO ?aR ?aB ?aS ?aL ?_; (case aO => exact own_lit_of w _ 4 [wish] (Nat.le_refl _) (by simp)); (case aR => exact ReadsOf.below HR.out (below_alloc (Below.refl _ _) _)); (case aB => exact below_alloc (Below.refl _ _) _); (case aS => exact (below_alloc (Below.refl w.heap.size w) _).size); (case aL => have := HL.out; have := HM.out; have := HN.out; simp only [List.length_cons, List.length_nil]; omega); intro v3 w3 ho hb hg hat; obtain ⟨A3, c3, hv3⟩ := own_slice ho; obtain ⟨N3, hN3⟩ : ∃ N3, N3 = ([wish] ++ row.dropLast).length := ⟨_, rfl⟩; rw [← hN3] at hv3; clear hN3; subst hv3; have HO3 := Aside0.mk ho; have HB3 := Aside0.mk hb; have z4 := blk_frozen (blk_below HG.out hb) 1; have c4 := blk_cell (blk_below HG.out hb) 1; have z5 := blk_frozen (blk_put (blk_below HG.out hb) 1 (.slice A3 N3 c3) (cs' := #[.bool on, .slice A3 N3 c3]) rfl) 0; have c5 := blk_cell (blk_put (blk_below HG.out hb) 1 (.slice A3 N3 c3) (cs' := #[.bool on, .slice A3 N3 c3]) rfl) 0; clear ho hb hg hat)
      (first | (refine bodyPost_end (results_none rfl _ _ _) rfl ?_) | (refine bodyPost_ret (results_none rfl _ _ _) rfl ?_))
      exact ⟨rfl, _, HF.out _ _ false HB3.out HO3.out rfl⟩
    | true =>
      go_enter Tryd.func88, Tryd.ntmps88
      go_wp2_with ((with_reducible refine gate_builtin (b := .append) (xs := #[.tmp 28, .tmp 35]) rfl ?_); at_builtin; refine print_append_row_of (w0 := w) Value.bool false w.heap.size rfl (.tmp 28) (.tmp 35) 97 4 (.bool false) 1 rfl Tryd.underlying97 boolInfo rfl (by decide) (fun _ => rfl) (.slice (some ⟨w.heap.size, 0, none⟩) 1 1) [wish] row.dropLast (some ⟨b, 0, none⟩) M c0 rfl rfl ?aO ?aR ?aB ?aS ?aL ?_; (case aO => exact own_lit_of w _ 4 [wish] (Nat.le_refl _) (by simp)); (case aR => exact ReadsOf.below HR.out (below_alloc (Below.refl _ _) _)); (case aB => exact below_alloc (Below.refl _ _) _); (case aS => exact (below_alloc (Below.refl w.heap.size w) _).size); (case aL => have := HL.out; have := HM.out; have := HN.out; simp only [List.length_cons, List.length_nil]; omega); intro v3 w3 ho hb hg hat; obtain ⟨A3, c3, hv3⟩ := own_slice ho; obtain ⟨N3, hN3⟩ : ∃ N3, N3 = ([wish] ++ row.dropLast).length := ⟨_, rfl⟩; rw [← hN3] at hv3; clear hN3; subst hv3; have HO3 := Aside0.mk ho; have HB3 := Aside0.mk hb; have z4 := blk_frozen (blk_below HG.out hb) 1; have c4 := blk_cell (blk_below HG.out hb) 1; have z5 := blk_frozen (blk_put (blk_below HG.out hb) 1 (.slice A3 N3 c3) (cs' := #[.bool on, .slice A3 N3 c3]) rfl) 0; have c5 := blk_cell (blk_put (blk_below HG.out hb) 1 (.slice A3 N3 c3) (cs' := #[.bool on, .slice A3 N3 c3]) rfl) 0; clear ho hb hg hat)
      (first | (refine bodyPost_end (results_none rfl _ _ _) rfl ?_) | (refine bodyPost_ret (results_none rfl _ _ _) rfl ?_))
      exact ⟨rfl, _, HF.out _ _ (!other) HB3.out HO3.out rfl⟩
set_option maxHeartbeats 4000000 in
set_option maxRecDepth 100000 in
theorem New (gs : Nat) (m : Nat) (fi : Int) (on : Bool) (w : World) (hg : w.heap[gs]? = some (.cells #[.int .i64 (m : Int), .int .i64 fi] 30 (0, 0))) (hm : m ≤ 100) :
    Calls Tryd.prog 87 #[.pointer (some ⟨gs, 0, none⟩), .bool on] w fun e w' => ∃ g v, e = .returned (.pointer (some ⟨g, 0, none⟩)) ∧ w'.heap[g]? = some (.cells #[.bool on, v] 99 (0, 0)) ∧ RowB w.heap.size w' v (List.replicate m on) ∧ w.heap.size ≤ g ∧ Below w.heap.size w w' := by
  have HG := Aside0.mk hg
  have HM := Aside0.mk hm
  clear hg hm
  have HB := Aside0.mk (Below.refl w.heap.size w)
  go_enter Tryd.func87, Tryd.ntmps87
  go_wp2_with ((with_reducible refine gate_dst (N := 9) rfl ?_); refine box_event ?hg (N := 9) ?hd (cs := #[.bool on, .slice none 0 0]) (t := 99) ?hr ?_; (case hd => rfl); (case hg => rfl); (case hr => first | (go_simp; done) | (go_simp; rfl)); intro g hg wn hbox hb; have GE := Aside0.mk (by rw [hg]; exact below_size HB.out : w.heap.size ≤ g); clear hg; have BK0 := Aside0.mk hbox; clear hbox; have n0_ := Aside0.mk (below_step HB.out hb); clear HB  hb; have HB := n0_; clear n0_)
  go_loopg [6] m (fun kq v6 w' => ∃ j : Nat, v6 = .int .i64 (j : Int) ∧ Aside0 (j + kq = m) ∧ ∃ v, Aside0 (w'.heap[g]? = some (.cells #[.bool on, v] 99 (0, 0))) ∧ Aside0 (RowB w.heap.size w' v (List.replicate j on)) ∧ Aside0 (Below w.heap.size w w'))
  case atStart => exact ⟨0, rfl, ⟨by omega⟩, _, BK0, ⟨own_nil _ _ _ _⟩, HB⟩
  case round =>
    clear BK0 HB
    obtain ⟨j, rfl, HE, v, HK, HR, HB⟩ := hrel
    have cM : wr.cell? ⟨gs, 0, none⟩ = some (.int .i64 (m : Int)) := (blk_cell (blk_below HG.out HB.out) 0).trans rfl
    obtain ⟨N, hN⟩ : ∃ N, N = (List.replicate j on).length := ⟨_, rfl⟩
    obtain ⟨A0, c0, hv⟩ := own_slice HR.out
    rw [← hN] at hv
    subst hv
    clear hN
    have cR : wr.cell? ⟨g, 1, none⟩ = some (.slice A0 N c0) := (blk_cell HK.out 1).trans rfl
    by_cases hlt : j < m
    · cases gk with
      | zero => have := HE.out; omega
      | succ g1 =>
      have wj : IntKind.i64.wrap ((j : Int) + 1) = ((j + 1 : Nat) : Int) := by rw [w_in _ (by omega) (by have := HM.out; omega)]; omega
      go_wp2_with ((with_reducible refine gate_builtin (b := .append) (xs := #[.tmp 22, .tmp 24]) rfl ?_); at_builtin; refine print_append_of (w0 := w) Value.bool w.heap.size rfl (.tmp 22) (.tmp 24) 97 4 (.bool false) 1 rfl Tryd.underlying97 boolInfo rfl (by decide) (.slice A0 N c0) (List.replicate j on) on rfl rfl rfl HR.out HB.out (below_size HB.out) ?aL ?_; (case aL => have := HM.out; rw [List.length_replicate]; omega); intro v3 w3 ho hb hgr hat; obtain ⟨A3, c3, hv3⟩ := own_slice ho; obtain ⟨N3, hN3⟩ : ∃ N3, N3 = (List.replicate j on ++ [on]).length := ⟨_, rfl⟩; rw [← hN3] at hv3; clear hN3; subst hv3; have HO3 := Aside0.mk ho; have HB3 := Aside0.mk hb; have HK3 := Aside0.mk (blk_grown HK.out hgr (own_ne HR.out HK.out (by decide))); have c3 := blk_cell HK3.out 1; have z3 := blk_frozen HK3.out 1; clear ho hb hgr hat)
      go_roundg g1
      case measure => omega
      case rel => exact ⟨j + 1, by first | rfl | (rw [wj]) | go_num, ⟨by have := HE.out; omega⟩, _, ⟨blk_put HK3.out 1 _ rfl⟩, ⟨by rw [List.replicate_succ']; exact RowB.far HO3.out HK3.out (by decide) _ _⟩, ⟨HB3.out.setCell GE.out _⟩⟩
    · have e : j = m := by have := HE.out; omega
      subst e
      go_wp2
      go_ret
      exact ⟨g, _, rfl, HK.out, HR.out, GE.out, HB.out⟩
end Go.Proofs.YthkpnbelbaljdaaDoor.X
/- The reference's switch: what lies in memory behind so many ticks. Conditions: as each lemma says. -/
namespace Go.Proofs.YthkpnbelbaljdaaDoor.X
open Go.RowKit Go.Proofs.YthkpnbelbaljdaaDoorW.PrintWords Go.Proofs.YthkpnbelbaljdaaDoorW.PrintLast Go.Proofs.YthkpnbelbaljdaaDoorW.PrintMore
set_option linter.unusedVariables false
set_option linter.unusedSimpArgs false
def RowU (B : Nat) (w : World) (v : Value) (l : List Int) : Prop := w.ownsRow B 5 1 v l.length (encs (Value.int .u8) l)
structure SpW (gx gy B : Nat) (w0 w : World) (e0 e1 : Bool) (r0 r1 : List Bool) (x0 x1 : Value) (l1 l2 : List Int) (v1 v2 : Value) : Prop where
  bx : w.heap[gx]? = some (.cells #[.bool e0, x0] 99 (0, 0))
  bY : w.heap[gy]? = some (.cells #[.bool e1, x1] 99 (0, 0))
  o0 : RowB B w x0 r0
  o1 : RowB B w x1 r1
  q1 : RowU B w v1 l1
  q2 : RowU B w v2 l2
  ne : NeRow v1 v2
  nxy : gx ≠ gy
  hx : B ≤ gx
  hy : B ≤ gy
  hB : B ≤ w.heap.size
  fb : Below B w0 w
section
variable {gx gy B : Nat} {w0 w : World} {e0 e1 : Bool} {r0 r1 : List Bool} {x0 x1 : Value} {l1 l2 : List Int} {v1 v2 : Value}
theorem SpW.move (h : SpW gx gy B w0 w e0 e1 r0 r1 x0 x1 l1 l2 v1 v2) {w1 : World} (hb : Below w.heap.size w w1) : SpW gx gy B w0 w1 e0 e1 r0 r1 x0 x1 l1 l2 v1 v2 :=
  { h with
    bx := blk_below h.bx hb, bY := blk_below h.bY hb
    o0 := own_move h.o0 (fun k hk => hb.block k (own_lt h.o0 k hk)), o1 := own_move h.o1 (fun k hk => hb.block k (own_lt h.o1 k hk))
    q1 := own_move h.q1 (fun k hk => hb.block k (own_lt h.q1 k hk)), q2 := own_move h.q2 (fun k hk => hb.block k (own_lt h.q2 k hk))
    hB := Nat.le_trans h.hB hb.size, fb := h.fb.trans (hb.mono h.hB) }
theorem own_keeps {e : TypeId} {n : Nat} {v : Value} {xs : List Value} {w1 : World} {g : Nat} {cs : Array Value} {t : TypeId} (h : w.ownsRow B e 1 v n xs) (hk : Kept w w1 (· = g)) (hg : w.heap[g]? = some (.cells cs t (0, 0))) (ht : e ≠ t) : w1.ownsRow B e 1 v n xs :=
  own_move h (fun k hk' => hk.2 k (own_lt h k hk') (fun e => own_ne h hg ht (by rw [hk', e])))
theorem SpW.downX (h : SpW gx gy B w0 w e0 e1 r0 r1 x0 x1 l1 l2 v1 v2) {w1 : World} {e : Bool} {r : List Bool} {x : Value} (hg : w1.heap[gx]? = some (.cells #[.bool e, x] 99 (0, 0))) (hr : RowB B w1 x r) (hb : Below B w w1) (hk : Kept w w1 (· = gx)) : SpW gx gy B w0 w1 e e1 r r1 x x1 l1 l2 v1 v2 :=
  { h with
    bx := hg, bY := (hk.2 gy (blk_lt h.bY) (fun e => h.nxy e.symm)).trans h.bY
    o0 := hr, o1 := own_keeps h.o1 hk h.bx (by decide), q1 := own_keeps h.q1 hk h.bx (by decide), q2 := own_keeps h.q2 hk h.bx (by decide)
    hB := Nat.le_trans h.hB hk.1, fb := h.fb.trans hb }
theorem SpW.downY (h : SpW gx gy B w0 w e0 e1 r0 r1 x0 x1 l1 l2 v1 v2) {w1 : World} {e : Bool} {r : List Bool} {x : Value} (hg : w1.heap[gy]? = some (.cells #[.bool e, x] 99 (0, 0))) (hr : RowB B w1 x r) (hb : Below B w w1) (hk : Kept w w1 (· = gy)) : SpW gx gy B w0 w1 e0 e r0 r x0 x l1 l2 v1 v2 :=
  { h with
    bY := hg, bx := (hk.2 gx (blk_lt h.bx) h.nxy).trans h.bx
    o1 := hr, o0 := own_keeps h.o0 hk h.bY (by decide), q1 := own_keeps h.q1 hk h.bY (by decide), q2 := own_keeps h.q2 hk h.bY (by decide)
    hB := Nat.le_trans h.hB hk.1, fb := h.fb.trans hb }
theorem SpW.app1 (h : SpW gx gy B w0 w e0 e1 r0 r1 x0 x1 l1 l2 v1 v2) {w1 : World} (hg : w.grownBy w1 v1.ownBlock) {v : Value} {l : List Int} (ho : RowU B w1 v l) (hat : v.ownBlock = v1.ownBlock ∨ ∃ b, v.ownBlock = some b ∧ w.heap.size ≤ b) : SpW gx gy B w0 w1 e0 e1 r0 r1 x0 x1 l l2 v v2 :=
  { h with
    bx := blk_grown h.bx hg (own_ne h.q1 h.bx (by decide)), bY := blk_grown h.bY hg (own_ne h.q1 h.bY (by decide))
    o0 := own_other h.o0 hg (own_type_ne h.o0 h.q1 (by decide)), o1 := own_other h.o1 hg (own_type_ne h.o1 h.q1 (by decide))
    q1 := ho, q2 := own_other h.q2 hg (ne_other h.ne), ne := ne_append h.ne hat h.q2
    hB := Nat.le_trans h.hB hg.size, fb := h.fb.grown hg h.hB (own_base h.q1) }
theorem SpW.app2 (h : SpW gx gy B w0 w e0 e1 r0 r1 x0 x1 l1 l2 v1 v2) {w1 : World} (hg : w.grownBy w1 v2.ownBlock) {v : Value} {l : List Int} (ho : RowU B w1 v l) (hat : v.ownBlock = v2.ownBlock ∨ ∃ b, v.ownBlock = some b ∧ w.heap.size ≤ b) : SpW gx gy B w0 w1 e0 e1 r0 r1 x0 x1 l1 l v1 v :=
  { h with
    bx := blk_grown h.bx hg (own_ne h.q2 h.bx (by decide)), bY := blk_grown h.bY hg (own_ne h.q2 h.bY (by decide))
    o0 := own_other h.o0 hg (own_type_ne h.o0 h.q2 (by decide)), o1 := own_other h.o1 hg (own_type_ne h.o1 h.q2 (by decide))
    q2 := ho, q1 := own_other h.q1 hg (ne_other (ne_symm h.ne)), ne := ne_symm (ne_append (ne_symm h.ne) hat h.q1)
    hB := Nat.le_trans h.hB hg.size, fb := h.fb.grown hg h.hB (own_base h.q2) }
end
theorem SpW.start {gx gy B : Nat} {w0 w1 w2 : World} {e0 e1 : Bool} {r0 r1 : List Bool} {x0 x1 : Value} (hB : B ≤ w1.heap.size) (hx : w1.heap[gx]? = some (.cells #[.bool e0, x0] 99 (0, 0))) (hr0 : RowB B w1 x0 r0) (hgx : B ≤ gx)
    (hy : w2.heap[gy]? = some (.cells #[.bool e1, x1] 99 (0, 0))) (hr1 : RowB w1.heap.size w2 x1 r1) (hgy : w1.heap.size ≤ gy) (h0 : Below B w0 w1) (hb : Below w1.heap.size w1 w2) :
    SpW gx gy B w0 ((w2.alloc (.cells #[] 5)).alloc (.cells #[] 5)) e0 e1 r0 r1 x0 x1 [] [] (.slice (some ⟨w2.heap.size, 0, none⟩) 0 0) (.slice (some ⟨w2.heap.size + 1, 0, none⟩) 0 0) := by
  have ha := below_alloc (below_alloc (Below.refl w2.heap.size w2) (.cells #[] 5)) (.cells #[] 5)
  have hs : (w2.alloc (.cells #[] 5)).heap.size = w2.heap.size + 1 := by simp
  have hB2 : B ≤ w2.heap.size := Nat.le_trans hB hb.size
  have k1 := own_lit_of (enc := Value.int .u8) w2 B 5 ([] : List Int) hB2 (by simp)
  have k2 := own_lit_of (enc := Value.int .u8) (w2.alloc (.cells #[] 5)) B 5 ([] : List Int) (by omega) (by simp)
  rw [hs] at k2
  have hx2 := blk_below hx hb
  exact { bx := blk_below hx2 ha, bY := blk_below hy ha
          o0 := own_move (own_move hr0 (fun k hk => hb.block k (own_lt hr0 k hk))) (fun k hk => ha.block k (Nat.lt_of_lt_of_le (own_lt hr0 k hk) hb.size))
          o1 := own_weaken (own_move hr1 (fun k hk => ha.block k (own_lt hr1 k hk))) hB
          q1 := own_alloc k1 _, q2 := k2
          ne := fun k hk hk' => by simp [Value.ownBlock] at hk hk'; omega
          nxy := fun e => by have := blk_lt hx; omega
          hx := hgx, hy := Nat.le_trans hB hgy, hB := Nat.le_trans hB2 ha.size, fb := (h0.trans (hb.mono hB)).trans (ha.mono hB2) }
end Go.Proofs.YthkpnbelbaljdaaDoor.X
/- The reference's EnablesOf: what it answers. Conditions: as each lemma says. -/
namespace Go.Proofs.YthkpnbelbaljdaaDoor.X
open Go.RowKit Go.Proofs.YthkpnbelbaljdaaDoorW.PrintWords Go.Proofs.YthkpnbelbaljdaaDoorW.PrintLast Go.Proofs.YthkpnbelbaljdaaDoorW.PrintMore
set_option linter.unusedVariables false
set_option linter.unusedSimpArgs false
theorem lvs_snoc' (lv : Nat → Bool) (n : Nat) : lvs lv (n + 1) = lvs lv n ++ [if lv n = true then 49 else 48] := by simp [lvs, List.range_succ]
theorem SpW.drew {gx gy B : Nat} {w0 w : World} {e0 e1 : Bool} {r0 r1 : List Bool} {x0 x1 : Value} {l1 l2 : List Int} {v1 v2 : Value} (h : SpW gx gy B w0 w e0 e1 r0 r1 x0 x1 l1 l2 v1 v2) : SpW gx gy B w0 w.drew e0 e1 r0 r1 x0 x1 l1 l2 v1 v2 := h.move (below_drew1 (Below.refl _ _))
set_option maxHeartbeats 4000000 in
set_option maxRecDepth 100000 in
theorem SRun_walk (gs m : Nat) (fi : Int) (a b c : ByteArray) (hn : a.size ≤ 1000000) (hb : b.size = a.size) (hc : c.size = a.size) (hm : m ≤ 100) (w : World) (hg : w.heap[gs]? = some (.cells #[.int .i64 (m : Int), .int .i64 fi] 30 (0, 0))) :
    Calls Tryd.prog 59 #[.pointer (some ⟨gs, 0, none⟩), .string a, .string b, .string c] w fun e w' =>
      e = .returned (.tuple #[.string (strOfNums (lvs (fun i => (swAt a b c (sw0 m fi) (i + 1)).e0) a.size)), .string (strOfNums (lvs (fun i => (swAt a b c (sw0 m fi) (i + 1)).e1) a.size))]) ∧ Below w.heap.size w w' := by
  have HN := Aside0.mk hn
  have HZa : Aside0 (a.size = a.size) := ⟨rfl⟩
  have HZb := Aside0.mk hb
  have HZc := Aside0.mk hc
  have HM := Aside0.mk hm
  have HG := Aside0.mk hg
  clear hn hb hc hm
  obtain ⟨F0, hF0⟩ : ∃ F0, F0 = (fi == 0) := ⟨_, rfl⟩
  obtain ⟨F1, hF1⟩ : ∃ F1, F1 = (fi == 1) := ⟨_, rfl⟩
  have HF0 := Aside0.mk hF0
  have HF1 := Aside0.mk hF1
  have kF0 := hF0.symm
  have kF1 := hF1.symm
  clear hF0 hF1
  have cS : w.cell? ⟨gs, 1, none⟩ = some (.int .i64 fi) := (blk_cell hg 1).trans rfl
  clear hg
  go_enter Tryd.func59, Tryd.ntmps59
  go_wp2_with (first
    | (go_at_call 87; (with_reducible refine (New gs m fi F0 _ HG.out HM.out).mono ?_); rintro e w1 ⟨gx, x0, rfl, hx, hr, hgx, hb⟩; have HX := Aside0.mk hx; have HR := Aside0.mk hr; have HGX := Aside0.mk hgx; have HB := Aside0.mk hb; have cS : w1.cell? ⟨gs, 1, none⟩ = some (.int .i64 fi) := (blk_cell (blk_below HG.out hb) 1).trans rfl; clear hx hr hgx hb)
    | (go_at_call 87; (with_reducible refine (New gs m fi F1 _ (blk_below HG.out HB.out) HM.out).mono ?_); rintro e w2 ⟨gy, x1, rfl, hx, hr, hgx, hb⟩; have HS := Aside0.mk (SpW.start (below_size HB.out) HX.out HR.out HGX.out hx hr hgx HB.out hb); clear hx hr hgx hb))
  go_loopg [14, 12, 13] a.size (fun kq v14 v12 v13 w' => ∃ (j : Nat) (i : Int) (S : SW) (x0 x1 u12 u13 : Value) (l1 l2 : List Int), v14 = .int .i64 i ∧ u12 = v12 ∧ u13 = v13 ∧ Aside0 (i = (j : Int)) ∧ Aside0 (j + kq = a.size) ∧ Aside0 (S = swAt a b c (sw0 m fi) j) ∧ Aside0 (l1 = lvs (fun i => (swAt a b c (sw0 m fi) (i + 1)).e0) j) ∧ Aside0 (l2 = lvs (fun i => (swAt a b c (sw0 m fi) (i + 1)).e1) j) ∧ Aside0 (SpW gx gy w.heap.size w w' S.e0 S.e1 S.r0 S.r1 x0 x1 l1 l2 u12 u13))
  case atStart => exact ⟨0, 0, ⟨F0, F1, List.replicate m F0, List.replicate m F1⟩, x0, x1, _, _, [], [], rfl, rfl, rfl, ⟨rfl⟩, ⟨by omega⟩, ⟨by rw [HF0.out, HF1.out]; rfl⟩, ⟨rfl⟩, ⟨rfl⟩, HS⟩
  case round =>
    clear HS HX HR HGX HB cS HG kF0 kF1
    obtain ⟨j, i, S, x0, x1, u12, u13, l1, l2, rfl, rfl, rfl, HI, HE, HSQ, HW1, HW2, HS⟩ := hrel
    have HI0 : Aside0 (0 ≤ i) := ⟨by have := HI.out; omega⟩
    have ls : (a.size : Int) = (a.size : Int) := rfl
    by_cases hlt : i < (a.size : Int)
    · cases gk with
      | zero => have := HE.out; have := HI.out; omega
      | succ g1' =>
      have HIT := Aside0.mk hlt
      have HL0 : Aside0 (S.r0.length ≤ 100) := ⟨by rw [HSQ.out, (swAt_len a b c (sw0 m fi) j).1]; simp [sw0]; exact HM.out⟩
      have HL1 : Aside0 (S.r1.length ≤ 100) := ⟨by rw [HSQ.out, (swAt_len a b c (sw0 m fi) j).2]; simp [sw0]; exact HM.out⟩
      have HLN1 : Aside0 (l1.length ≤ 1000000) := ⟨by rw [HW1.out, lvs_len]; have := HE.out; have := HN.out; omega⟩
      have HLN2 : Aside0 (l2.length ≤ 1000000) := ⟨by rw [HW2.out, lvs_len]; have := HE.out; have := HN.out; omega⟩
      obtain ⟨e0, e1, r0, r1⟩ := S
      obtain ⟨j', hj'⟩ : ∃ j', j' = i - 1 := ⟨_, rfl⟩
      have HJ := Aside0.mk hj'
      clear hj'
      go_upto_region 8 with (fail)
      go_cut [51] (fun v51 wd => v51 = .bool (dn a i) ∧ wr = wd)
      case first =>
        have hb0 := bt_at a i
        have hb1 := bt_at a j'
        by_cases hi : 0 < i
        · have hp := eq_true hi
          have q0 := HJ.out
          have qz := HZa.out
          have qi := HIT.out
          have qn := HN.out
          have q1 : (0 ≤ j') = True := eq_true (by omega)
          have q2 : (j' < (a.size : Int)) = True := eq_true (by omega)
          have wm : IntKind.i64.wrap (i - 1) = j' := by rw [← q0]; exact w_in _ (by omega) (by omega)
          have q3 : (i < (a.size : Int)) = True := eq_true (by omega)
          have q4 : (0 ≤ i) = True := eq_true (by omega)
          clear q0 qz qi qn
          by_cases h48 : bt a i = 48
          · have m48 : (bt a i == 48) = true := beq_iff_eq.mpr h48
            by_cases h49 : bt a j' = 49
            · have m49 : (bt a j' == 49) = true := beq_iff_eq.mpr h49
              have HD : Aside0 (dn a i = true) := ⟨by unfold dn; rw [← HJ.out, m49, m48, decide_eq_true hi]; rfl⟩
              go_wp2
              go_meet
              case rel => exact ⟨by rw [HD.out], rfl⟩
            · have m49 : (bt a j' == 49) = false := beq_eq_false_iff_ne.mpr h49
              have HD : Aside0 (dn a i = false) := ⟨by unfold dn; rw [← HJ.out, m49]; simp⟩
              go_wp2
              go_meet
              case rel => exact ⟨by rw [HD.out], rfl⟩
          · have m48 : (bt a i == 48) = false := beq_eq_false_iff_ne.mpr h48
            have HD : Aside0 (dn a i = false) := ⟨by unfold dn; rw [m48]; simp⟩
            go_wp2
            go_meet
            case rel => exact ⟨by rw [HD.out], rfl⟩
        · have hp := eq_false hi
          have HD : Aside0 (dn a i = false) := ⟨by unfold dn; rw [decide_eq_false hi]; rfl⟩
          go_wp2
          go_meet
          case rel => exact ⟨by rw [HD.out], rfl⟩
      case rest =>
        obtain ⟨rfl, rfl⟩ := hcut
        obtain ⟨D, hD⟩ : ∃ D, D = dn a i := ⟨_, rfl⟩
        rw [← hD]
        have HD := Aside0.mk hD.symm
        clear hD
        go_upto_if 51 with (fail)
        go_cut [14] (fun v14 wd => ∃ (S2 : SW) (xx : Value), v14 = .int .i64 i ∧ Aside0 (S2 = side0 a c i ⟨e0, e1, r0, r1⟩) ∧ Aside0 (SpW gx gy w.heap.size w wd S2.e0 S2.e1 S2.r0 S2.r1 xx x1 l1 l2 u12 u13))
        case first =>
          cases D with
          | false =>
            go_wp2
            go_meet
            case rel => exact ⟨⟨e0, e1, r0, r1⟩, x0, rfl, ⟨by unfold side0; rw [if_neg (by rw [HD.out]; decide)]⟩, HS⟩
          | true =>
            have hbc := bt_at c i
            have q3 : (i < (c.size : Int)) = True := eq_true (by have := HZc.out; have := HIT.out; omega)
            have q4 : (0 ≤ i) = True := eq_true (by have := HI0.out; omega)
            by_cases hc : bt c i = 48
            · have mc : (bt c i == 48) = true := beq_iff_eq.mpr hc
              have HMC := Aside0.mk mc
              have cX : wr.cell? ⟨gx, 0, none⟩ = some (.bool e0) := (blk_cell HS.out.bx 0).trans rfl
              have cO : wr.cell? ⟨gy, 0, none⟩ = some (.bool e1) := (blk_cell HS.out.bY 0).trans rfl
              go_wp2
              go_still_tail 16, (by kernel_rfl)
              change wpList _ _ _ _ _ wr.drew
              go_wp2_with (go_at_call 88; (with_reducible refine (Down gx w.heap.size e0 (!e1) e1 r0 x0 _ (HS.out.drew).bx (HS.out.drew).o0 HL0.out HS.out.hx (HS.out.drew).hB).mono ?_); rintro e wn ⟨rfl, xn, hg, hr, hb, hk⟩; have HS2 := Aside0.mk ((HS.out.drew).downX hg hr hb hk); clear hg hr hb hk)
              go_meet
              case rel => exact ⟨⟨sideUse r0 (!e1) && !e1, e1, sideRow r0 (!e1), r1⟩, xn, rfl, ⟨by unfold side0; rw [if_pos HD.out, HMC.out]; simp⟩, HS2⟩
            · have mc : (bt c i == 48) = false := beq_eq_false_iff_ne.mpr hc
              have HMC := Aside0.mk mc
              have cX : wr.cell? ⟨gx, 0, none⟩ = some (.bool e0) := (blk_cell HS.out.bx 0).trans rfl
              have cO : wr.cell? ⟨gy, 0, none⟩ = some (.bool e1) := (blk_cell HS.out.bY 0).trans rfl
              go_wp2
              go_still_tail 16, (by kernel_rfl)
              change wpList _ _ _ _ _ wr.drew
              go_wp2_with (go_at_call 88; (with_reducible refine (Down gx w.heap.size e0 false e1 r0 x0 _ (HS.out.drew).bx (HS.out.drew).o0 HL0.out HS.out.hx (HS.out.drew).hB).mono ?_); rintro e wn ⟨rfl, xn, hg, hr, hb, hk⟩; have HS2 := Aside0.mk ((HS.out.drew).downX hg hr hb hk); clear hg hr hb hk)
              go_meet
              case rel => exact ⟨⟨sideUse r0 false && !e1, e1, sideRow r0 false, r1⟩, xn, rfl, ⟨by unfold side0; rw [if_pos HD.out, HMC.out]; simp⟩, HS2⟩
        case rest =>
          clear HS HD
          obtain ⟨S0, y0, rfl, HSD0, HS⟩ := hcut
          obtain ⟨wq0, hwq⟩ : ∃ wq, wq = wc := ⟨_, rfl⟩
          subst hwq
          have HL0' : Aside0 (S0.r0.length ≤ 100) := ⟨by have h1 := (side0_len a c i ⟨e0, e1, r0, r1⟩).1; rw [HSD0.out, h1]; exact HL0.out⟩
          have HL1' : Aside0 (S0.r1.length ≤ 100) := ⟨by have h1 := (side0_len a c i ⟨e0, e1, r0, r1⟩).2; rw [HSD0.out, h1]; exact HL1.out⟩
          clear HL0 HL1
          have HL0 := HL0'
          have HL1 := HL1'
          clear HL0' HL1'
          obtain ⟨d0, d1, p0, p1⟩ := S0
          go_upto_region 10 with (fail)
          go_cut [83] (fun v83 wd => v83 = .bool (dn b i) ∧ wq0 = wd)
          case first =>
            have hb0 := bt_at b i
            have hb1 := bt_at b j'
            by_cases hi : 0 < i
            · have hp := eq_true hi
              have q0 := HJ.out
              have qz := HZb.out
              have qi := HIT.out
              have qn := HN.out
              have q1 : (0 ≤ j') = True := eq_true (by omega)
              have q2 : (j' < (b.size : Int)) = True := eq_true (by omega)
              have wm : IntKind.i64.wrap (i - 1) = j' := by rw [← q0]; exact w_in _ (by omega) (by omega)
              have q3 : (i < (b.size : Int)) = True := eq_true (by omega)
              have q4 : (0 ≤ i) = True := eq_true (by omega)
              clear q0 qz qi qn
              by_cases h48 : bt b i = 48
              · have m48 : (bt b i == 48) = true := beq_iff_eq.mpr h48
                by_cases h49 : bt b j' = 49
                · have m49 : (bt b j' == 49) = true := beq_iff_eq.mpr h49
                  have HD : Aside0 (dn b i = true) := ⟨by unfold dn; rw [← HJ.out, m49, m48, decide_eq_true hi]; rfl⟩
                  go_wp2
                  go_meet
                  case rel => exact ⟨by rw [HD.out], rfl⟩
                · have m49 : (bt b j' == 49) = false := beq_eq_false_iff_ne.mpr h49
                  have HD : Aside0 (dn b i = false) := ⟨by unfold dn; rw [← HJ.out, m49]; simp⟩
                  go_wp2
                  go_meet
                  case rel => exact ⟨by rw [HD.out], rfl⟩
              · have m48 : (bt b i == 48) = false := beq_eq_false_iff_ne.mpr h48
                have HD : Aside0 (dn b i = false) := ⟨by unfold dn; rw [m48]; simp⟩
                go_wp2
                go_meet
                case rel => exact ⟨by rw [HD.out], rfl⟩
            · have hp := eq_false hi
              have HD : Aside0 (dn b i = false) := ⟨by unfold dn; rw [decide_eq_false hi]; rfl⟩
              go_wp2
              go_meet
              case rel => exact ⟨by rw [HD.out], rfl⟩
          case rest =>
            obtain ⟨rfl, rfl⟩ := hcut
            obtain ⟨D, hD⟩ : ∃ D, D = dn b i := ⟨_, rfl⟩
            rw [← hD]
            have HD := Aside0.mk hD.symm
            clear hD
            go_upto_if 83 with (fail)
            go_cut [14] (fun v14 wd => ∃ (S2 : SW) (xx : Value), v14 = .int .i64 i ∧ Aside0 (S2 = side1 b c i ⟨d0, d1, p0, p1⟩) ∧ Aside0 (SpW gx gy w.heap.size w wd S2.e0 S2.e1 S2.r0 S2.r1 y0 xx l1 l2 u12 u13))
            case first =>
              cases D with
              | false =>
                go_wp2
                go_meet
                case rel => exact ⟨⟨d0, d1, p0, p1⟩, x1, rfl, ⟨by unfold side1; rw [if_neg (by rw [HD.out]; decide)]⟩, HS⟩
              | true =>
                have hbc := bt_at c i
                have q3 : (i < (c.size : Int)) = True := eq_true (by have := HZc.out; have := HIT.out; omega)
                have q4 : (0 ≤ i) = True := eq_true (by have := HI0.out; omega)
                by_cases hc : bt c i = 49
                · have mc : (bt c i == 49) = true := beq_iff_eq.mpr hc
                  have HMC := Aside0.mk mc
                  have cX : wq0.cell? ⟨gy, 0, none⟩ = some (.bool d1) := (blk_cell HS.out.bY 0).trans rfl
                  have cO : wq0.cell? ⟨gx, 0, none⟩ = some (.bool d0) := (blk_cell HS.out.bx 0).trans rfl
                  go_wp2
                  go_still_tail 16, (by kernel_rfl)
                  change wpList _ _ _ _ _ wq0.drew
                  go_wp2_with (go_at_call 88; (with_reducible refine (Down gy w.heap.size d1 (!d0) d0 p1 x1 _ (HS.out.drew).bY (HS.out.drew).o1 HL1.out HS.out.hy (HS.out.drew).hB).mono ?_); rintro e wn ⟨rfl, xn, hg, hr, hb, hk⟩; have HS2 := Aside0.mk ((HS.out.drew).downY hg hr hb hk); clear hg hr hb hk)
                  go_meet
                  case rel => exact ⟨⟨d0, sideUse p1 (!d0) && !d0, p0, sideRow p1 (!d0)⟩, xn, rfl, ⟨by unfold side1; rw [if_pos HD.out, HMC.out]; simp⟩, HS2⟩
                · have mc : (bt c i == 49) = false := beq_eq_false_iff_ne.mpr hc
                  have HMC := Aside0.mk mc
                  have cX : wq0.cell? ⟨gy, 0, none⟩ = some (.bool d1) := (blk_cell HS.out.bY 0).trans rfl
                  have cO : wq0.cell? ⟨gx, 0, none⟩ = some (.bool d0) := (blk_cell HS.out.bx 0).trans rfl
                  go_wp2
                  go_still_tail 16, (by kernel_rfl)
                  change wpList _ _ _ _ _ wq0.drew
                  go_wp2_with (go_at_call 88; (with_reducible refine (Down gy w.heap.size d1 false d0 p1 x1 _ (HS.out.drew).bY (HS.out.drew).o1 HL1.out HS.out.hy (HS.out.drew).hB).mono ?_); rintro e wn ⟨rfl, xn, hg, hr, hb, hk⟩; have HS2 := Aside0.mk ((HS.out.drew).downY hg hr hb hk); clear hg hr hb hk)
                  go_meet
                  case rel => exact ⟨⟨d0, sideUse p1 false && !d0, p0, sideRow p1 false⟩, xn, rfl, ⟨by unfold side1; rw [if_pos HD.out, HMC.out]; simp⟩, HS2⟩
            case rest =>
              clear HS HD
              obtain ⟨S1, y1, rfl, HSD1, HS⟩ := hcut
              obtain ⟨wq1, hwq⟩ : ∃ wq, wq = wc := ⟨_, rfl⟩
              subst hwq
              obtain ⟨c0, hc0⟩ : ∃ c0 : Int, c0 = (if S1.e0 = true then 49 else 48) := ⟨_, rfl⟩
              obtain ⟨c1, hc1⟩ : ∃ c1 : Int, c1 = (if S1.e1 = true then 49 else 48) := ⟨_, rfl⟩
              have HC0 := Aside0.mk hc0
              have HC1 := Aside0.mk hc1
              have HV0 : Aside0 (spec_l07Level.f S1.e0 = some c0) := ⟨by rw [hc0]; unfold spec_l07Level.f; cases S1.e0 <;> rfl⟩
              have HV1 : Aside0 (spec_l07Level.f S1.e1 = some c1) := ⟨by rw [hc1]; unfold spec_l07Level.f; cases S1.e1 <;> rfl⟩
              clear hc0 hc1
              obtain ⟨f0, f1, s0, s1⟩ := S1
              have cX : wq1.cell? ⟨gx, 0, none⟩ = some (.bool f0) := (blk_cell HS.out.bx 0).trans rfl
              have cY : wq1.cell? ⟨gy, 0, none⟩ = some (.bool f1) := (blk_cell HS.out.bY 0).trans rfl
              have wj : IntKind.i64.wrap (i + 1) = i + 1 := w_in _ (by have := HI0.out; omega) (by have := HIT.out; have := HN.out; omega)
              go_wp2_with (first
                | (go_at_call 46; (with_reducible refine (spec_l07Level.calls f0 c0 _ HV0.out).mono ?_); rintro e wn ⟨rfl, hb0⟩; have hb := to_below_d hb0; clear hb0; have n0_ := Aside0.mk (HS.out.move hb); clear HS hb; have HS := n0_; clear n0_)
                | ((with_reducible refine gate_builtin (b := .append) (xs := #[.tmp 101, .tmp 107]) rfl ?_); at_builtin; refine print_append_of (w0 := w) (Value.int .u8) w.heap.size rfl (.tmp 101) (.tmp 107) 39 5 (.int .u8 0) 1 rfl Tryd.underlying39 waveInfo rfl (by decide) u12 l1 c0 rfl rfl rfl HS.out.q1 HS.out.fb HS.out.hB ?aL ?_; (case aL => have := HLN1.out; omega); intro v3 w3 ho hb hgr hat; have HS3 := Aside0.mk (HS.out.app1 hgr ho hat); clear HS ho hb hgr hat; have cY : w3.cell? ⟨gy, 0, none⟩ = some (.bool f1) := (blk_cell HS3.out.bY 0).trans rfl)
                | (go_at_call 46; (with_reducible refine (spec_l07Level.calls f1 c1 _ HV1.out).mono ?_); rintro e wn ⟨rfl, hb0⟩; have hb := to_below_d hb0; clear hb0; have n0_ := Aside0.mk (HS3.out.move hb); clear HS3 hb; have HS3 := n0_; clear n0_)
                | ((with_reducible refine gate_builtin (b := .append) (xs := #[.tmp 109, .tmp 115]) rfl ?_); at_builtin; refine print_append_of (w0 := w) (Value.int .u8) w.heap.size rfl (.tmp 109) (.tmp 115) 39 5 (.int .u8 0) 1 rfl Tryd.underlying39 waveInfo rfl (by decide) u13 l2 c1 rfl rfl rfl HS3.out.q2 HS3.out.fb HS3.out.hB ?aL ?_; (case aL => have := HLN2.out; omega); intro v4 w4 ho hb hgr hat; have HS4 := Aside0.mk (HS3.out.app2 hgr ho hat); clear HS3 ho hb hgr hat))
              have HFin : Aside0 ((⟨f0, f1, s0, s1⟩ : SW) = swAt a b c (sw0 m fi) (j + 1)) := ⟨by rw [HSD1.out, HSD0.out, HSQ.out, HI.out]; rfl⟩
              go_roundg g1'
              case measure => omega
              case rel => exact ⟨j + 1, i + 1, ⟨f0, f1, s0, s1⟩, y0, y1, _, _, _, _, rfl, rfl, rfl, ⟨by have := HI.out; omega⟩, ⟨by have := HE.out; omega⟩, HFin, ⟨by rw [HW1.out, lvs_snoc', ← HFin.out, HC0.out]⟩, ⟨by rw [HW2.out, lvs_snoc', ← HFin.out, HC1.out]⟩, HS4⟩
    · have e : j = a.size := by have := HE.out; have := HI.out; omega
      subst e
      have hc1 := own_string (P := Tryd.prog) Tryd.underlying39 Tryd.underlying5 Tryd.underlying9 (xs := l1) HS.out.q1
      have hc2 := own_string (P := Tryd.prog) Tryd.underlying39 Tryd.underlying5 Tryd.underlying9 (xs := l2) HS.out.q2
      have hc3 := own_string (P := Tryd.prog) Tryd.underlying39 Tryd.underlying5 Tryd.underlying9 (xs := l1) HS.out.drew.q1
      have hc4 := own_string (P := Tryd.prog) Tryd.underlying39 Tryd.underlying5 Tryd.underlying9 (xs := l2) HS.out.drew.q2
      clear hc1 hc2
      go_wp2
      go_region
      go_wp2
      go_ret2
      rw [← HW1.out, ← HW2.out]
      exact ⟨rfl, below_drew1 HS.out.fb⟩
end Go.Proofs.YthkpnbelbaljdaaDoor.X
-- Written by a program of this session out of the kit's print of the loaded functions: a plain function of a Go function, and its contract.
namespace Go.Proofs.YthkpnbelbaljdaaDoor.X
open Go.RowKit Go.Proofs.YthkpnbelbaljdaaDoorW.PrintWords Go.Proofs.YthkpnbelbaljdaaDoorW.PrintLast Go.Proofs.YthkpnbelbaljdaaDoorW.PrintMore
attribute [local go_sem] max2_int min2_int max_two min_two max_three min_three max_four min_four   -- for this text's walks alone
set_option linter.unusedVariables false
set_option linter.unusedSimpArgs false
/-- A state of type 30 at block g of W; what its slices lead to came in by w0. -/
def IsS30 (w0 W : World) (g : Nat) (f0 : Int) (f1 : Int) : Prop := W.heap[g]? = some (.cells #[.int .i64 f0, .int .i64 f1] 30 (0, 0)) ∧ w0.heap.size ≤ g
theorem IsS30.grown {w0 W : World} {g : Nat} {f0 : Int} {f1 : Int} {W1 : World} {row : Option Nat} (h : IsS30 w0 W g f0 f1) (hw : W.grownBy W1 row) (hne : some g ≠ row) : IsS30 w0 W1 g f0 f1 := by
  obtain ⟨hb, hg⟩ := h
  exact ⟨blk_grown hb hw hne, hg⟩
theorem IsS30.kept {w0 W : World} {g : Nat} {f0 : Int} {f1 : Int} {W1 : World} {S : Nat → Prop} (h : IsS30 w0 W g f0 f1) (hk : Kept W W1 S) (hne : ¬ S g) : IsS30 w0 W1 g f0 f1 := by
  obtain ⟨hb, hg⟩ := h
  exact ⟨blk_kept hb hk hne, hg⟩
theorem IsS30.below {w0 W : World} {g : Nat} {f0 : Int} {f1 : Int} {W1 : World} (h : IsS30 w0 W g f0 f1) (hw : Below W.heap.size W W1) : IsS30 w0 W1 g f0 f1 := h.grown (grown_of_below hw none) (by simp)
theorem IsS30.alloc {w0 W : World} {g : Nat} {f0 : Int} {f1 : Int} (h : IsS30 w0 W g f0 f1) (o : Obj) : IsS30 w0 (W.alloc o) g f0 f1 := h.below (below_alloc (Below.refl _ _) o)
theorem IsS30.drewN {w0 W : World} {g : Nat} {f0 : Int} {f1 : Int} (h : IsS30 w0 W g f0 f1) (m : Nat) : IsS30 w0 (W.drewN m) g f0 f1 := h
theorem IsS30.drew {w0 W : World} {g : Nat} {f0 : Int} {f1 : Int} (h : IsS30 w0 W g f0 f1) : IsS30 w0 W.drew g f0 f1 := h
theorem IsS30.at_ {w0 W : World} {g : Nat} {f0 : Int} {f1 : Int} {w' : World} {m : Nat} (hq : W.drewN m = w') (h : IsS30 w0 W g f0 f1) : IsS30 w0 w' g f0 f1 := by subst hq; exact IsS30.drewN h m
theorem IsS30.apart {w0 W : World} {g : Nat} {f0 : Int} {f1 : Int} {α : Type} {d : Kd α} {e : Nat} {base : Nat} {ok : Nat → Prop} {v : Value} {xs : List α} (h : IsS30 w0 W g f0 f1) (ho : d.R e W base ok v xs) (ht : ∀ q, q ∈ e :: d.E → q ≠ 30) : d.R e W base (fun k => ok k ∧ k ≠ g) v xs := by
  obtain ⟨hb, hg⟩ := h
  exact Kd.R_types ho hb ht
theorem IsS30.own_ne {w0 W : World} {g : Nat} {f0 : Int} {f1 : Int} {α : Type} {d : Kd α} {e : Nat} {base : Nat} {ok : Nat → Prop} {v : Value} {xs : List α} (h : IsS30 w0 W g f0 f1) (ho : d.R e W base ok v xs) (ht : e ≠ 30) : some g ≠ v.ownBlock := by
  obtain ⟨hb, hg⟩ := h
  exact Kd.R_ne ho hb ht
theorem IsS30.ge {w0 W : World} {g : Nat} {f0 : Int} {f1 : Int} (h : IsS30 w0 W g f0 f1) : w0.heap.size ≤ g := by
  obtain ⟨hb, hg⟩ := h
  exact hg
theorem IsS30.far {w0 W : World} {g : Nat} {f0 : Int} {f1 : Int} {p : Addr} (h : IsS30 w0 W g f0 f1) (hne : g ≠ p.block) (u : Value) : IsS30 w0 (W.setCell p u) g f0 f1 := by
  obtain ⟨hb, hg⟩ := h
  exact ⟨blk_far hb hne u, hg⟩
theorem cellS30_0 {W : World} {g : Nat} {f0 : Int} {f1 : Int} (h : W.heap[g]? = some (.cells #[.int .i64 f0, .int .i64 f1] 30 (0, 0))) : W.cell? ⟨g, 0, none⟩ = some (.int .i64 f0) := (blk_cell h 0).trans rfl
theorem IsS30.set_0 {w0 W : World} {g : Nat} {f0 : Int} {f1 : Int} (h : IsS30 w0 W g f0 f1) (x : Int) : IsS30 w0 (W.setCell ⟨g, 0, none⟩ (.int .i64 x)) g x f1 := by
  obtain ⟨hb, hg⟩ := h
  exact ⟨by simpa using blk_set hb 0 (.int .i64 x), hg⟩
theorem cellS30_1 {W : World} {g : Nat} {f0 : Int} {f1 : Int} (h : W.heap[g]? = some (.cells #[.int .i64 f0, .int .i64 f1] 30 (0, 0))) : W.cell? ⟨g, 1, none⟩ = some (.int .i64 f1) := (blk_cell h 1).trans rfl
theorem IsS30.set_1 {w0 W : World} {g : Nat} {f0 : Int} {f1 : Int} (h : IsS30 w0 W g f0 f1) (x : Int) : IsS30 w0 (W.setCell ⟨g, 1, none⟩ (.int .i64 x)) g f0 x := by
  obtain ⟨hb, hg⟩ := h
  exact ⟨by simpa using blk_set hb 1 (.int .i64 x), hg⟩
/-! ### spec_l07Is: function 58 -/
def spec_l07Is.f (s0_0 : Int) (s0_1 : Int) : Option (Bool × Int × Int) := (spec_l00In.f s0_0 0 5).bind fun t200 => (if t200 = true then ((spec_l00In.f s0_1 0 1).bind fun t201 => (some (t201, s0_0, s0_1))) else (some (false, s0_0, s0_1)))
set_option maxHeartbeats 8000000 in
set_option maxRecDepth 100000 in
theorem spec_l07Is.calls (g : Nat) (s0_0 : Int) (s0_1 : Int) (r1 : Bool) (r2 : Int) (r3 : Int) (w0 w : World) (hI : IsS30 w0 w g s0_0 s0_1) (hB : Below w0.heap.size w0 w) (h : spec_l07Is.f s0_0 s0_1 = some (r1, r2, r3)) :
    Calls Tryd.prog 58 #[.pointer (some ⟨g, 0, none⟩)] w fun e w' => e = .returned (.bool r1) ∧ IsS30 w0 w' g r2 r3 ∧ Below w0.heap.size w0 w' ∧ KeepBut w w' g none := by
  have HI0 := Aside0.mk hI
  have HK := Aside0.mk (KeepBut.refl w g none)
  have HL := Aside0.mk hB.size
  clear hI
  have HW0 := Aside0.mk hB.size
  have HB := Aside0.mk hB
  clear hB
  have H : ((spec_l00In.f s0_0 0 5).bind fun t200 => (if t200 = true then ((spec_l00In.f s0_1 0 1).bind fun t201 => (some (t201, s0_0, s0_1))) else (some (false, s0_0, s0_1)))) = some (r1, r2, r3) := h
  clear h
  replace H := Option.bind_eq_some_iff.mp H
  obtain ⟨t200, A20, H⟩ := H
  replace H : (if t200 = true then ((spec_l00In.f s0_1 0 1).bind fun t201 => (some (t201, s0_0, s0_1))) else (some (false, s0_0, s0_1))) = some (r1, r2, r3) := H
  have A2 := Aside0.mk A20
  clear A20
  by_cases c3 : t200 = true
  · subst c3
    have H1 : ((spec_l00In.f s0_1 0 1).bind fun t201 => (some (t201, s0_0, s0_1))) = some (r1, r2, r3) := by rw [if_pos rfl] at H; exact H
    clear H
    have H := H1
    clear H1
    replace H := Option.bind_eq_some_iff.mp H
    obtain ⟨t201, A40, H⟩ := H
    replace H : (some (t201, s0_0, s0_1)) = some (r1, r2, r3) := H
    have A4 := Aside0.mk A40
    clear A40
    simp only [Option.some.injEq, Prod.mk.injEq] at H
    obtain ⟨rfl, rfl, rfl⟩ := H
    obtain ⟨HGz5, hgz5⟩ := HI0.out
    have hcz5_0 := cellS30_0 HGz5
    have hcz5_1 := cellS30_1 HGz5
    have hfz5_0 := blk_frozen HGz5 0
    have hfz5_1 := blk_frozen HGz5 1
    clear HGz5 hgz5
    go_enter Tryd.func58, Tryd.ntmps58
    go_wp2_with (first | ((with_reducible refine gate_callee (f := 45) rfl ?_); refine goesL_ (some 7) rfl rfl Tryd.func45 (by kernel_rfl) rfl #[.int .i64 s0_0, .int .i64 0, .int .i64 5] rfl (by (try simp only [List.map_toArray, List.map_cons, List.map_nil]); first | done | rfl | (simp only [List.length_drop, List.length_take]; rfl)) ?_; (with_reducible refine (spec_l00In.calls s0_0 0 5 true _ A2.out).mono ?_); rintro e w' ⟨rfl, ⟨nd, rfl⟩⟩; refine ⟨_, rfl, ?_⟩) | (go_at_call 45; (with_reducible refine (spec_l00In.calls s0_1 0 1 t201 _ A4.out).mono ?_); rintro e w' ⟨rfl, ⟨nd, rfl⟩⟩))
    go_ret
    exact ⟨by first | rfl | (simp [errW_none, errW_some] <;> rfl) | (simp [*, errW_none, errW_some] <;> rfl), by repeat (first | (with_reducible first | exact HI0.out | apply IsS30.alloc | apply IsS30.drewN | apply IsS30.drew | apply IsS30.set_0 | apply IsS30.set_1) | exact HI0.out), by repeat (first | (with_reducible first | exact HB.out | apply below_alloc | apply pw_below_drewN | apply below_drew1 | refine below_set ?_ (IsS30.ge HI0.out)) | exact HB.out), by repeat (first | (with_reducible first | exact HK.out | apply KeepBut.set_ | apply keep_drewN | apply keep_drew | apply keep_alloc) | exact HK.out)⟩
  · replace c3 := Bool.eq_false_iff.mpr c3
    subst c3
    have H1 : (some (false, s0_0, s0_1)) = some (r1, r2, r3) := by rw [if_neg (show ¬ (false = true) by decide)] at H; exact H
    clear H
    have H := H1
    clear H1
    simp only [Option.some.injEq, Prod.mk.injEq] at H
    obtain ⟨rfl, rfl, rfl⟩ := H
    obtain ⟨HGz6, hgz6⟩ := HI0.out
    have hcz6_0 := cellS30_0 HGz6
    have hcz6_1 := cellS30_1 HGz6
    have hfz6_0 := blk_frozen HGz6 0
    have hfz6_1 := blk_frozen HGz6 1
    clear HGz6 hgz6
    go_enter Tryd.func58, Tryd.ntmps58
    go_wp2_with (first | ((with_reducible refine gate_callee (f := 45) rfl ?_); refine goesL_ (some 7) rfl rfl Tryd.func45 (by kernel_rfl) rfl #[.int .i64 s0_0, .int .i64 0, .int .i64 5] rfl (by (try simp only [List.map_toArray, List.map_cons, List.map_nil]); first | done | rfl | (simp only [List.length_drop, List.length_take]; rfl)) ?_; (with_reducible refine (spec_l00In.calls s0_0 0 5 false _ A2.out).mono ?_); rintro e w' ⟨rfl, ⟨nd, rfl⟩⟩; refine ⟨_, rfl, ?_⟩))
    go_ret
    exact ⟨by first | rfl | (simp [errW_none, errW_some] <;> rfl) | (simp [*, errW_none, errW_some] <;> rfl), by repeat (first | (with_reducible first | exact HI0.out | apply IsS30.alloc | apply IsS30.drewN | apply IsS30.drew | apply IsS30.set_0 | apply IsS30.set_1) | exact HI0.out), by repeat (first | (with_reducible first | exact HB.out | apply below_alloc | apply pw_below_drewN | apply below_drew1 | refine below_set ?_ (IsS30.ge HI0.out)) | exact HB.out), by repeat (first | (with_reducible first | exact HK.out | apply KeepBut.set_ | apply keep_drewN | apply keep_drew | apply keep_alloc) | exact HK.out)⟩
end Go.Proofs.YthkpnbelbaljdaaDoor.X
/- The reference's EnablesOf: what it answers. Conditions: small texts. -/
namespace Go.Proofs.YthkpnbelbaljdaaDoor.X
open Go.RowKit Go.Proofs.YthkpnbelbaljdaaDoorW.PrintWords Go.Proofs.YthkpnbelbaljdaaDoorW.PrintLast Go.Proofs.YthkpnbelbaljdaaDoorW.PrintMore
set_option linter.unusedVariables false
set_option linter.unusedSimpArgs false
def swOk (a0_0 a0_1 : Int) : Bool := decide (0 ≤ a0_0 ∧ a0_0 ≤ 5) && decide (0 ≤ a0_1 ∧ a0_1 ≤ 1)
def wv3 (a b c : ByteArray) : Bool := isW a && isW b && isW c && decide (a.size = b.size) && decide (b.size = c.size)
theorem sin_eq (a l h : Int) : spec_l00In.f a l h = some (decide (l ≤ a ∧ a ≤ h)) := by
  unfold spec_l00In.f
  by_cases h1 : a ≥ l
  · rw [if_pos h1]; congr 1; simp; intro; exact h1
  · rw [if_neg h1]; congr 1; symm; exact decide_eq_false (fun h => h1 h.1)
theorem is_eq (a0_0 a0_1 : Int) : spec_l07Is.f a0_0 a0_1 = some (swOk a0_0 a0_1, a0_0, a0_1) := by
  unfold spec_l07Is.f swOk
  rw [sin_eq, Option.bind_some]
  by_cases h1 : 0 ≤ a0_0 ∧ a0_0 ≤ 5
  · rw [decide_eq_true h1, if_pos rfl, sin_eq]; rfl
  · rw [decide_eq_false h1, if_neg (by decide)]; rfl
set_option maxHeartbeats 4000000 in
set_option maxRecDepth 100000 in
theorem EnS_no1 (a0_0 a0_1 : Int) (a1 a2 a3 : ByteArray) (w : World) (h : swOk a0_0 a0_1 = false) :
    Calls Tryd.prog 15 #[.agg #[.int .i64 a0_0, .int .i64 a0_1], .string a1, .string a2, .string a3] w fun e w' => e = .returned (.tuple #[.string ⟨#[]⟩, .string ⟨#[]⟩, .bool false]) ∧ Below w.heap.size w w' := by
  have H1 : Aside0 (spec_l07Is.f a0_0 a0_1 = some (false, a0_0, a0_1)) := ⟨by rw [is_eq, h]⟩
  clear h
  have HB := Aside0.mk (Below.refl w.heap.size w)
  go_enter Tryd.func15, Tryd.ntmps15
  go_wp2_with (first
    | ((with_reducible refine gate_dst (N := 4) rfl ?_); refine box_event ?hg (N := 4) ?hd (cs := #[.int .i64 a0_0, .int .i64 a0_1]) (t := 30) ?hr ?_; (case hd => rfl); (case hg => rfl); (case hr => first | (go_simp; done) | (go_simp; rfl)); intro gs hg wn hbox hb; have HI : Aside0 (IsS30 w wn gs a0_0 a0_1) := ⟨hbox, by rw [hg]; exact below_size HB.out⟩; clear hg hbox; have n0_ := Aside0.mk (below_step HB.out hb); clear HB  hb; have HB := n0_; clear n0_)
    | (go_at_call 58; (with_reducible refine (spec_l07Is.calls gs a0_0 a0_1 false a0_0 a0_1 w _ HI.out HB.out H1.out).mono ?_); rintro e w2 ⟨rfl, hI, hB, hk⟩; have n0_ := Aside0.mk hI; have n1_ := Aside0.mk hB; clear HI HB hI hB hk; have HI := n0_; have HB := n1_; clear n0_ n1_))
  go_ret3
  exact ⟨rfl, HB.out⟩
set_option maxHeartbeats 4000000 in
set_option maxRecDepth 100000 in
theorem EnS_no2 (a0_0 a0_1 : Int) (a1 a2 a3 : ByteArray) (K : Nat) (w : World) (h : swOk a0_0 a0_1 = true) (h3 : spec_l07Three.f K a1 a2 a3 = some false) :
    Calls Tryd.prog 15 #[.agg #[.int .i64 a0_0, .int .i64 a0_1], .string a1, .string a2, .string a3] w fun e w' => e = .returned (.tuple #[.string ⟨#[]⟩, .string ⟨#[]⟩, .bool false]) ∧ Below w.heap.size w w' := by
  have H1 : Aside0 (spec_l07Is.f a0_0 a0_1 = some (true, a0_0, a0_1)) := ⟨by rw [is_eq, h]⟩
  have H3 := Aside0.mk h3
  clear h h3
  have HB := Aside0.mk (Below.refl w.heap.size w)
  go_enter Tryd.func15, Tryd.ntmps15
  go_wp2_with (first
    | ((with_reducible refine gate_dst (N := 4) rfl ?_); refine box_event ?hg (N := 4) ?hd (cs := #[.int .i64 a0_0, .int .i64 a0_1]) (t := 30) ?hr ?_; (case hd => rfl); (case hg => rfl); (case hr => first | (go_simp; done) | (go_simp; rfl)); intro gs hg wn hbox hb; have HI : Aside0 (IsS30 w wn gs a0_0 a0_1) := ⟨hbox, by rw [hg]; exact below_size HB.out⟩; clear hg hbox; have n0_ := Aside0.mk (below_step HB.out hb); clear HB  hb; have HB := n0_; clear n0_)
    | (go_at_call 58; (with_reducible refine (spec_l07Is.calls gs a0_0 a0_1 true a0_0 a0_1 w _ HI.out HB.out H1.out).mono ?_); rintro e w2 ⟨rfl, hI, hB, hk⟩; have n0_ := Aside0.mk hI; have n1_ := Aside0.mk hB; clear HI HB hI hB hk; have HI := n0_; have HB := n1_; clear n0_ n1_)
    | (go_at_call 44; (with_reducible refine (spec_l07Three.calls K a1 a2 a3 false _ H3.out).mono ?_); rintro e w3 ⟨rfl, hb0⟩; have hb := to_below_d hb0; clear hb0; have n1_ := Aside0.mk (below_step HB.out hb); clear HB hb; have HB := n1_; clear n1_))
  go_ret3
  exact ⟨rfl, HB.out⟩
set_option maxHeartbeats 4000000 in
set_option maxRecDepth 100000 in
theorem EnS_yes (m : Nat) (a0_1 : Int) (a1 a2 a3 : ByteArray) (K : Nat) (w : World) (h : swOk m a0_1 = true) (h3 : spec_l07Three.f K a1 a2 a3 = some true) (hm : m ≤ 100) (hn : a1.size ≤ 1000000) (h2 : a2.size = a1.size) (h4 : a3.size = a1.size) :
    Calls Tryd.prog 15 #[.agg #[.int .i64 (m : Int), .int .i64 a0_1], .string a1, .string a2, .string a3] w fun e w' => e = .returned (.tuple #[.string (strOfNums (lvs (fun i => (swAt a1 a2 a3 (sw0 m a0_1) (i + 1)).e0) a1.size)), .string (strOfNums (lvs (fun i => (swAt a1 a2 a3 (sw0 m a0_1) (i + 1)).e1) a1.size)), .bool true]) ∧ Below w.heap.size w w' := by
  have H1 : Aside0 (spec_l07Is.f m a0_1 = some (true, (m : Int), a0_1)) := ⟨by rw [is_eq, h]⟩
  have H3 := Aside0.mk h3
  have HM := Aside0.mk hm
  have HN := Aside0.mk hn
  have H2 := Aside0.mk h2
  have H4 := Aside0.mk h4
  clear h h3 hm hn h2 h4
  have HB := Aside0.mk (Below.refl w.heap.size w)
  go_enter Tryd.func15, Tryd.ntmps15
  go_wp2_with (first
    | ((with_reducible refine gate_dst (N := 4) rfl ?_); refine box_event ?hg (N := 4) ?hd (cs := #[.int .i64 (m : Int), .int .i64 a0_1]) (t := 30) ?hr ?_; (case hd => rfl); (case hg => rfl); (case hr => first | (go_simp; done) | (go_simp; rfl)); intro gs hg wn hbox hb; have HI : Aside0 (IsS30 w wn gs (m : Int) a0_1) := ⟨hbox, by rw [hg]; exact below_size HB.out⟩; clear hg hbox; have n0_ := Aside0.mk (below_step HB.out hb); clear HB  hb; have HB := n0_; clear n0_)
    | (go_at_call 58; (with_reducible refine (spec_l07Is.calls gs m a0_1 true m a0_1 w _ HI.out HB.out H1.out).mono ?_); rintro e w2 ⟨rfl, hI, hB, hk⟩; have n0_ := Aside0.mk hI; have n1_ := Aside0.mk hB; clear HI HB hI hB hk; have HI := n0_; have HB := n1_; clear n0_ n1_)
    | (go_at_call 44; (with_reducible refine (spec_l07Three.calls K a1 a2 a3 true _ H3.out).mono ?_); rintro e w3 ⟨rfl, hb0⟩; have hb := to_below_d hb0; clear hb0; have n0_ := Aside0.mk (blk_below HI.out.1 hb); have n1_ := Aside0.mk (below_step HB.out hb); clear HB HI hb; have HI := n0_; have HB := n1_; clear n0_ n1_)
    | (go_at_call 59; (with_reducible refine (SRun_walk gs m a0_1 a1 a2 a3 HN.out H2.out H4.out HM.out _ HI.out).mono ?_); rintro e w4 ⟨rfl, hb⟩; have n1_ := Aside0.mk (below_step HB.out hb); clear HB HI hb; have HB := n1_; clear n1_))
  go_ret3
  exact ⟨rfl, HB.out⟩
def spec_EnablesOf.f (a0_0 : Int) (a0_1 : Int) (a1 : ByteArray) (a2 : ByteArray) (a3 : ByteArray) : Option (ByteArray × ByteArray × Bool) :=
  if a1.size ≤ 1048576 ∧ a2.size ≤ 1048576 ∧ a3.size ≤ 1048576 then
    some (if swOk a0_0 a0_1 = true ∧ wv3 a1 a2 a3 = true then (strOfNums (lvs (fun i => (swAt a1 a2 a3 (sw0 a0_0 a0_1) (i + 1)).e0) a1.size), strOfNums (lvs (fun i => (swAt a1 a2 a3 (sw0 a0_0 a0_1) (i + 1)).e1) a1.size), true) else (⟨#[]⟩, ⟨#[]⟩, false))
  else none
theorem isW_size {s : ByteArray} (h : isW s = true) : s.size ≤ 1000000 := by
  unfold isW at h
  simp only [Bool.and_eq_true, decide_eq_true_eq] at h
  omega
theorem spec_EnablesOf.calls (a0_0 : Int) (a0_1 : Int) (a1 : ByteArray) (a2 : ByteArray) (a3 : ByteArray) (r1 r2 : ByteArray) (r3 : Bool) (w : World) (h : spec_EnablesOf.f a0_0 a0_1 a1 a2 a3 = some (r1, r2, r3)) :
    Calls Tryd.prog 15 #[.agg #[.int .i64 a0_0, .int .i64 a0_1], .string a1, .string a2, .string a3] w fun e w' => e = .returned (.tuple #[.string r1, .string r2, .bool r3]) ∧ Below w.heap.size w w' := by
  unfold spec_EnablesOf.f at h
  by_cases hc : a1.size ≤ 1048576 ∧ a2.size ≤ 1048576 ∧ a3.size ≤ 1048576
  · rw [if_pos hc] at h
    have h := Option.some.inj h
    obtain ⟨K, hK⟩ : ∃ K, K = a1.size + a2.size + a3.size + 1 := ⟨_, rfl⟩
    have h3 : spec_l07Three.f K a1 a2 a3 = some (wv3 a1 a2 a3) := three_eq K a1 a2 a3 (by omega) (by omega) (by omega) (by omega) (by omega) (by omega)
    cases hs : swOk a0_0 a0_1 with
    | false =>
      rw [hs, if_neg (by simp)] at h
      simp only [Prod.mk.injEq] at h
      obtain ⟨rfl, rfl, rfl⟩ := h
      exact EnS_no1 a0_0 a0_1 a1 a2 a3 w hs
    | true =>
      cases hw : wv3 a1 a2 a3 with
      | false =>
        rw [hs, hw, if_neg (by simp)] at h
        simp only [Prod.mk.injEq] at h
        obtain ⟨rfl, rfl, rfl⟩ := h
        exact EnS_no2 a0_0 a0_1 a1 a2 a3 K w hs (by rw [h3, hw])
      | true =>
        rw [hs, hw, if_pos ⟨rfl, rfl⟩] at h
        simp only [Prod.mk.injEq] at h
        obtain ⟨rfl, rfl, rfl⟩ := h
        have hs' := hs
        have hw' := hw
        unfold swOk at hs'
        unfold wv3 at hw'
        simp only [Bool.and_eq_true, decide_eq_true_eq] at hs' hw'
        obtain ⟨m, rfl⟩ : ∃ m : Nat, a0_0 = m := ⟨a0_0.toNat, by omega⟩
        exact EnS_yes m a0_1 a1 a2 a3 K w hs (by rw [h3, hw]) (by omega) (isW_size hw'.1.1.1.1) (by omega) (by omega)
  · rw [if_neg hc] at h; cases h
end Go.Proofs.YthkpnbelbaljdaaDoor.X
-- Written by a program of this session out of the kit's print of the loaded functions: a plain function of a Go function, and its contract.
namespace Go.Proofs.YthkpnbelbaljdaaDoor.X
open Go.RowKit Go.Proofs.YthkpnbelbaljdaaDoorW.PrintWords Go.Proofs.YthkpnbelbaljdaaDoorW.PrintLast Go.Proofs.YthkpnbelbaljdaaDoorW.PrintMore
attribute [local go_sem] max2_int min2_int max_two min_two max_three min_three max_four min_four   -- for this text's walks alone
set_option linter.unusedVariables false
set_option linter.unusedSimpArgs false
/-! ### laws_FnExactEnablesOf: function 5 -/
def laws_FnExactEnablesOf.f (a0_0 : Int) (a0_1 : Int) (a1 : ByteArray) (a2 : ByteArray) (a3 : ByteArray) : Option (Bool) := if (a1.size : Int) > 1048576 then (some true) else (if (a2.size : Int) > 1048576 then (some true) else (if (a3.size : Int) > 1048576 then (some true) else ((laws_toSwitch.f a0_0 a0_1).bind fun bt229 => ((spec_EnablesOf.f bt229.1 bt229.2 a1 a2 a3).bind fun bt231 => ((laws_toSwitch.f a0_0 a0_1).bind fun bt234 => ((impl_EnablesOf.f bt234.1 bt234.2 a1 a2 a3).bind fun bt236 => (if bt236.1.toList = bt231.1.toList then (if bt236.2.1.toList = bt231.2.1.toList then (if (bt236.2.2 != bt231.2.2) = true then (some false) else (some true)) else (some false)) else (some false))))))))
set_option maxHeartbeats 8000000 in
set_option maxRecDepth 100000 in
theorem laws_FnExactEnablesOf.calls (a0_0 : Int) (a0_1 : Int) (a1 : ByteArray) (a2 : ByteArray) (a3 : ByteArray) (r : Bool) (w : World) (h : laws_FnExactEnablesOf.f a0_0 a0_1 a1 a2 a3 = some r) :
    Calls Tryd.prog 5 #[.agg #[.int .i64 a0_0, .int .i64 a0_1], .string a1, .string a2, .string a3] w fun e w' => e = .returned (.bool r) ∧ Below w.heap.size w w' := by
  have hu27 := Tryd.underlying27
  have HB := Aside0.mk (Below.refl w.heap.size w)
  have H : (if (a1.size : Int) > 1048576 then (some true) else (if (a2.size : Int) > 1048576 then (some true) else (if (a3.size : Int) > 1048576 then (some true) else ((laws_toSwitch.f a0_0 a0_1).bind fun bt229 => ((spec_EnablesOf.f bt229.1 bt229.2 a1 a2 a3).bind fun bt231 => ((laws_toSwitch.f a0_0 a0_1).bind fun bt234 => ((impl_EnablesOf.f bt234.1 bt234.2 a1 a2 a3).bind fun bt236 => (if bt236.1.toList = bt231.1.toList then (if bt236.2.1.toList = bt231.2.1.toList then (if (bt236.2.2 != bt231.2.2) = true then (some false) else (some true)) else (some false)) else (some false))))))))) = some r := h
  clear h
  by_cases c5 : (a1.size : Int) > 1048576
  · rw [if_pos c5] at H
    have c5b0 : decide (1048576 < (a1.size : Int)) = true := decide_eq_true c5
    have c5b1 : decide (1048576 < a1.size) = true := decide_eq_true (by omega)
    clear c5
    obtain rfl := Option.some.inj H
    go_enter Tryd.func5, Tryd.ntmps5
    go_wp2_with (first | ((with_reducible refine gate_dst (N := 4) rfl ?_); refine box_event ?hg (N := 4) ?hd (cs := #[.int .i64 a0_0, .int .i64 a0_1]) (t := 27) ?hr ?_; (case hd => rfl); (case hg => rfl); (case hr => first | (go_simp; done) | (go_simp; rfl)); intro gb228 hg w6 hbox hb; have n0_ := Aside0.mk (below_step (by repeat (first | (with_reducible first | exact HB.out | apply below_alloc | apply pw_below_drewN | apply below_drew1) | exact HB.out)) hb); have n1_ := Aside0.mk (hbox); have n2_ := Aside0.mk ((by rw [hg]; exact (below_size (by repeat (first | (with_reducible first | exact HB.out | apply below_alloc | apply pw_below_drewN | apply below_drew1) | exact HB.out))) : w.heap.size ≤ gb228)); have n3_ := Aside0.mk ((by rw [hg]; exact (below_size (by repeat (first | (with_reducible first | exact HB.out | apply below_alloc | apply pw_below_drewN | apply below_drew1) | exact HB.out))) : w.heap.size ≤ gb228)); clear HB; have HB := n0_; have BK228 := n1_; have GW228 := n2_; have GE228 := n3_; clear n0_ n1_ n2_ n3_; clear hb hbox hg))
    go_ret
    exact ⟨by first | rfl | (simp [errW_none, errW_some] <;> rfl) | (simp [*, errW_none, errW_some] <;> rfl), by repeat (first | (with_reducible first | exact HB.out | apply below_alloc | apply pw_below_drewN | apply below_drew1 | refine below_set ?_ GE228.out) | exact HB.out)⟩
  · rw [if_neg c5] at H
    have c5b0 : decide (1048576 < (a1.size : Int)) = false := decide_eq_false c5
    have c5b1 : decide (1048576 < a1.size) = false := decide_eq_false (by omega)
    clear c5
    by_cases c7 : (a2.size : Int) > 1048576
    · rw [if_pos c7] at H
      have c7b0 : decide (1048576 < (a2.size : Int)) = true := decide_eq_true c7
      have c7b1 : decide (1048576 < a2.size) = true := decide_eq_true (by omega)
      clear c7
      obtain rfl := Option.some.inj H
      go_enter Tryd.func5, Tryd.ntmps5
      go_wp2_with (first | ((with_reducible refine gate_dst (N := 4) rfl ?_); refine box_event ?hg (N := 4) ?hd (cs := #[.int .i64 a0_0, .int .i64 a0_1]) (t := 27) ?hr ?_; (case hd => rfl); (case hg => rfl); (case hr => first | (go_simp; done) | (go_simp; rfl)); intro gb228 hg w8 hbox hb; have n0_ := Aside0.mk (below_step (by repeat (first | (with_reducible first | exact HB.out | apply below_alloc | apply pw_below_drewN | apply below_drew1) | exact HB.out)) hb); have n1_ := Aside0.mk (hbox); have n2_ := Aside0.mk ((by rw [hg]; exact (below_size (by repeat (first | (with_reducible first | exact HB.out | apply below_alloc | apply pw_below_drewN | apply below_drew1) | exact HB.out))) : w.heap.size ≤ gb228)); have n3_ := Aside0.mk ((by rw [hg]; exact (below_size (by repeat (first | (with_reducible first | exact HB.out | apply below_alloc | apply pw_below_drewN | apply below_drew1) | exact HB.out))) : w.heap.size ≤ gb228)); clear HB; have HB := n0_; have BK228 := n1_; have GW228 := n2_; have GE228 := n3_; clear n0_ n1_ n2_ n3_; clear hb hbox hg))
      go_ret
      exact ⟨by first | rfl | (simp [errW_none, errW_some] <;> rfl) | (simp [*, errW_none, errW_some] <;> rfl), by repeat (first | (with_reducible first | exact HB.out | apply below_alloc | apply pw_below_drewN | apply below_drew1 | refine below_set ?_ GE228.out) | exact HB.out)⟩
    · rw [if_neg c7] at H
      have c7b0 : decide (1048576 < (a2.size : Int)) = false := decide_eq_false c7
      have c7b1 : decide (1048576 < a2.size) = false := decide_eq_false (by omega)
      clear c7
      by_cases c9 : (a3.size : Int) > 1048576
      · rw [if_pos c9] at H
        have c9b0 : decide (1048576 < (a3.size : Int)) = true := decide_eq_true c9
        have c9b1 : decide (1048576 < a3.size) = true := decide_eq_true (by omega)
        clear c9
        obtain rfl := Option.some.inj H
        go_enter Tryd.func5, Tryd.ntmps5
        go_wp2_with (first | ((with_reducible refine gate_dst (N := 4) rfl ?_); refine box_event ?hg (N := 4) ?hd (cs := #[.int .i64 a0_0, .int .i64 a0_1]) (t := 27) ?hr ?_; (case hd => rfl); (case hg => rfl); (case hr => first | (go_simp; done) | (go_simp; rfl)); intro gb228 hg w10 hbox hb; have n0_ := Aside0.mk (below_step (by repeat (first | (with_reducible first | exact HB.out | apply below_alloc | apply pw_below_drewN | apply below_drew1) | exact HB.out)) hb); have n1_ := Aside0.mk (hbox); have n2_ := Aside0.mk ((by rw [hg]; exact (below_size (by repeat (first | (with_reducible first | exact HB.out | apply below_alloc | apply pw_below_drewN | apply below_drew1) | exact HB.out))) : w.heap.size ≤ gb228)); have n3_ := Aside0.mk ((by rw [hg]; exact (below_size (by repeat (first | (with_reducible first | exact HB.out | apply below_alloc | apply pw_below_drewN | apply below_drew1) | exact HB.out))) : w.heap.size ≤ gb228)); clear HB; have HB := n0_; have BK228 := n1_; have GW228 := n2_; have GE228 := n3_; clear n0_ n1_ n2_ n3_; clear hb hbox hg))
        go_ret
        exact ⟨by first | rfl | (simp [errW_none, errW_some] <;> rfl) | (simp [*, errW_none, errW_some] <;> rfl), by repeat (first | (with_reducible first | exact HB.out | apply below_alloc | apply pw_below_drewN | apply below_drew1 | refine below_set ?_ GE228.out) | exact HB.out)⟩
      · rw [if_neg c9] at H
        have c9b0 : decide (1048576 < (a3.size : Int)) = false := decide_eq_false c9
        have c9b1 : decide (1048576 < a3.size) = false := decide_eq_false (by omega)
        clear c9
        replace H := Option.bind_eq_some_iff.mp H
        obtain ⟨⟨t229, t230⟩, A110, H⟩ := H
        replace H : ((spec_EnablesOf.f t229 t230 a1 a2 a3).bind fun bt231 => ((laws_toSwitch.f a0_0 a0_1).bind fun bt234 => ((impl_EnablesOf.f bt234.1 bt234.2 a1 a2 a3).bind fun bt236 => (if bt236.1.toList = bt231.1.toList then (if bt236.2.1.toList = bt231.2.1.toList then (if (bt236.2.2 != bt231.2.2) = true then (some false) else (some true)) else (some false)) else (some false))))) = some r := H
        have A11 := Aside0.mk A110
        clear A110
        replace H := Option.bind_eq_some_iff.mp H
        obtain ⟨⟨t231, t232, t233⟩, A120, H⟩ := H
        replace H : ((laws_toSwitch.f a0_0 a0_1).bind fun bt234 => ((impl_EnablesOf.f bt234.1 bt234.2 a1 a2 a3).bind fun bt236 => (if bt236.1.toList = t231.toList then (if bt236.2.1.toList = t232.toList then (if (bt236.2.2 != t233) = true then (some false) else (some true)) else (some false)) else (some false)))) = some r := H
        have A12 := Aside0.mk A120
        clear A120
        replace H := Option.bind_eq_some_iff.mp H
        obtain ⟨⟨t234, t235⟩, A130, H⟩ := H
        replace H : ((impl_EnablesOf.f t234 t235 a1 a2 a3).bind fun bt236 => (if bt236.1.toList = t231.toList then (if bt236.2.1.toList = t232.toList then (if (bt236.2.2 != t233) = true then (some false) else (some true)) else (some false)) else (some false))) = some r := H
        have A13 := Aside0.mk A130
        clear A130
        replace H := Option.bind_eq_some_iff.mp H
        obtain ⟨⟨t236, t237, t238⟩, A140, H⟩ := H
        replace H : (if t236.toList = t231.toList then (if t237.toList = t232.toList then (if (t238 != t233) = true then (some false) else (some true)) else (some false)) else (some false)) = some r := H
        have A14 := Aside0.mk A140
        clear A140
        by_cases c15 : t236.toList = t231.toList
        · rw [if_pos c15] at H
          have c15b0 : (t236.toList == t231.toList) = true := beq_iff_eq.mpr c15
          have c15b1 : (t236.toList != t231.toList) = false := bne_eq_false_iff_eq.mpr c15
          clear c15
          by_cases c16 : t237.toList = t232.toList
          · rw [if_pos c16] at H
            have c16b0 : (t237.toList == t232.toList) = true := beq_iff_eq.mpr c16
            have c16b1 : (t237.toList != t232.toList) = false := bne_eq_false_iff_eq.mpr c16
            clear c16
            by_cases c17 : (t238 != t233) = true
            · rw [if_pos c17] at H
              have c17b0 : (t238 != t233) = true := c17
              (try (have c17b1 : decide (t238 = t233) = false := by simpa using c17))
              (try (have c17b2 : (t238 == t233) = false := by simpa using c17))
              (try (have c17b3 : ¬ (t238 = t233) := by simpa using c17))
              clear c17
              obtain rfl := Option.some.inj H
              go_enter Tryd.func5, Tryd.ntmps5
              go_wp2_with (first | ((with_reducible refine gate_dst (N := 4) rfl ?_); refine box_event ?hg (N := 4) ?hd (cs := #[.int .i64 a0_0, .int .i64 a0_1]) (t := 27) ?hr ?_; (case hd => rfl); (case hg => rfl); (case hr => first | (go_simp; done) | (go_simp; rfl)); intro gb228 hg w18 hbox hb; have n0_ := Aside0.mk (below_step (by repeat (first | (with_reducible first | exact HB.out | apply below_alloc | apply pw_below_drewN | apply below_drew1) | exact HB.out)) hb); have n1_ := Aside0.mk (hbox); have n2_ := Aside0.mk ((by rw [hg]; exact (below_size (by repeat (first | (with_reducible first | exact HB.out | apply below_alloc | apply pw_below_drewN | apply below_drew1) | exact HB.out))) : w.heap.size ≤ gb228)); have n3_ := Aside0.mk ((by rw [hg]; exact (below_size (by repeat (first | (with_reducible first | exact HB.out | apply below_alloc | apply pw_below_drewN | apply below_drew1) | exact HB.out))) : w.heap.size ≤ gb228)); clear HB; have HB := n0_; have BK228 := n1_; have GW228 := n2_; have GE228 := n3_; clear n0_ n1_ n2_ n3_; clear hb hbox hg; have hcz19_0 : w18.cell? ⟨gb228, 0, none⟩ = some (.int .i64 a0_0) := (blk_cell BK228.out 0).trans rfl; have hcz19_1 : w18.cell? ⟨gb228, 1, none⟩ = some (.int .i64 a0_1) := (blk_cell BK228.out 1).trans rfl; have hfz19_0 := blk_frozen BK228.out 0; have hfz19_1 := blk_frozen BK228.out 1) | ((with_reducible refine gate_callee (f := 16) rfl ?_); refine goesL_ (some 26) rfl rfl Tryd.func16 (by kernel_rfl) rfl #[.agg #[.int .i64 a0_0, .int .i64 a0_1]] rfl (by (try simp only [List.map_toArray, List.map_cons, List.map_nil]); first | done | rfl | (simp only [List.length_drop, List.length_take]; rfl)) ?_; (with_reducible refine (laws_toSwitch.calls a0_0 a0_1 t229 t230 _ A11.out).mono ?_); rintro e w20 ⟨rfl, hb⟩; refine ⟨_, rfl, ?_⟩; have n0_ := Aside0.mk (blk_below (g := gb228) (o := .cells #[.int .i64 a0_0, .int .i64 a0_1] 27 (0, 0)) (by (with_reducible repeat (first | refine blk_drewN ?_ _ | refine blk_drew ?_ | refine blk_alloc ?_ _)); exact BK228.out) hb); have n1_ := Aside0.mk (below_step (by repeat (first | (with_reducible first | exact HB.out | apply below_alloc | apply pw_below_drewN | apply below_drew1 | refine below_set ?_ GE228.out) | exact HB.out)) hb); clear BK228; clear HB; have BK228 := n0_; have HB := n1_; clear n0_ n1_; (try clear hb); (try clear hb2); (try clear hk); (try clear hi)) | ((with_reducible refine gate_callee (f := 15) rfl ?_); refine goesL_ (some 30) rfl rfl Tryd.func15 (by kernel_rfl) rfl #[.agg #[.int .i64 t229, .int .i64 t230], .string a1, .string a2, .string a3] rfl (by (try simp only [List.map_toArray, List.map_cons, List.map_nil]); first | done | rfl | (simp only [List.length_drop, List.length_take]; rfl)) ?_; (with_reducible refine (spec_EnablesOf.calls t229 t230 a1 a2 a3 t231 t232 t233 _ A12.out).mono ?_); rintro e w21 ⟨rfl, hb⟩; refine ⟨_, rfl, ?_⟩; have n0_ := Aside0.mk (blk_below (g := gb228) (o := .cells #[.int .i64 a0_0, .int .i64 a0_1] 27 (0, 0)) (by (with_reducible repeat (first | refine blk_drewN ?_ _ | refine blk_drew ?_ | refine blk_alloc ?_ _)); exact BK228.out) hb); have n1_ := Aside0.mk (below_step (by repeat (first | (with_reducible first | exact HB.out | apply below_alloc | apply pw_below_drewN | apply below_drew1 | refine below_set ?_ GE228.out) | exact HB.out)) hb); clear BK228; clear HB; have BK228 := n0_; have HB := n1_; clear n0_ n1_; (try clear hb); (try clear hb2); (try clear hk); (try clear hi); have hcz22_0 : w21.cell? ⟨gb228, 0, none⟩ = some (.int .i64 a0_0) := (blk_cell BK228.out 0).trans rfl; have hcz22_1 : w21.cell? ⟨gb228, 1, none⟩ = some (.int .i64 a0_1) := (blk_cell BK228.out 1).trans rfl; have hfz22_0 := blk_frozen BK228.out 0; have hfz22_1 := blk_frozen BK228.out 1) | ((with_reducible refine gate_callee (f := 16) rfl ?_); refine goesL_ (some 36) rfl rfl Tryd.func16 (by kernel_rfl) rfl #[.agg #[.int .i64 a0_0, .int .i64 a0_1]] rfl (by (try simp only [List.map_toArray, List.map_cons, List.map_nil]); first | done | rfl | (simp only [List.length_drop, List.length_take]; rfl)) ?_; (with_reducible refine (laws_toSwitch.calls a0_0 a0_1 t234 t235 _ A13.out).mono ?_); rintro e w23 ⟨rfl, hb⟩; refine ⟨_, rfl, ?_⟩; have n0_ := Aside0.mk (blk_below (g := gb228) (o := .cells #[.int .i64 a0_0, .int .i64 a0_1] 27 (0, 0)) (by (with_reducible repeat (first | refine blk_drewN ?_ _ | refine blk_drew ?_ | refine blk_alloc ?_ _)); exact BK228.out) hb); have n1_ := Aside0.mk (below_step (by repeat (first | (with_reducible first | exact HB.out | apply below_alloc | apply pw_below_drewN | apply below_drew1 | refine below_set ?_ GE228.out) | exact HB.out)) hb); clear BK228; clear HB; have BK228 := n0_; have HB := n1_; clear n0_ n1_; (try clear hb); (try clear hb2); (try clear hk); (try clear hi)) | ((with_reducible refine gate_callee (f := 17) rfl ?_); refine goesL_ (some 40) rfl rfl Tryd.func17 (by kernel_rfl) rfl #[.agg #[.int .i64 t234, .int .i64 t235], .string a1, .string a2, .string a3] rfl (by (try simp only [List.map_toArray, List.map_cons, List.map_nil]); first | done | rfl | (simp only [List.length_drop, List.length_take]; rfl)) ?_; (with_reducible refine (impl_EnablesOf.calls t234 t235 a1 a2 a3 t236 t237 t238 _ A14.out).mono ?_); rintro e w24 ⟨rfl, hb⟩; refine ⟨_, rfl, ?_⟩; have n0_ := Aside0.mk (blk_below (g := gb228) (o := .cells #[.int .i64 a0_0, .int .i64 a0_1] 27 (0, 0)) (by (with_reducible repeat (first | refine blk_drewN ?_ _ | refine blk_drew ?_ | refine blk_alloc ?_ _)); exact BK228.out) hb); have n1_ := Aside0.mk (below_step (by repeat (first | (with_reducible first | exact HB.out | apply below_alloc | apply pw_below_drewN | apply below_drew1 | refine below_set ?_ GE228.out) | exact HB.out)) hb); clear BK228; clear HB; have BK228 := n0_; have HB := n1_; clear n0_ n1_; (try clear hb); (try clear hb2); (try clear hk); (try clear hi)))
              go_ret
              exact ⟨by first | rfl | (simp [errW_none, errW_some] <;> rfl) | (simp [*, errW_none, errW_some] <;> rfl), by repeat (first | (with_reducible first | exact HB.out | apply below_alloc | apply pw_below_drewN | apply below_drew1 | refine below_set ?_ GE228.out) | exact HB.out)⟩
            · rw [if_neg c17] at H
              have c17b0 : (t238 != t233) = false := by simpa using c17
              (try (have c17b1 : decide (t238 = t233) = true := by simpa using c17))
              (try (have c17b2 : (t238 == t233) = true := by simpa using c17))
              clear c17
              obtain rfl := Option.some.inj H
              go_enter Tryd.func5, Tryd.ntmps5
              go_wp2_with (first | ((with_reducible refine gate_dst (N := 4) rfl ?_); refine box_event ?hg (N := 4) ?hd (cs := #[.int .i64 a0_0, .int .i64 a0_1]) (t := 27) ?hr ?_; (case hd => rfl); (case hg => rfl); (case hr => first | (go_simp; done) | (go_simp; rfl)); intro gb228 hg w25 hbox hb; have n0_ := Aside0.mk (below_step (by repeat (first | (with_reducible first | exact HB.out | apply below_alloc | apply pw_below_drewN | apply below_drew1) | exact HB.out)) hb); have n1_ := Aside0.mk (hbox); have n2_ := Aside0.mk ((by rw [hg]; exact (below_size (by repeat (first | (with_reducible first | exact HB.out | apply below_alloc | apply pw_below_drewN | apply below_drew1) | exact HB.out))) : w.heap.size ≤ gb228)); have n3_ := Aside0.mk ((by rw [hg]; exact (below_size (by repeat (first | (with_reducible first | exact HB.out | apply below_alloc | apply pw_below_drewN | apply below_drew1) | exact HB.out))) : w.heap.size ≤ gb228)); clear HB; have HB := n0_; have BK228 := n1_; have GW228 := n2_; have GE228 := n3_; clear n0_ n1_ n2_ n3_; clear hb hbox hg; have hcz26_0 : w25.cell? ⟨gb228, 0, none⟩ = some (.int .i64 a0_0) := (blk_cell BK228.out 0).trans rfl; have hcz26_1 : w25.cell? ⟨gb228, 1, none⟩ = some (.int .i64 a0_1) := (blk_cell BK228.out 1).trans rfl; have hfz26_0 := blk_frozen BK228.out 0; have hfz26_1 := blk_frozen BK228.out 1) | ((with_reducible refine gate_callee (f := 16) rfl ?_); refine goesL_ (some 26) rfl rfl Tryd.func16 (by kernel_rfl) rfl #[.agg #[.int .i64 a0_0, .int .i64 a0_1]] rfl (by (try simp only [List.map_toArray, List.map_cons, List.map_nil]); first | done | rfl | (simp only [List.length_drop, List.length_take]; rfl)) ?_; (with_reducible refine (laws_toSwitch.calls a0_0 a0_1 t229 t230 _ A11.out).mono ?_); rintro e w27 ⟨rfl, hb⟩; refine ⟨_, rfl, ?_⟩; have n0_ := Aside0.mk (blk_below (g := gb228) (o := .cells #[.int .i64 a0_0, .int .i64 a0_1] 27 (0, 0)) (by (with_reducible repeat (first | refine blk_drewN ?_ _ | refine blk_drew ?_ | refine blk_alloc ?_ _)); exact BK228.out) hb); have n1_ := Aside0.mk (below_step (by repeat (first | (with_reducible first | exact HB.out | apply below_alloc | apply pw_below_drewN | apply below_drew1 | refine below_set ?_ GE228.out) | exact HB.out)) hb); clear BK228; clear HB; have BK228 := n0_; have HB := n1_; clear n0_ n1_; (try clear hb); (try clear hb2); (try clear hk); (try clear hi)) | ((with_reducible refine gate_callee (f := 15) rfl ?_); refine goesL_ (some 30) rfl rfl Tryd.func15 (by kernel_rfl) rfl #[.agg #[.int .i64 t229, .int .i64 t230], .string a1, .string a2, .string a3] rfl (by (try simp only [List.map_toArray, List.map_cons, List.map_nil]); first | done | rfl | (simp only [List.length_drop, List.length_take]; rfl)) ?_; (with_reducible refine (spec_EnablesOf.calls t229 t230 a1 a2 a3 t231 t232 t233 _ A12.out).mono ?_); rintro e w28 ⟨rfl, hb⟩; refine ⟨_, rfl, ?_⟩; have n0_ := Aside0.mk (blk_below (g := gb228) (o := .cells #[.int .i64 a0_0, .int .i64 a0_1] 27 (0, 0)) (by (with_reducible repeat (first | refine blk_drewN ?_ _ | refine blk_drew ?_ | refine blk_alloc ?_ _)); exact BK228.out) hb); have n1_ := Aside0.mk (below_step (by repeat (first | (with_reducible first | exact HB.out | apply below_alloc | apply pw_below_drewN | apply below_drew1 | refine below_set ?_ GE228.out) | exact HB.out)) hb); clear BK228; clear HB; have BK228 := n0_; have HB := n1_; clear n0_ n1_; (try clear hb); (try clear hb2); (try clear hk); (try clear hi); have hcz29_0 : w28.cell? ⟨gb228, 0, none⟩ = some (.int .i64 a0_0) := (blk_cell BK228.out 0).trans rfl; have hcz29_1 : w28.cell? ⟨gb228, 1, none⟩ = some (.int .i64 a0_1) := (blk_cell BK228.out 1).trans rfl; have hfz29_0 := blk_frozen BK228.out 0; have hfz29_1 := blk_frozen BK228.out 1) | ((with_reducible refine gate_callee (f := 16) rfl ?_); refine goesL_ (some 36) rfl rfl Tryd.func16 (by kernel_rfl) rfl #[.agg #[.int .i64 a0_0, .int .i64 a0_1]] rfl (by (try simp only [List.map_toArray, List.map_cons, List.map_nil]); first | done | rfl | (simp only [List.length_drop, List.length_take]; rfl)) ?_; (with_reducible refine (laws_toSwitch.calls a0_0 a0_1 t234 t235 _ A13.out).mono ?_); rintro e w30 ⟨rfl, hb⟩; refine ⟨_, rfl, ?_⟩; have n0_ := Aside0.mk (blk_below (g := gb228) (o := .cells #[.int .i64 a0_0, .int .i64 a0_1] 27 (0, 0)) (by (with_reducible repeat (first | refine blk_drewN ?_ _ | refine blk_drew ?_ | refine blk_alloc ?_ _)); exact BK228.out) hb); have n1_ := Aside0.mk (below_step (by repeat (first | (with_reducible first | exact HB.out | apply below_alloc | apply pw_below_drewN | apply below_drew1 | refine below_set ?_ GE228.out) | exact HB.out)) hb); clear BK228; clear HB; have BK228 := n0_; have HB := n1_; clear n0_ n1_; (try clear hb); (try clear hb2); (try clear hk); (try clear hi)) | ((with_reducible refine gate_callee (f := 17) rfl ?_); refine goesL_ (some 40) rfl rfl Tryd.func17 (by kernel_rfl) rfl #[.agg #[.int .i64 t234, .int .i64 t235], .string a1, .string a2, .string a3] rfl (by (try simp only [List.map_toArray, List.map_cons, List.map_nil]); first | done | rfl | (simp only [List.length_drop, List.length_take]; rfl)) ?_; (with_reducible refine (impl_EnablesOf.calls t234 t235 a1 a2 a3 t236 t237 t238 _ A14.out).mono ?_); rintro e w31 ⟨rfl, hb⟩; refine ⟨_, rfl, ?_⟩; have n0_ := Aside0.mk (blk_below (g := gb228) (o := .cells #[.int .i64 a0_0, .int .i64 a0_1] 27 (0, 0)) (by (with_reducible repeat (first | refine blk_drewN ?_ _ | refine blk_drew ?_ | refine blk_alloc ?_ _)); exact BK228.out) hb); have n1_ := Aside0.mk (below_step (by repeat (first | (with_reducible first | exact HB.out | apply below_alloc | apply pw_below_drewN | apply below_drew1 | refine below_set ?_ GE228.out) | exact HB.out)) hb); clear BK228; clear HB; have BK228 := n0_; have HB := n1_; clear n0_ n1_; (try clear hb); (try clear hb2); (try clear hk); (try clear hi)))
              go_ret
              exact ⟨by first | rfl | (simp [errW_none, errW_some] <;> rfl) | (simp [*, errW_none, errW_some] <;> rfl), by repeat (first | (with_reducible first | exact HB.out | apply below_alloc | apply pw_below_drewN | apply below_drew1 | refine below_set ?_ GE228.out) | exact HB.out)⟩
          · rw [if_neg c16] at H
            have c16b0 : (t237.toList == t232.toList) = false := beq_eq_false_iff_ne.mpr c16
            have c16b1 : (t237.toList != t232.toList) = true := bne_iff_ne.mpr c16
            obtain rfl := Option.some.inj H
            go_enter Tryd.func5, Tryd.ntmps5
            go_wp2_with (first | ((with_reducible refine gate_dst (N := 4) rfl ?_); refine box_event ?hg (N := 4) ?hd (cs := #[.int .i64 a0_0, .int .i64 a0_1]) (t := 27) ?hr ?_; (case hd => rfl); (case hg => rfl); (case hr => first | (go_simp; done) | (go_simp; rfl)); intro gb228 hg w32 hbox hb; have n0_ := Aside0.mk (below_step (by repeat (first | (with_reducible first | exact HB.out | apply below_alloc | apply pw_below_drewN | apply below_drew1) | exact HB.out)) hb); have n1_ := Aside0.mk (hbox); have n2_ := Aside0.mk ((by rw [hg]; exact (below_size (by repeat (first | (with_reducible first | exact HB.out | apply below_alloc | apply pw_below_drewN | apply below_drew1) | exact HB.out))) : w.heap.size ≤ gb228)); have n3_ := Aside0.mk ((by rw [hg]; exact (below_size (by repeat (first | (with_reducible first | exact HB.out | apply below_alloc | apply pw_below_drewN | apply below_drew1) | exact HB.out))) : w.heap.size ≤ gb228)); clear HB; have HB := n0_; have BK228 := n1_; have GW228 := n2_; have GE228 := n3_; clear n0_ n1_ n2_ n3_; clear hb hbox hg; have hcz33_0 : w32.cell? ⟨gb228, 0, none⟩ = some (.int .i64 a0_0) := (blk_cell BK228.out 0).trans rfl; have hcz33_1 : w32.cell? ⟨gb228, 1, none⟩ = some (.int .i64 a0_1) := (blk_cell BK228.out 1).trans rfl; have hfz33_0 := blk_frozen BK228.out 0; have hfz33_1 := blk_frozen BK228.out 1) | ((with_reducible refine gate_callee (f := 16) rfl ?_); refine goesL_ (some 26) rfl rfl Tryd.func16 (by kernel_rfl) rfl #[.agg #[.int .i64 a0_0, .int .i64 a0_1]] rfl (by (try simp only [List.map_toArray, List.map_cons, List.map_nil]); first | done | rfl | (simp only [List.length_drop, List.length_take]; rfl)) ?_; (with_reducible refine (laws_toSwitch.calls a0_0 a0_1 t229 t230 _ A11.out).mono ?_); rintro e w34 ⟨rfl, hb⟩; refine ⟨_, rfl, ?_⟩; have n0_ := Aside0.mk (blk_below (g := gb228) (o := .cells #[.int .i64 a0_0, .int .i64 a0_1] 27 (0, 0)) (by (with_reducible repeat (first | refine blk_drewN ?_ _ | refine blk_drew ?_ | refine blk_alloc ?_ _)); exact BK228.out) hb); have n1_ := Aside0.mk (below_step (by repeat (first | (with_reducible first | exact HB.out | apply below_alloc | apply pw_below_drewN | apply below_drew1 | refine below_set ?_ GE228.out) | exact HB.out)) hb); clear BK228; clear HB; have BK228 := n0_; have HB := n1_; clear n0_ n1_; (try clear hb); (try clear hb2); (try clear hk); (try clear hi)) | ((with_reducible refine gate_callee (f := 15) rfl ?_); refine goesL_ (some 30) rfl rfl Tryd.func15 (by kernel_rfl) rfl #[.agg #[.int .i64 t229, .int .i64 t230], .string a1, .string a2, .string a3] rfl (by (try simp only [List.map_toArray, List.map_cons, List.map_nil]); first | done | rfl | (simp only [List.length_drop, List.length_take]; rfl)) ?_; (with_reducible refine (spec_EnablesOf.calls t229 t230 a1 a2 a3 t231 t232 t233 _ A12.out).mono ?_); rintro e w35 ⟨rfl, hb⟩; refine ⟨_, rfl, ?_⟩; have n0_ := Aside0.mk (blk_below (g := gb228) (o := .cells #[.int .i64 a0_0, .int .i64 a0_1] 27 (0, 0)) (by (with_reducible repeat (first | refine blk_drewN ?_ _ | refine blk_drew ?_ | refine blk_alloc ?_ _)); exact BK228.out) hb); have n1_ := Aside0.mk (below_step (by repeat (first | (with_reducible first | exact HB.out | apply below_alloc | apply pw_below_drewN | apply below_drew1 | refine below_set ?_ GE228.out) | exact HB.out)) hb); clear BK228; clear HB; have BK228 := n0_; have HB := n1_; clear n0_ n1_; (try clear hb); (try clear hb2); (try clear hk); (try clear hi); have hcz36_0 : w35.cell? ⟨gb228, 0, none⟩ = some (.int .i64 a0_0) := (blk_cell BK228.out 0).trans rfl; have hcz36_1 : w35.cell? ⟨gb228, 1, none⟩ = some (.int .i64 a0_1) := (blk_cell BK228.out 1).trans rfl; have hfz36_0 := blk_frozen BK228.out 0; have hfz36_1 := blk_frozen BK228.out 1) | ((with_reducible refine gate_callee (f := 16) rfl ?_); refine goesL_ (some 36) rfl rfl Tryd.func16 (by kernel_rfl) rfl #[.agg #[.int .i64 a0_0, .int .i64 a0_1]] rfl (by (try simp only [List.map_toArray, List.map_cons, List.map_nil]); first | done | rfl | (simp only [List.length_drop, List.length_take]; rfl)) ?_; (with_reducible refine (laws_toSwitch.calls a0_0 a0_1 t234 t235 _ A13.out).mono ?_); rintro e w37 ⟨rfl, hb⟩; refine ⟨_, rfl, ?_⟩; have n0_ := Aside0.mk (blk_below (g := gb228) (o := .cells #[.int .i64 a0_0, .int .i64 a0_1] 27 (0, 0)) (by (with_reducible repeat (first | refine blk_drewN ?_ _ | refine blk_drew ?_ | refine blk_alloc ?_ _)); exact BK228.out) hb); have n1_ := Aside0.mk (below_step (by repeat (first | (with_reducible first | exact HB.out | apply below_alloc | apply pw_below_drewN | apply below_drew1 | refine below_set ?_ GE228.out) | exact HB.out)) hb); clear BK228; clear HB; have BK228 := n0_; have HB := n1_; clear n0_ n1_; (try clear hb); (try clear hb2); (try clear hk); (try clear hi)) | ((with_reducible refine gate_callee (f := 17) rfl ?_); refine goesL_ (some 40) rfl rfl Tryd.func17 (by kernel_rfl) rfl #[.agg #[.int .i64 t234, .int .i64 t235], .string a1, .string a2, .string a3] rfl (by (try simp only [List.map_toArray, List.map_cons, List.map_nil]); first | done | rfl | (simp only [List.length_drop, List.length_take]; rfl)) ?_; (with_reducible refine (impl_EnablesOf.calls t234 t235 a1 a2 a3 t236 t237 t238 _ A14.out).mono ?_); rintro e w38 ⟨rfl, hb⟩; refine ⟨_, rfl, ?_⟩; have n0_ := Aside0.mk (blk_below (g := gb228) (o := .cells #[.int .i64 a0_0, .int .i64 a0_1] 27 (0, 0)) (by (with_reducible repeat (first | refine blk_drewN ?_ _ | refine blk_drew ?_ | refine blk_alloc ?_ _)); exact BK228.out) hb); have n1_ := Aside0.mk (below_step (by repeat (first | (with_reducible first | exact HB.out | apply below_alloc | apply pw_below_drewN | apply below_drew1 | refine below_set ?_ GE228.out) | exact HB.out)) hb); clear BK228; clear HB; have BK228 := n0_; have HB := n1_; clear n0_ n1_; (try clear hb); (try clear hb2); (try clear hk); (try clear hi)))
            go_ret
            exact ⟨by first | rfl | (simp [errW_none, errW_some] <;> rfl) | (simp [*, errW_none, errW_some] <;> rfl), by repeat (first | (with_reducible first | exact HB.out | apply below_alloc | apply pw_below_drewN | apply below_drew1 | refine below_set ?_ GE228.out) | exact HB.out)⟩
        · rw [if_neg c15] at H
          have c15b0 : (t236.toList == t231.toList) = false := beq_eq_false_iff_ne.mpr c15
          have c15b1 : (t236.toList != t231.toList) = true := bne_iff_ne.mpr c15
          obtain rfl := Option.some.inj H
          go_enter Tryd.func5, Tryd.ntmps5
          go_wp2_with (first | ((with_reducible refine gate_dst (N := 4) rfl ?_); refine box_event ?hg (N := 4) ?hd (cs := #[.int .i64 a0_0, .int .i64 a0_1]) (t := 27) ?hr ?_; (case hd => rfl); (case hg => rfl); (case hr => first | (go_simp; done) | (go_simp; rfl)); intro gb228 hg w39 hbox hb; have n0_ := Aside0.mk (below_step (by repeat (first | (with_reducible first | exact HB.out | apply below_alloc | apply pw_below_drewN | apply below_drew1) | exact HB.out)) hb); have n1_ := Aside0.mk (hbox); have n2_ := Aside0.mk ((by rw [hg]; exact (below_size (by repeat (first | (with_reducible first | exact HB.out | apply below_alloc | apply pw_below_drewN | apply below_drew1) | exact HB.out))) : w.heap.size ≤ gb228)); have n3_ := Aside0.mk ((by rw [hg]; exact (below_size (by repeat (first | (with_reducible first | exact HB.out | apply below_alloc | apply pw_below_drewN | apply below_drew1) | exact HB.out))) : w.heap.size ≤ gb228)); clear HB; have HB := n0_; have BK228 := n1_; have GW228 := n2_; have GE228 := n3_; clear n0_ n1_ n2_ n3_; clear hb hbox hg; have hcz40_0 : w39.cell? ⟨gb228, 0, none⟩ = some (.int .i64 a0_0) := (blk_cell BK228.out 0).trans rfl; have hcz40_1 : w39.cell? ⟨gb228, 1, none⟩ = some (.int .i64 a0_1) := (blk_cell BK228.out 1).trans rfl; have hfz40_0 := blk_frozen BK228.out 0; have hfz40_1 := blk_frozen BK228.out 1) | ((with_reducible refine gate_callee (f := 16) rfl ?_); refine goesL_ (some 26) rfl rfl Tryd.func16 (by kernel_rfl) rfl #[.agg #[.int .i64 a0_0, .int .i64 a0_1]] rfl (by (try simp only [List.map_toArray, List.map_cons, List.map_nil]); first | done | rfl | (simp only [List.length_drop, List.length_take]; rfl)) ?_; (with_reducible refine (laws_toSwitch.calls a0_0 a0_1 t229 t230 _ A11.out).mono ?_); rintro e w41 ⟨rfl, hb⟩; refine ⟨_, rfl, ?_⟩; have n0_ := Aside0.mk (blk_below (g := gb228) (o := .cells #[.int .i64 a0_0, .int .i64 a0_1] 27 (0, 0)) (by (with_reducible repeat (first | refine blk_drewN ?_ _ | refine blk_drew ?_ | refine blk_alloc ?_ _)); exact BK228.out) hb); have n1_ := Aside0.mk (below_step (by repeat (first | (with_reducible first | exact HB.out | apply below_alloc | apply pw_below_drewN | apply below_drew1 | refine below_set ?_ GE228.out) | exact HB.out)) hb); clear BK228; clear HB; have BK228 := n0_; have HB := n1_; clear n0_ n1_; (try clear hb); (try clear hb2); (try clear hk); (try clear hi)) | ((with_reducible refine gate_callee (f := 15) rfl ?_); refine goesL_ (some 30) rfl rfl Tryd.func15 (by kernel_rfl) rfl #[.agg #[.int .i64 t229, .int .i64 t230], .string a1, .string a2, .string a3] rfl (by (try simp only [List.map_toArray, List.map_cons, List.map_nil]); first | done | rfl | (simp only [List.length_drop, List.length_take]; rfl)) ?_; (with_reducible refine (spec_EnablesOf.calls t229 t230 a1 a2 a3 t231 t232 t233 _ A12.out).mono ?_); rintro e w42 ⟨rfl, hb⟩; refine ⟨_, rfl, ?_⟩; have n0_ := Aside0.mk (blk_below (g := gb228) (o := .cells #[.int .i64 a0_0, .int .i64 a0_1] 27 (0, 0)) (by (with_reducible repeat (first | refine blk_drewN ?_ _ | refine blk_drew ?_ | refine blk_alloc ?_ _)); exact BK228.out) hb); have n1_ := Aside0.mk (below_step (by repeat (first | (with_reducible first | exact HB.out | apply below_alloc | apply pw_below_drewN | apply below_drew1 | refine below_set ?_ GE228.out) | exact HB.out)) hb); clear BK228; clear HB; have BK228 := n0_; have HB := n1_; clear n0_ n1_; (try clear hb); (try clear hb2); (try clear hk); (try clear hi); have hcz43_0 : w42.cell? ⟨gb228, 0, none⟩ = some (.int .i64 a0_0) := (blk_cell BK228.out 0).trans rfl; have hcz43_1 : w42.cell? ⟨gb228, 1, none⟩ = some (.int .i64 a0_1) := (blk_cell BK228.out 1).trans rfl; have hfz43_0 := blk_frozen BK228.out 0; have hfz43_1 := blk_frozen BK228.out 1) | ((with_reducible refine gate_callee (f := 16) rfl ?_); refine goesL_ (some 36) rfl rfl Tryd.func16 (by kernel_rfl) rfl #[.agg #[.int .i64 a0_0, .int .i64 a0_1]] rfl (by (try simp only [List.map_toArray, List.map_cons, List.map_nil]); first | done | rfl | (simp only [List.length_drop, List.length_take]; rfl)) ?_; (with_reducible refine (laws_toSwitch.calls a0_0 a0_1 t234 t235 _ A13.out).mono ?_); rintro e w44 ⟨rfl, hb⟩; refine ⟨_, rfl, ?_⟩; have n0_ := Aside0.mk (blk_below (g := gb228) (o := .cells #[.int .i64 a0_0, .int .i64 a0_1] 27 (0, 0)) (by (with_reducible repeat (first | refine blk_drewN ?_ _ | refine blk_drew ?_ | refine blk_alloc ?_ _)); exact BK228.out) hb); have n1_ := Aside0.mk (below_step (by repeat (first | (with_reducible first | exact HB.out | apply below_alloc | apply pw_below_drewN | apply below_drew1 | refine below_set ?_ GE228.out) | exact HB.out)) hb); clear BK228; clear HB; have BK228 := n0_; have HB := n1_; clear n0_ n1_; (try clear hb); (try clear hb2); (try clear hk); (try clear hi)) | ((with_reducible refine gate_callee (f := 17) rfl ?_); refine goesL_ (some 40) rfl rfl Tryd.func17 (by kernel_rfl) rfl #[.agg #[.int .i64 t234, .int .i64 t235], .string a1, .string a2, .string a3] rfl (by (try simp only [List.map_toArray, List.map_cons, List.map_nil]); first | done | rfl | (simp only [List.length_drop, List.length_take]; rfl)) ?_; (with_reducible refine (impl_EnablesOf.calls t234 t235 a1 a2 a3 t236 t237 t238 _ A14.out).mono ?_); rintro e w45 ⟨rfl, hb⟩; refine ⟨_, rfl, ?_⟩; have n0_ := Aside0.mk (blk_below (g := gb228) (o := .cells #[.int .i64 a0_0, .int .i64 a0_1] 27 (0, 0)) (by (with_reducible repeat (first | refine blk_drewN ?_ _ | refine blk_drew ?_ | refine blk_alloc ?_ _)); exact BK228.out) hb); have n1_ := Aside0.mk (below_step (by repeat (first | (with_reducible first | exact HB.out | apply below_alloc | apply pw_below_drewN | apply below_drew1 | refine below_set ?_ GE228.out) | exact HB.out)) hb); clear BK228; clear HB; have BK228 := n0_; have HB := n1_; clear n0_ n1_; (try clear hb); (try clear hb2); (try clear hk); (try clear hi)))
          go_ret
          exact ⟨by first | rfl | (simp [errW_none, errW_some] <;> rfl) | (simp [*, errW_none, errW_some] <;> rfl), by repeat (first | (with_reducible first | exact HB.out | apply below_alloc | apply pw_below_drewN | apply below_drew1 | refine below_set ?_ GE228.out) | exact HB.out)⟩
end Go.Proofs.YthkpnbelbaljdaaDoor.X
/- The enables of a switch: the plain law of EnablesOf. Conditions: as each lemma says. -/
namespace Go.Proofs.YthkpnbelbaljdaaDoor.X
open Go.RowKit Go.Proofs.YthkpnbelbaljdaaDoorW.PrintWords Go.Proofs.YthkpnbelbaljdaaDoorW.PrintLast Go.Proofs.YthkpnbelbaljdaaDoorW.PrintMore
set_option linter.unusedVariables false
set_option linter.unusedSimpArgs false
theorem wthin_eq (a l h : Int) : impl_within.f a l h = some (decide (l ≤ a ∧ a ≤ h)) := by
  unfold impl_within.f
  by_cases h1 : a ≥ l
  · rw [if_pos h1]; congr 1; simp; intro; exact h1
  · rw [if_neg h1]; congr 1; symm; exact decide_eq_false (fun h => h1 h.1)
theorem valid_eq (a0_0 a0_1 : Int) : impl_ValidSwitch.f a0_0 a0_1 = some (swOk a0_0 a0_1) := by
  unfold impl_ValidSwitch.f swOk
  rw [wthin_eq, Option.bind_some]
  by_cases h1 : 0 ≤ a0_0 ∧ a0_0 ≤ 5
  · rw [decide_eq_true h1, if_pos rfl, wthin_eq]; rfl
  · rw [decide_eq_false h1, if_neg (by decide)]; rfl
theorem run_eq (a0_0 a0_1 : Int) (a1 a2 a3 : ByteArray) (hs : swOk a0_0 a0_1 = true) (hw : wv3 a1 a2 a3 = true) : impl_runSwitch.f a0_0 a0_1 a1 a2 a3 = some (strOfNums (lvs (fun i => lvl a1 a2 i (swAt a1 a2 a3 (sw0 a0_0 a0_1) (i + 1))) a1.size), strOfNums (lvs (fun i => (swAt a1 a2 a3 (sw0 a0_0 a0_1) (i + 1)).e0) a1.size), strOfNums (lvs (fun i => (swAt a1 a2 a3 (sw0 a0_0 a0_1) (i + 1)).e1) a1.size)) := by
  unfold swOk at hs
  unfold wv3 at hw
  simp only [Bool.and_eq_true, decide_eq_true_eq] at hs hw
  unfold impl_runSwitch.f
  rw [if_pos ⟨by omega, by omega, isW_size hw.1.1.1.1, by omega, by omega⟩]
theorem impl_en (a0_0 a0_1 : Int) (a1 a2 a3 : ByteArray) (h1 : a1.size ≤ 1048576) (h2 : a2.size ≤ 1048576) (h3 : a3.size ≤ 1048576) : impl_EnablesOf.f a0_0 a0_1 a1 a2 a3 = spec_EnablesOf.f a0_0 a0_1 a1 a2 a3 := by
  unfold impl_EnablesOf.f spec_EnablesOf.f
  rw [if_pos ⟨h1, h2, h3⟩, valid_eq, Option.bind_some]
  cases hs : swOk a0_0 a0_1 with
  | false => rw [if_neg (by decide), if_neg (by simp)]
  | true =>
    rw [if_pos rfl, are3_eq a1 a2 a3 (by omega) (by omega) (by omega), Option.bind_some]
    rw [show (isW a1 && isW a2 && isW a3 && decide (a1.size = a2.size) && decide (a2.size = a3.size)) = wv3 a1 a2 a3 from rfl]
    cases hw : wv3 a1 a2 a3 with
    | false => rw [if_neg (by decide), if_neg (by simp)]
    | true => rw [if_pos rfl, if_pos ⟨rfl, rfl⟩, run_eq a0_0 a0_1 a1 a2 a3 hs hw]; rfl
end Go.Proofs.YthkpnbelbaljdaaDoor.X
end
