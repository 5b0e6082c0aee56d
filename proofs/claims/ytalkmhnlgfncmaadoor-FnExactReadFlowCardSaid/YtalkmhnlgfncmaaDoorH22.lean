/- My own texts of this seat and its words, merged: Xp36, Xp52, Xp53, Xp37, Xp16, Xp29, Xp30, Xp10, CNums, CSets, CGraph, COpen, CForm, CRings, Xp45, Xp32, Xp12, Xp44, Xp24. Conditions: as each lemma says. -/
import Derived.Test.YtalkmhnlgfncmaaDoorH21
section
-- Written by a program of this session out of the kit's print of the loaded functions: a plain function of a Go function, and its contract.
namespace Go.Proofs.YtalkmhnlgfncmaaDoor.X
open Go.RowKit Go.Proofs.YtalkmhnlgfncmaaDoorW.PrintWords Go.Proofs.YtalkmhnlgfncmaaDoorW.PrintLast Go.Proofs.YtalkmhnlgfncmaaDoorW.PrintMore
attribute [local go_sem] max2_int min2_int max_two min_two max_three min_three max_four min_four   -- for this text's walks alone
set_option linter.unusedVariables false
set_option linter.unusedSimpArgs false
def IsS25 (w0 W : World) (g : Nat) (f0 : List Int) (f1 : List (S43)) : Prop := ∃ A0 c0, ∃ A1 c1, W.heap[g]? = some (.cells #[.slice A0 f0.length c0, .slice A1 f1.length c1] 25 (0, 0)) ∧ w0.heap.size ≤ g ∧ Kd.C (Kd.int .i64) w0 A0 f0.length f0 ∧ Kd.C k43 w0 A1 f1.length f1
theorem IsS25.grown {w0 W : World} {g : Nat} {f0 : List Int} {f1 : List (S43)} {W1 : World} {row : Option Nat} (h : IsS25 w0 W g f0 f1) (hw : W.grownBy W1 row) (hne : some g ≠ row) : IsS25 w0 W1 g f0 f1 := by
 obtain ⟨A0, c0, A1, c1, hb, hg, hr0, hr1⟩ := h
 exact ⟨A0, c0, A1, c1, blk_grown hb hw hne, hg, hr0, hr1⟩
theorem IsS25.kept {w0 W : World} {g : Nat} {f0 : List Int} {f1 : List (S43)} {W1 : World} {S : Nat → Prop} (h : IsS25 w0 W g f0 f1) (hk : Kept W W1 S) (hne : ¬ S g) : IsS25 w0 W1 g f0 f1 := by
 obtain ⟨A0, c0, A1, c1, hb, hg, hr0, hr1⟩ := h
 exact ⟨A0, c0, A1, c1, blk_kept hb hk hne, hg, hr0, hr1⟩
theorem IsS25.below {w0 W : World} {g : Nat} {f0 : List Int} {f1 : List (S43)} {W1 : World} (h : IsS25 w0 W g f0 f1) (hw : Below W.heap.size W W1) : IsS25 w0 W1 g f0 f1 := h.grown (grown_of_below hw none) (by simp)
theorem IsS25.alloc {w0 W : World} {g : Nat} {f0 : List Int} {f1 : List (S43)} (h : IsS25 w0 W g f0 f1) (o : Obj) : IsS25 w0 (W.alloc o) g f0 f1 := h.below (below_alloc (Below.refl _ _) o)
theorem IsS25.drewN {w0 W : World} {g : Nat} {f0 : List Int} {f1 : List (S43)} (h : IsS25 w0 W g f0 f1) (m : Nat) : IsS25 w0 (W.drewN m) g f0 f1 := h
theorem IsS25.drew {w0 W : World} {g : Nat} {f0 : List Int} {f1 : List (S43)} (h : IsS25 w0 W g f0 f1) : IsS25 w0 W.drew g f0 f1 := h
theorem IsS25.at_ {w0 W : World} {g : Nat} {f0 : List Int} {f1 : List (S43)} {w' : World} {m : Nat} (hq : W.drewN m = w') (h : IsS25 w0 W g f0 f1) : IsS25 w0 w' g f0 f1 := by subst hq; exact IsS25.drewN h m
theorem IsS25.apart {w0 W : World} {g : Nat} {f0 : List Int} {f1 : List (S43)} {α : Type} {d : Kd α} {e : Nat} {base : Nat} {ok : Nat → Prop} {v : Value} {xs : List α} (h : IsS25 w0 W g f0 f1) (ho : d.R e W base ok v xs) (ht : ∀ q, q ∈ e :: d.E → q ≠ 25) : d.R e W base (fun k => ok k ∧ k ≠ g) v xs := by
 obtain ⟨A0, c0, A1, c1, hb, hg, hr0, hr1⟩ := h
 exact Kd.R_types ho hb ht
theorem IsS25.own_ne {w0 W : World} {g : Nat} {f0 : List Int} {f1 : List (S43)} {α : Type} {d : Kd α} {e : Nat} {base : Nat} {ok : Nat → Prop} {v : Value} {xs : List α} (h : IsS25 w0 W g f0 f1) (ho : d.R e W base ok v xs) (ht : e ≠ 25) : some g ≠ v.ownBlock := by
 obtain ⟨A0, c0, A1, c1, hb, hg, hr0, hr1⟩ := h
 exact Kd.R_ne ho hb ht
theorem IsS25.lt {w0 W : World} {g : Nat} {f0 : List Int} {f1 : List (S43)} (h : IsS25 w0 W g f0 f1) : g < W.heap.size := by
 obtain ⟨A0, c0, A1, c1, hb, hg, hr0, hr1⟩ := h
 exact blk_lt hb
theorem IsS25.ge {w0 W : World} {g : Nat} {f0 : List Int} {f1 : List (S43)} (h : IsS25 w0 W g f0 f1) : w0.heap.size ≤ g := by
 obtain ⟨A0, c0, A1, c1, hb, hg, hr0, hr1⟩ := h
 exact hg
theorem IsS25.far {w0 W : World} {g : Nat} {f0 : List Int} {f1 : List (S43)} {p : Addr} (h : IsS25 w0 W g f0 f1) (hne : g ≠ p.block) (u : Value) : IsS25 w0 (W.setCell p u) g f0 f1 := by
 obtain ⟨A0, c0, A1, c1, hb, hg, hr0, hr1⟩ := h
 exact ⟨A0, c0, A1, c1, blk_far hb hne u, hg, hr0, hr1⟩
theorem cellS25_0 {W : World} {g : Nat} {A0 : Option Addr} {c0 : Nat} {A1 : Option Addr} {c1 : Nat} {f0 : List Int} {f1 : List (S43)} (h : W.heap[g]? = some (.cells #[.slice A0 f0.length c0, .slice A1 f1.length c1] 25 (0, 0))) : W.cell? ⟨g, 0, none⟩ = some (.slice A0 f0.length c0) := (blk_cell h 0).trans rfl
theorem cellS25_1 {W : World} {g : Nat} {A0 : Option Addr} {c0 : Nat} {A1 : Option Addr} {c1 : Nat} {f0 : List Int} {f1 : List (S43)} (h : W.heap[g]? = some (.cells #[.slice A0 f0.length c0, .slice A1 f1.length c1] 25 (0, 0))) : W.cell? ⟨g, 1, none⟩ = some (.slice A1 f1.length c1) := (blk_cell h 1).trans rfl
mutual
def spec_l08Form.j0 : Nat → Int → Bool → List Int → List (S43) → Option (Bool)
 | 0, _, _, _, _ => none
 | k + 1, x3, x22, x1000, x1001 => if x22 = true then (some false) else (spec_l08Form.l0 k x3 0 x1000 x1001)
def spec_l08Form.l0 : Nat → Int → Int → List Int → List (S43) → Option (Bool)
 | 0, _, _, _, _ => none
 | k + 1, x3, x4, x1000, x1001 => if x4 < (x1000.length : Int) then (if 0 ≤ x4 then ((spec_l00In.f (rd x1000 x4) 0 100).bind fun t117 => (if t117 = true then (spec_l08Form.l0 k x3 (wrap64 (x4 + 1)) x1000 x1001) else (some false))) else (none)) else (spec_l08Form.l1 k x3 0 x1000 x1001)
def spec_l08Form.l1 : Nat → Int → Int → List Int → List (S43) → Option (Bool)
 | 0, _, _, _, _ => none
 | k + 1, x3, x5, x1000, x1001 => if x5 < (x1001.length : Int) then (if 0 ≤ x5 then ((spec_l00In.f ((rd_T43 x1001 x5).f0) 0 (wrap64 (x3 - 1))).bind fun t120 => (if t120 = true then ((spec_l00In.f ((rd_T43 x1001 x5).f1) 0 (wrap64 (x3 - 1))).bind fun t121 => (if t121 = true then ((spec_l00In.f ((rd_T43 x1001 x5).f2) 0 20).bind fun t122 => (if t122 = true then (spec_l08Form.l1 k x3 (wrap64 (x5 + 1)) x1000 x1001) else (some false))) else (some false))) else (some false))) else (none)) else (some true)
end
def spec_l08Form.f (k : Nat) (s0_0 : List Int) (s0_1 : List (S43)) : Option (Bool) := (spec_l00In.f (s0_0.length : Int) 1 8).bind fun t115 => (if t115 = true then (spec_l08Form.j0 k (s0_0.length : Int) (decide ((s0_1.length : Int) > 16)) s0_0 s0_1) else (spec_l08Form.j0 k (s0_0.length : Int) true s0_0 s0_1))
end Go.Proofs.YtalkmhnlgfncmaaDoor.X
end
section
-- Written by a program of this session out of the kit's print of the loaded functions: a plain function of a Go function, and its contract.
namespace Go.Proofs.YtalkmhnlgfncmaaDoor.X
open Go.RowKit Go.Proofs.YtalkmhnlgfncmaaDoorW.PrintWords Go.Proofs.YtalkmhnlgfncmaaDoorW.PrintLast Go.Proofs.YtalkmhnlgfncmaaDoorW.PrintMore
attribute [local go_sem] max2_int min2_int max_two min_two max_three min_three max_four min_four   -- for this text's walks alone
set_option linter.unusedVariables false
set_option linter.unusedSimpArgs false
def spec_l00Has.l0 : Nat → List Int → Int → Int → Option (Bool)
 | 0, _, _, _ => none
 | k + 1, x0, x1, x5 => if x5 < (x0.length : Int) then (if 0 ≤ x5 then (if (rd x0 x5) = x1 then (some true) else (spec_l00Has.l0 k x0 x1 (wrap64 (x5 + 1)))) else (none)) else (some false)
def spec_l00Has.f (k : Nat) (l0 : List Int) (a1 : Int) : Option (Bool) := spec_l00Has.l0 k l0 a1 0
set_option maxHeartbeats 8000000 in
set_option maxRecDepth 100000 in
theorem spec_l00Has.calls (k : Nat) (A0 : Option Addr) (c0 : Nat) (l0 : List Int) (a1 : Int) (r : Bool) (w : World) (hr0 : Kd.C (Kd.int .i64) w A0 l0.length l0) (hc0 : l0.length ≤ c0) (h : spec_l00Has.f k l0 a1 = some r) :
  Calls Tryd.prog 52 #[.slice A0 l0.length c0, .int .i64 a1] w fun e w' => e = .returned (.bool r) ∧ Drawn0 w w' := by
 have HR0 := Aside0.mk hr0
 have HC0 := Aside0.mk hc0
 clear hr0 hc0
 have H : (spec_l00Has.l0 k l0 a1 0) = some r := h
 clear h
 have H' := Aside0.mk H
 clear H
 go_enter Tryd.func52, Tryd.ntmps52
 go_wp2
 go_loopg [5] k (fun kq v5 w' => ∃ (x5_1 : Int), v5 = .int .i64 x5_1 ∧ Aside0 (spec_l00Has.l0 kq l0 a1 x5_1 = some r) ∧ Aside0 (kq ≤ k) ∧ Drawn0 w w')
 case atStart => exact ⟨(0), (by first | rfl | (simp; done) | (simp [*]; done)), H', ⟨Nat.le_refl _⟩, by repeat (first | exact Drawn0.refl _ | apply Drawn0.step)⟩
 case round =>
  clear H'
  try clear p2
  obtain ⟨x5_1, rfl, HA, HK1, ⟨m1, rfl⟩⟩ := hrel
  cases gk with
  | zero => exact absurd HA.out (by simp [spec_l00Has.l0])
  | succ k1 =>
   have H := HA.out
   clear HA
   simp only [spec_l00Has.l0] at H
   by_cases c3 : x5_1 < (l0.length : Int)
   ·rw [if_pos c3] at H
    have c3b0 : decide (x5_1 < (l0.length : Int)) = true := decide_eq_true c3
    clear c3
    by_cases c4 : 0 ≤ x5_1
    ·rw [if_pos c4] at H
     have c4b0 : decide (0 ≤ x5_1) = true := decide_eq_true c4
     clear c4
     by_cases c5 : (rd l0 x5_1) = a1
     ·rw [if_pos c5] at H
      have c5b0 : ((rd l0 x5_1) == a1) = true := beq_iff_eq.mpr c5
      have c5b1 : ((rd l0 x5_1) != a1) = false := bne_eq_false_iff_eq.mpr c5
      clear c5
      obtain rfl := Option.some.inj H
      have p123 : 0 ≤ (x5_1 : Int) := of_decide_eq_true (by first | (with_reducible assumption) | assumption)
      have q123 : x5_1 < (l0.length : Int) := of_decide_eq_true (by first | (with_reducible assumption) | assumption)
      obtain ⟨ad123, e123, hx123_0⟩ := Kd.at_int HR0.out x5_1 p123 q123
      cases e123
      replace p123 := eq_true p123
      replace q123 := eq_true q123
      go_wp2
      go_ret
      exact ⟨by first | rfl | (simp; done) | (simp [*]; done), by repeat (first | exact Drawn0.refl _ | apply Drawn0.step)⟩
     ·rw [if_neg c5] at H
      have c5b0 : ((rd l0 x5_1) == a1) = false := beq_eq_false_iff_ne.mpr c5
      have c5b1 : ((rd l0 x5_1) != a1) = true := bne_iff_ne.mpr c5
      have H' := Aside0.mk H
      clear H
      have p123 : 0 ≤ (x5_1 : Int) := of_decide_eq_true (by first | (with_reducible assumption) | assumption)
      have q123 : x5_1 < (l0.length : Int) := of_decide_eq_true (by first | (with_reducible assumption) | assumption)
      obtain ⟨ad123, e123, hx123_0⟩ := Kd.at_int HR0.out x5_1 p123 q123
      cases e123
      replace p123 := eq_true p123
      replace q123 := eq_true q123
      go_wp2
      go_roundg k1
      case measure => have := HK1.out; omega
      case rel => exact ⟨(wrap64 (x5_1 + 1)), (by first | rfl | (simp; done) | (simp [*]; done)), H', ⟨by have := HK1.out; omega⟩, by repeat (first | exact Drawn0.refl _ | apply Drawn0.step)⟩
    ·rw [if_neg c4] at H
     exact absurd H (by simp)
   ·rw [if_neg c3] at H
    have c3b0 : decide (x5_1 < (l0.length : Int)) = false := decide_eq_false c3
    clear c3
    obtain rfl := Option.some.inj H
    go_wp2
    go_ret
    exact ⟨by first | rfl | (simp; done) | (simp [*]; done), by repeat (first | exact Drawn0.refl _ | apply Drawn0.step)⟩
end Go.Proofs.YtalkmhnlgfncmaaDoor.X
end
section
-- Written by a program of this session out of the kit's print of the loaded functions: a plain function of a Go function, and its contract.
namespace Go.Proofs.YtalkmhnlgfncmaaDoor.X
open Go.RowKit Go.Proofs.YtalkmhnlgfncmaaDoorW.PrintWords Go.Proofs.YtalkmhnlgfncmaaDoorW.PrintLast Go.Proofs.YtalkmhnlgfncmaaDoorW.PrintMore
attribute [local go_sem] max2_int min2_int max_two min_two max_three min_three max_four min_four   -- for this text's walks alone
set_option linter.unusedVariables false
set_option linter.unusedSimpArgs false
mutual
def spec_l00Put.l0 : Nat → List Int → Int → List Int → Bool → Int → Option (List Int)
 | 0, _, _, _, _, _ => none
 | k + 1, x0, x1, x5, x6, x7 => if x7 < (x0.length : Int) then (if x6 = true then (spec_l00Put.j1 k x0 x1 x5 x6 x7 false) else (if 0 ≤ x7 then (spec_l00Put.j1 k x0 x1 x5 x6 x7 (decide ((rd x0 x7) ≥ x1))) else (none))) else (if x6 = true then (some x5) else (if x5.length < 17592186044416 then (some (x5 ++ [x1])) else (none)))
def spec_l00Put.j1 : Nat → List Int → Int → List Int → Bool → Int → Bool → Option (List Int)
 | 0, _, _, _, _, _, _ => none
 | k + 1, x0, x1, x5, x6, x7, x24 => if x24 = true then (if 0 ≤ x7 then (if x7 < (x0.length : Int) then (if (rd x0 x7) > x1 then (if x5.length < 17592186044416 then ((some (x5 ++ [x1] : List Int)).bind fun y132 => (if y132.length < 17592186044416 then (spec_l00Put.l0 k x0 x1 (y132 ++ [rd x0 x7]) true (wrap64 (x7 + 1))) else (none))) else (none)) else (if x5.length < 17592186044416 then (spec_l00Put.l0 k x0 x1 (x5 ++ [rd x0 x7]) true (wrap64 (x7 + 1))) else (none))) else (none)) else (none)) else (if 0 ≤ x7 then (if x7 < (x0.length : Int) then (if x5.length < 17592186044416 then (spec_l00Put.l0 k x0 x1 (x5 ++ [rd x0 x7]) x6 (wrap64 (x7 + 1))) else (none)) else (none)) else (none))
end
def spec_l00Put.f (k : Nat) (l0 : List Int) (a1 : Int) : Option (List Int) := spec_l00Put.l0 k l0 a1 (([] : List Int)) false 0
set_option maxHeartbeats 8000000 in
set_option maxRecDepth 100000 in
theorem spec_l00Put.calls (k : Nat) (A0 : Option Addr) (c0 : Nat) (l0 : List Int) (a1 : Int) (r : List Int) (w : World) (hr0 : Kd.C (Kd.int .i64) w A0 l0.length l0) (hc0 : l0.length ≤ c0) (h : spec_l00Put.f k l0 a1 = some r) :
  Calls Tryd.prog 53 #[.slice A0 l0.length c0, .int .i64 a1] w fun e w' => ∃ v0_ : Value, e = .returned (v0_) ∧ Kd.R (Kd.int .i64) 2 w' w.heap.size (fun _ => True) v0_ r ∧ Below w.heap.size w w' := by
 have HR0 := Aside0.mk hr0
 have HC0 := Aside0.mk hc0
 clear hr0 hc0
 have HB := Aside0.mk (Below.refl w.heap.size w)
 have H : (spec_l00Put.l0 k l0 a1 (([] : List Int)) false 0) = some r := h
 clear h
 obtain ⟨y124, hy124⟩ : ∃ y_ : List Int, y_ = (([] : List Int)) := ⟨_, rfl⟩
 replace H : (spec_l00Put.l0 k l0 a1 y124 false 0) = some r := by first | (rw [hy124]; with_reducible exact H) | (have H2_ := (Option.bind_some _ _).symm.trans H; rw [hy124]; with_reducible exact H2_) | (have H2_ := (Option.bind_some _ _).symm.trans H; with_reducible exact H2_) | with_reducible exact H | (rw [hy124]; exact H) | exact H
 have Ny124 := Aside0.mk hy124
 clear hy124
 have H' := Aside0.mk H
 clear H
 go_enter Tryd.func53, Tryd.ntmps53
 go_wp2_with (first | ((with_reducible refine gate_dst (N := 8) rfl ?_); refine Kd.R_lit (Kd.int .i64) _ 2 ?hg (N := 8) ?hd (xs := ([] : List Int)) (inner := []) (ok := fun _ => True) (okp := fun _ => True) ?hr ?hp (fun _ hk => hk) trivial (Below.refl _ _) (Nat.le_refl _) (by simp) ?_; (case hd => rfl); (case hg => rfl); (case hr => first | (go_simp; done) | (go_simp; rfl)); (case hp => exact (Reps.none _ _)); intro v125 w3 ho4 hb hg_ hnew_; clear hg_ hnew_; (first | rw [← Ny124.out] at ho4 | (simp only [Int.reduceToNat] at ho4; rw [← Ny124.out] at ho4)); have n0_ := Aside0.mk (Kd.R_lower ho4 (below_size (by repeat (first | (with_reducible first | exact HB.out | apply below_alloc | apply pw_below_drewN | apply below_drew1) | exact HB.out)))); have n1_ := Aside0.mk (below_step (by repeat (first | (with_reducible first | exact HB.out | apply below_alloc | apply pw_below_drewN | apply below_drew1) | exact HB.out)) hb); clear HB; have HO126 := n0_; have HB := n1_; clear n0_ n1_; clear hb ho4))
 go_loopg [5, 6, 7] k (fun kq v5 v6 v7 w' => ∃ (x5_1 : List Int) (x6_1 : Bool) (x7_1 : Int), v6 = .bool x6_1 ∧ v7 = .int .i64 x7_1 ∧ Aside0 (spec_l00Put.l0 kq l0 a1 x5_1 x6_1 x7_1 = some r) ∧ Aside0 (kq ≤ k) ∧ Aside0 (Kd.R (Kd.int .i64) 2 w' w.heap.size (fun _ => True) v5 x5_1) ∧ Aside0 (Below w.heap.size w w'))
 case atStart => exact ⟨(y124), (false), (0), (by first | rfl | (simp; done) | (simp [*]; done)), (by first | rfl | (simp; done) | (simp [*]; done)), H', ⟨Nat.le_refl _⟩, ⟨by (with_reducible repeat (first | apply Kd.R_alloc | apply Kd.R_drewN | apply Kd.R_drew)); exact HO126.out⟩, ⟨by repeat (first | (with_reducible first | exact HB.out | apply below_alloc | apply pw_below_drewN | apply below_drew1) | exact HB.out)⟩⟩
 case round =>
  clear H'
  try clear p2
  obtain ⟨x5_1, x6_1, x7_1, rfl, rfl, HA, HK1, HO_5, HB⟩ := hrel
  cases gk with
  | zero => exact absurd HA.out (by simp [spec_l00Put.l0])
  | succ k1 =>
   have H := HA.out
   clear HA
   simp only [spec_l00Put.l0] at H
   by_cases c5 : x7_1 < (l0.length : Int)
   ·rw [if_pos c5] at H
    have c5b0 : decide (x7_1 < (l0.length : Int)) = true := decide_eq_true c5
    clear c5
    have HC6 := Aside0.mk H
    clear H
    go_upto_region 6 with (fail)
    go_cut [24] (fun v24 wc => ∃ (kq : Nat) (x24_5 : Bool), v24 = .bool x24_5 ∧ Aside0 (spec_l00Put.j1 kq l0 a1 x5_1 x6_1 x7_1 x24_5 = some r) ∧ Aside0 (kq ≤ k1) ∧ Aside0 (Kd.R (Kd.int .i64) 2 wc w.heap.size (fun _ => True) u5 x5_1) ∧ Aside0 (Below w.heap.size w wc))
    case first =>
     have H := HC6.out
     clear HC6
     by_cases c7 : x6_1 = true
     ·subst c7
      have H1 : (spec_l00Put.j1 k1 l0 a1 x5_1 true x7_1 false) = some r := by rw [if_pos rfl] at H; exact H
      clear H
      have H := H1
      clear H1
      have H' := Aside0.mk H
      clear H
      go_wp2
      go_meet
      case rel => exact ⟨_, (false), (by first | rfl | (simp; done) | (simp [*]; done)), H', ⟨by have := HK1.out; first | omega | exact Nat.le_refl _⟩, ⟨by (with_reducible repeat (first | apply Kd.R_alloc | apply Kd.R_drewN | apply Kd.R_drew)); exact HO_5.out⟩, ⟨by repeat (first | (with_reducible first | exact HB.out | apply below_alloc | apply pw_below_drewN | apply below_drew1) | exact HB.out)⟩⟩
     ·replace c7 := Bool.eq_false_iff.mpr c7
      subst c7
      have H1 : (if 0 ≤ x7_1 then (spec_l00Put.j1 k1 l0 a1 x5_1 false x7_1 (decide ((rd l0 x7_1) ≥ a1))) else (none)) = some r := by rw [if_neg (show ¬ (false = true) by decide)] at H; exact H
      clear H
      have H := H1
      clear H1
      by_cases c8 : 0 ≤ x7_1
      ·rw [if_pos c8] at H
       have c8b0 : decide (0 ≤ x7_1) = true := decide_eq_true c8
       clear c8
       (first | rw [c8b0] | (simp only [i64_w, i32_w]; rw [c8b0]) | skip)
       have H' := Aside0.mk H
       clear H
       have p130 : 0 ≤ (x7_1 : Int) := of_decide_eq_true (by first | (with_reducible assumption) | assumption)
       have q130 : x7_1 < (l0.length : Int) := of_decide_eq_true (by first | (with_reducible assumption) | assumption)
       obtain ⟨ad130, e130, hx130_0⟩ := Kd.at_int HR0.out x7_1 p130 q130
       cases e130
       replace hx130_0 := (HB.out.cell (World.block_lt_of_cell? w _ hx130_0)).trans hx130_0
       replace p130 := eq_true p130
       replace q130 := eq_true q130
       go_wp2
       go_meet
       case rel => exact ⟨_, (decide ((rd l0 x7_1) ≥ a1)), (by first | rfl | (simp; done) | (simp [*]; done)), H', ⟨by have := HK1.out; first | omega | exact Nat.le_refl _⟩, ⟨by (with_reducible repeat (first | apply Kd.R_alloc | apply Kd.R_drewN | apply Kd.R_drew)); exact HO_5.out⟩, ⟨by repeat (first | (with_reducible first | exact HB.out | apply below_alloc | apply pw_below_drewN | apply below_drew1) | exact HB.out)⟩⟩
      ·rw [if_neg c8] at H
       exact absurd H (by simp)
    case rest =>
     clear HC6
     try clear p1
     try clear q1
     try clear hx1
     try clear p2
     try clear c5
     try clear c5b0
     try clear c7
     try clear c8
     try clear c8b0
     try clear hx130_0
     try clear p130
     try clear p2
     try clear q130
     obtain ⟨kq, x24_5, rfl, HA, HJ5, HO_5, HB⟩ := hcut
     cases kq with
     | zero => exact absurd HA.out (by simp [spec_l00Put.j1])
     | succ kj5 =>
      have H := HA.out
      clear HA
      simp only [spec_l00Put.j1] at H
      by_cases c9 : x24_5 = true
      ·subst c9
       have H1 : (if 0 ≤ x7_1 then (if x7_1 < (l0.length : Int) then (if (rd l0 x7_1) > a1 then (if x5_1.length < 17592186044416 then ((some (x5_1 ++ [a1] : List Int)).bind fun y132 => (if y132.length < 17592186044416 then (spec_l00Put.l0 kj5 l0 a1 (y132 ++ [rd l0 x7_1]) true (wrap64 (x7_1 + 1))) else (none))) else (none)) else (if x5_1.length < 17592186044416 then (spec_l00Put.l0 kj5 l0 a1 (x5_1 ++ [rd l0 x7_1]) true (wrap64 (x7_1 + 1))) else (none))) else (none)) else (none)) = some r := by rw [if_pos rfl] at H; exact H
       clear H
       have H := H1
       clear H1
       by_cases c10 : 0 ≤ x7_1
       ·rw [if_pos c10] at H
        have c10b0 : decide (0 ≤ x7_1) = true := decide_eq_true c10
        clear c10
        by_cases c11 : x7_1 < (l0.length : Int)
        ·rw [if_pos c11] at H
         have c11b0 : decide (x7_1 < (l0.length : Int)) = true := decide_eq_true c11
         clear c11
         by_cases c12 : (rd l0 x7_1) > a1
         ·rw [if_pos c12] at H
          have c12b0 : decide (a1 < (rd l0 x7_1)) = true := decide_eq_true c12
          clear c12
          by_cases c13 : x5_1.length < 17592186044416
          ·rw [if_pos c13] at H
           have LMc13 := Aside0.mk c13
           clear c13
           obtain ⟨y132, hy132⟩ : ∃ y_ : List Int, y_ = (x5_1 ++ [a1]) := ⟨_, rfl⟩
           replace H : (if y132.length < 17592186044416 then (spec_l00Put.l0 kj5 l0 a1 (y132 ++ [rd l0 x7_1]) true (wrap64 (x7_1 + 1))) else (none)) = some r := by first | (rw [hy132]; with_reducible exact H) | (have H2_ := (Option.bind_some _ _).symm.trans H; rw [hy132]; with_reducible exact H2_) | (have H2_ := (Option.bind_some _ _).symm.trans H; with_reducible exact H2_) | with_reducible exact H | (rw [hy132]; exact H) | exact H
           have Ny132 := Aside0.mk hy132
           clear hy132
           by_cases c14 : y132.length < 17592186044416
           ·rw [if_pos c14] at H
            have LMc14 := Aside0.mk c14
            clear c14
            obtain ⟨y136, hy136⟩ : ∃ y_ : List Int, y_ = (y132 ++ [rd l0 x7_1]) := ⟨_, rfl⟩
            replace H : (spec_l00Put.l0 kj5 l0 a1 y136 true (wrap64 (x7_1 + 1))) = some r := by first | (rw [hy136]; with_reducible exact H) | (have H2_ := (Option.bind_some _ _).symm.trans H; rw [hy136]; with_reducible exact H2_) | (have H2_ := (Option.bind_some _ _).symm.trans H; with_reducible exact H2_) | with_reducible exact H | (rw [hy136]; exact H) | exact H
            have Ny136 := Aside0.mk hy136
            clear hy136
            have H' := Aside0.mk H
            clear H
            have p131 : 0 ≤ (x7_1 : Int) := of_decide_eq_true (by first | (with_reducible assumption) | assumption)
            have q131 : x7_1 < (l0.length : Int) := of_decide_eq_true (by first | (with_reducible assumption) | assumption)
            obtain ⟨ad131, e131, hx131_0⟩ := Kd.at_int HR0.out x7_1 p131 q131
            cases e131
            replace hx131_0 := (HB.out.cell (World.block_lt_of_cell? w _ hx131_0)).trans hx131_0
            replace p131 := eq_true p131
            replace q131 := eq_true q131
            go_wp2_with (first | ((with_reducible refine gate_builtin (b := .append) (xs := #[.tmp 31, .tmp 33]) rfl ?_); at_builtin; refine Kd.R_append (Kd.int .i64) (w0 := w) w.heap.size rfl (.tmp 31) (.tmp 33) 22 2 (.int .i64 0) 8 rfl Tryd.underlying22 info2 rfl (by decide) (by omega) u5 x5_1 a1 [.int .i64 a1] (fun _ => True) (fun _ => False) rfl rfl ?aP (fun _ hk => hk.elim) ?aF ?aO ?aB ?aS ?aL ?_; (case aP => exact rfl); (case aB => exact (by repeat (first | (with_reducible first | exact HB.out | apply below_alloc | apply pw_below_drewN | apply below_drew1) | exact HB.out))); (case aF => exact (fun _ _ => trivial)); (case aO => exact (by (with_reducible repeat (first | apply Kd.R_alloc | apply Kd.R_drewN | apply Kd.R_drew)); exact HO_5.out)); (case aS => exact (below_size (by repeat (first | (with_reducible first | exact HB.out | apply below_alloc | apply pw_below_drewN | apply below_drew1) | exact HB.out)))); (case aL => have := LMc13.out; omega); intro v133 w15 ho hb hg hat; rw [← Ny132.out] at ho; have n0_ := Aside0.mk (hb); have n1_ := Aside0.mk (ho); clear HB; clear HO_5; have HB := n0_; have HO134 := n1_; clear n0_ n1_; clear ho hb hg hat; have p135 : 0 ≤ (x7_1 : Int) := of_decide_eq_true (by first | (with_reducible assumption) | assumption); have q135 : x7_1 < (l0.length : Int) := of_decide_eq_true (by first | (with_reducible assumption) | assumption); obtain ⟨ad135, e135, hx135_0⟩ := Kd.at_int HR0.out x7_1 p135 q135; obtain rfl : ad131 = ad135 := (by injection e135); replace hx135_0 := (HB.out.cell (World.block_lt_of_cell? w _ hx135_0)).trans hx135_0; replace p135 := eq_true p135; replace q135 := eq_true q135) | ((with_reducible refine gate_builtin (b := .append) (xs := #[.tmp 35, .tmp 40]) rfl ?_); at_builtin; refine Kd.R_append (Kd.int .i64) (w0 := w) w.heap.size rfl (.tmp 35) (.tmp 40) 22 2 (.int .i64 0) 8 rfl Tryd.underlying22 info2 rfl (by decide) (by omega) v133 y132 (rd l0 x7_1) [.int .i64 (rd l0 x7_1)] (fun _ => True) (fun _ => False) rfl rfl ?aP (fun _ hk => hk.elim) ?aF ?aO ?aB ?aS ?aL ?_; (case aP => exact rfl); (case aB => exact (by repeat (first | (with_reducible first | exact HB.out | apply below_alloc | apply pw_below_drewN | apply below_drew1) | exact HB.out))); (case aF => exact (fun _ _ => trivial)); (case aO => exact (by (with_reducible repeat (first | apply Kd.R_alloc | apply Kd.R_drewN | apply Kd.R_drew)); exact HO134.out)); (case aS => exact (below_size (by repeat (first | (with_reducible first | exact HB.out | apply below_alloc | apply pw_below_drewN | apply below_drew1) | exact HB.out)))); (case aL => have := LMc14.out; omega); intro v137 w16 ho hb hg hat; rw [← Ny136.out] at ho; have n0_ := Aside0.mk (hb); have n1_ := Aside0.mk (ho); clear HB; clear HO134; have HB := n0_; have HO138 := n1_; clear n0_ n1_; clear ho hb hg hat))
            go_roundg kj5
            case measure => have := HK1.out; have := HJ5.out; omega
            case rel => exact ⟨(y136), (true), (wrap64 (x7_1 + 1)), (by first | rfl | (simp; done) | (simp [*]; done)), (by first | rfl | (simp; done) | (simp [*]; done)), H', ⟨by have := HK1.out; have := HJ5.out; omega⟩, ⟨by (with_reducible repeat (first | apply Kd.R_alloc | apply Kd.R_drewN | apply Kd.R_drew)); exact HO138.out⟩, ⟨by repeat (first | (with_reducible first | exact HB.out | apply below_alloc | apply pw_below_drewN | apply below_drew1) | exact HB.out)⟩⟩
           ·rw [if_neg c14] at H
            exact absurd H (by simp)
          ·rw [if_neg c13] at H
           exact absurd H (by simp)
         ·rw [if_neg c12] at H
          have c12b0 : decide (a1 < (rd l0 x7_1)) = false := decide_eq_false c12
          clear c12
          by_cases c17 : x5_1.length < 17592186044416
          ·rw [if_pos c17] at H
           have LMc17 := Aside0.mk c17
           clear c17
           obtain ⟨y140, hy140⟩ : ∃ y_ : List Int, y_ = (x5_1 ++ [rd l0 x7_1]) := ⟨_, rfl⟩
           replace H : (spec_l00Put.l0 kj5 l0 a1 y140 true (wrap64 (x7_1 + 1))) = some r := by first | (rw [hy140]; with_reducible exact H) | (have H2_ := (Option.bind_some _ _).symm.trans H; rw [hy140]; with_reducible exact H2_) | (have H2_ := (Option.bind_some _ _).symm.trans H; with_reducible exact H2_) | with_reducible exact H | (rw [hy140]; exact H) | exact H
           have Ny140 := Aside0.mk hy140
           clear hy140
           have H' := Aside0.mk H
           clear H
           have p131 : 0 ≤ (x7_1 : Int) := of_decide_eq_true (by first | (with_reducible assumption) | assumption)
           have q131 : x7_1 < (l0.length : Int) := of_decide_eq_true (by first | (with_reducible assumption) | assumption)
           obtain ⟨ad131, e131, hx131_0⟩ := Kd.at_int HR0.out x7_1 p131 q131
           cases e131
           replace hx131_0 := (HB.out.cell (World.block_lt_of_cell? w _ hx131_0)).trans hx131_0
           replace p131 := eq_true p131
           replace q131 := eq_true q131
           have p139 : 0 ≤ (x7_1 : Int) := of_decide_eq_true (by first | (with_reducible assumption) | assumption)
           have q139 : x7_1 < (l0.length : Int) := of_decide_eq_true (by first | (with_reducible assumption) | assumption)
           obtain ⟨ad139, e139, hx139_0⟩ := Kd.at_int HR0.out x7_1 p139 q139
           obtain rfl : ad131 = ad139 := (by injection e139)
           replace hx139_0 := (HB.out.cell (World.block_lt_of_cell? w _ hx139_0)).trans hx139_0
           replace p139 := eq_true p139
           replace q139 := eq_true q139
           go_wp2_with (first | ((with_reducible refine gate_builtin (b := .append) (xs := #[.tmp 35, .tmp 40]) rfl ?_); at_builtin; refine Kd.R_append (Kd.int .i64) (w0 := w) w.heap.size rfl (.tmp 35) (.tmp 40) 22 2 (.int .i64 0) 8 rfl Tryd.underlying22 info2 rfl (by decide) (by omega) u5 x5_1 (rd l0 x7_1) [.int .i64 (rd l0 x7_1)] (fun _ => True) (fun _ => False) rfl rfl ?aP (fun _ hk => hk.elim) ?aF ?aO ?aB ?aS ?aL ?_; (case aP => exact rfl); (case aB => exact (by repeat (first | (with_reducible first | exact HB.out | apply below_alloc | apply pw_below_drewN | apply below_drew1) | exact HB.out))); (case aF => exact (fun _ _ => trivial)); (case aO => exact (by (with_reducible repeat (first | apply Kd.R_alloc | apply Kd.R_drewN | apply Kd.R_drew)); exact HO_5.out)); (case aS => exact (below_size (by repeat (first | (with_reducible first | exact HB.out | apply below_alloc | apply pw_below_drewN | apply below_drew1) | exact HB.out)))); (case aL => have := LMc17.out; omega); intro v141 w18 ho hb hg hat; rw [← Ny140.out] at ho; have n0_ := Aside0.mk (hb); have n1_ := Aside0.mk (ho); clear HB; clear HO_5; have HB := n0_; have HO142 := n1_; clear n0_ n1_; clear ho hb hg hat))
           go_roundg kj5
           case measure => have := HK1.out; have := HJ5.out; omega
           case rel => exact ⟨(y140), (true), (wrap64 (x7_1 + 1)), (by first | rfl | (simp; done) | (simp [*]; done)), (by first | rfl | (simp; done) | (simp [*]; done)), H', ⟨by have := HK1.out; have := HJ5.out; omega⟩, ⟨by (with_reducible repeat (first | apply Kd.R_alloc | apply Kd.R_drewN | apply Kd.R_drew)); exact HO142.out⟩, ⟨by repeat (first | (with_reducible first | exact HB.out | apply below_alloc | apply pw_below_drewN | apply below_drew1) | exact HB.out)⟩⟩
          ·rw [if_neg c17] at H
           exact absurd H (by simp)
        ·rw [if_neg c11] at H
         exact absurd H (by simp)
       ·rw [if_neg c10] at H
        exact absurd H (by simp)
      ·replace c9 := Bool.eq_false_iff.mpr c9
       subst c9
       have H1 : (if 0 ≤ x7_1 then (if x7_1 < (l0.length : Int) then (if x5_1.length < 17592186044416 then (spec_l00Put.l0 kj5 l0 a1 (x5_1 ++ [rd l0 x7_1]) x6_1 (wrap64 (x7_1 + 1))) else (none)) else (none)) else (none)) = some r := by rw [if_neg (show ¬ (false = true) by decide)] at H; exact H
       clear H
       have H := H1
       clear H1
       by_cases c19 : 0 ≤ x7_1
       ·rw [if_pos c19] at H
        have c19b0 : decide (0 ≤ x7_1) = true := decide_eq_true c19
        clear c19
        by_cases c20 : x7_1 < (l0.length : Int)
        ·rw [if_pos c20] at H
         have c20b0 : decide (x7_1 < (l0.length : Int)) = true := decide_eq_true c20
         clear c20
         by_cases c21 : x5_1.length < 17592186044416
         ·rw [if_pos c21] at H
          have LMc21 := Aside0.mk c21
          clear c21
          obtain ⟨y144, hy144⟩ : ∃ y_ : List Int, y_ = (x5_1 ++ [rd l0 x7_1]) := ⟨_, rfl⟩
          replace H : (spec_l00Put.l0 kj5 l0 a1 y144 x6_1 (wrap64 (x7_1 + 1))) = some r := by first | (rw [hy144]; with_reducible exact H) | (have H2_ := (Option.bind_some _ _).symm.trans H; rw [hy144]; with_reducible exact H2_) | (have H2_ := (Option.bind_some _ _).symm.trans H; with_reducible exact H2_) | with_reducible exact H | (rw [hy144]; exact H) | exact H
          have Ny144 := Aside0.mk hy144
          clear hy144
          have H' := Aside0.mk H
          clear H
          have p143 : 0 ≤ (x7_1 : Int) := of_decide_eq_true (by first | (with_reducible assumption) | assumption)
          have q143 : x7_1 < (l0.length : Int) := of_decide_eq_true (by first | (with_reducible assumption) | assumption)
          obtain ⟨ad143, e143, hx143_0⟩ := Kd.at_int HR0.out x7_1 p143 q143
          cases e143
          replace hx143_0 := (HB.out.cell (World.block_lt_of_cell? w _ hx143_0)).trans hx143_0
          replace p143 := eq_true p143
          replace q143 := eq_true q143
          go_wp2_with (first | ((with_reducible refine gate_builtin (b := .append) (xs := #[.tmp 35, .tmp 40]) rfl ?_); at_builtin; refine Kd.R_append (Kd.int .i64) (w0 := w) w.heap.size rfl (.tmp 35) (.tmp 40) 22 2 (.int .i64 0) 8 rfl Tryd.underlying22 info2 rfl (by decide) (by omega) u5 x5_1 (rd l0 x7_1) [.int .i64 (rd l0 x7_1)] (fun _ => True) (fun _ => False) rfl rfl ?aP (fun _ hk => hk.elim) ?aF ?aO ?aB ?aS ?aL ?_; (case aP => exact rfl); (case aB => exact (by repeat (first | (with_reducible first | exact HB.out | apply below_alloc | apply pw_below_drewN | apply below_drew1) | exact HB.out))); (case aF => exact (fun _ _ => trivial)); (case aO => exact (by (with_reducible repeat (first | apply Kd.R_alloc | apply Kd.R_drewN | apply Kd.R_drew)); exact HO_5.out)); (case aS => exact (below_size (by repeat (first | (with_reducible first | exact HB.out | apply below_alloc | apply pw_below_drewN | apply below_drew1) | exact HB.out)))); (case aL => have := LMc21.out; omega); intro v145 w22 ho hb hg hat; rw [← Ny144.out] at ho; have n0_ := Aside0.mk (hb); have n1_ := Aside0.mk (ho); clear HB; clear HO_5; have HB := n0_; have HO146 := n1_; clear n0_ n1_; clear ho hb hg hat))
          go_roundg kj5
          case measure => have := HK1.out; have := HJ5.out; omega
          case rel => exact ⟨(y144), (x6_1), (wrap64 (x7_1 + 1)), (by first | rfl | (simp; done) | (simp [*]; done)), (by first | rfl | (simp; done) | (simp [*]; done)), H', ⟨by have := HK1.out; have := HJ5.out; omega⟩, ⟨by (with_reducible repeat (first | apply Kd.R_alloc | apply Kd.R_drewN | apply Kd.R_drew)); exact HO146.out⟩, ⟨by repeat (first | (with_reducible first | exact HB.out | apply below_alloc | apply pw_below_drewN | apply below_drew1) | exact HB.out)⟩⟩
         ·rw [if_neg c21] at H
          exact absurd H (by simp)
        ·rw [if_neg c20] at H
         exact absurd H (by simp)
       ·rw [if_neg c19] at H
        exact absurd H (by simp)
   ·rw [if_neg c5] at H
    have c5b0 : decide (x7_1 < (l0.length : Int)) = false := decide_eq_false c5
    clear c5
    by_cases c23 : x6_1 = true
    ·subst c23
     have H1 : (some x5_1) = some r := by rw [if_pos rfl] at H; exact H
     clear H
     have H := H1
     clear H1
     obtain rfl := Option.some.inj H
     go_wp2
     go_ret
     exact ⟨_, by first | rfl | (simp [errW_none, errW_some] <;> rfl) | (simp [*, errW_none, errW_some] <;> rfl), by (with_reducible repeat (first | apply Kd.R_alloc | apply Kd.R_drewN | apply Kd.R_drew)); exact HO_5.out, by repeat (first | (with_reducible first | exact HB.out | apply below_alloc | apply pw_below_drewN | apply below_drew1) | exact HB.out)⟩
    ·replace c23 := Bool.eq_false_iff.mpr c23
     subst c23
     have H1 : (if x5_1.length < 17592186044416 then (some (x5_1 ++ [a1])) else (none)) = some r := by rw [if_neg (show ¬ (false = true) by decide)] at H; exact H
     clear H
     have H := H1
     clear H1
     by_cases c24 : x5_1.length < 17592186044416
     ·rw [if_pos c24] at H
      have LMc24 := Aside0.mk c24
      clear c24
      obtain ⟨y127, hy127⟩ : ∃ y_ : List Int, y_ = (x5_1 ++ [a1]) := ⟨_, rfl⟩
      replace H : (some y127) = some r := by first | (rw [hy127]; with_reducible exact H) | (have H2_ := (Option.bind_some _ _).symm.trans H; rw [hy127]; with_reducible exact H2_) | (have H2_ := (Option.bind_some _ _).symm.trans H; with_reducible exact H2_) | with_reducible exact H | (rw [hy127]; exact H) | exact H
      have Ny127 := Aside0.mk hy127
      clear hy127
      obtain rfl := Option.some.inj H
      go_wp2_with (first | ((with_reducible refine gate_builtin (b := .append) (xs := #[.tmp 44, .tmp 46]) rfl ?_); at_builtin; refine Kd.R_append (Kd.int .i64) (w0 := w) w.heap.size rfl (.tmp 44) (.tmp 46) 22 2 (.int .i64 0) 8 rfl Tryd.underlying22 info2 rfl (by decide) (by omega) u5 x5_1 a1 [.int .i64 a1] (fun _ => True) (fun _ => False) rfl rfl ?aP (fun _ hk => hk.elim) ?aF ?aO ?aB ?aS ?aL ?_; (case aP => exact rfl); (case aB => exact (by repeat (first | (with_reducible first | exact HB.out | apply below_alloc | apply pw_below_drewN | apply below_drew1) | exact HB.out))); (case aF => exact (fun _ _ => trivial)); (case aO => exact (by (with_reducible repeat (first | apply Kd.R_alloc | apply Kd.R_drewN | apply Kd.R_drew)); exact HO_5.out)); (case aS => exact (below_size (by repeat (first | (with_reducible first | exact HB.out | apply below_alloc | apply pw_below_drewN | apply below_drew1) | exact HB.out)))); (case aL => have := LMc24.out; omega); intro v128 w25 ho hb hg hat; rw [← Ny127.out] at ho; have n0_ := Aside0.mk (hb); have n1_ := Aside0.mk (ho); clear HB; clear HO_5; have HB := n0_; have HO129 := n1_; clear n0_ n1_; clear ho hb hg hat))
      go_ret
      exact ⟨_, by first | rfl | (simp [errW_none, errW_some] <;> rfl) | (simp [*, errW_none, errW_some] <;> rfl), by (with_reducible repeat (first | apply Kd.R_alloc | apply Kd.R_drewN | apply Kd.R_drew)); exact HO129.out, by repeat (first | (with_reducible first | exact HB.out | apply below_alloc | apply pw_below_drewN | apply below_drew1) | exact HB.out)⟩
     ·rw [if_neg c24] at H
      exact absurd H (by simp)
end Go.Proofs.YtalkmhnlgfncmaaDoor.X
end
section
-- Written by a program of this session out of the kit's print of the loaded functions: a plain function of a Go function, and its contract.
namespace Go.Proofs.YtalkmhnlgfncmaaDoor.X
open Go.RowKit Go.Proofs.YtalkmhnlgfncmaaDoorW.PrintWords Go.Proofs.YtalkmhnlgfncmaaDoorW.PrintLast Go.Proofs.YtalkmhnlgfncmaaDoorW.PrintMore
attribute [local go_sem] max2_int min2_int max_two min_two max_three min_three max_four min_four   -- for this text's walks alone
set_option linter.unusedVariables false
set_option linter.unusedSimpArgs false
mutual
def spec_l08Open.l0 : Nat → Int → List Int → List Int → Int → List Int → List (S43) → Option (Bool)
 | 0, _, _, _, _, _, _ => none
 | k + 1, x1, x5, x6, x7, x1000, x1001 => if x7 < (x6.length : Int) then (spec_l08Open.l1 k x1 x5 x6 x7 0 x1000 x1001) else (some false)
def spec_l08Open.l1 : Nat → Int → List Int → List Int → Int → Int → List Int → List (S43) → Option (Bool)
 | 0, _, _, _, _, _, _, _ => none
 | k + 1, x1, x5, x6, x7, x8, x1000, x1001 => if x8 < (x1001.length : Int) then (if 0 ≤ x8 then (if 0 ≤ x7 then (if x7 < (x6.length : Int) then (if ((rd_T43 x1001 x8).f0) = (rd x6 x7) then (spec_l08Open.j2 k x1 x5 x6 x7 x8 (decide (((rd_T43 x1001 x8).f2) > 0)) x1000 x1001 ((rd_T43 x1001 x8).f0) ((rd_T43 x1001 x8).f1) ((rd_T43 x1001 x8).f2)) else (spec_l08Open.j2 k x1 x5 x6 x7 x8 true x1000 x1001 ((rd_T43 x1001 x8).f0) ((rd_T43 x1001 x8).f1) ((rd_T43 x1001 x8).f2))) else (none)) else (none)) else (none)) else (spec_l08Open.l0 k x1 x5 x6 (wrap64 (x7 + 1)) x1000 x1001)
def spec_l08Open.j2 : Nat → Int → List Int → List Int → Int → Int → Bool → List Int → List (S43) → Int → Int → Int → Option (Bool)
 | 0, _, _, _, _, _, _, _, _, _, _, _ => none
 | k + 1, x1, x5, x6, x7, x8, x46, x1000, x1001, x155000, x155001, x155002 => if x46 = true then (spec_l08Open.l1 k x1 x5 x6 x7 (wrap64 (x8 + 1)) x1000 x1001) else (if x155001 = x1 then (some true) else ((spec_l00Has.f k x5 x155001).bind fun t156 => (if t156 = true then (spec_l08Open.l1 k x1 x5 x6 x7 (wrap64 (x8 + 1)) x1000 x1001) else ((spec_l00Put.f k x5 x155001).bind fun t157 => (if x6.length < 17592186044416 then (spec_l08Open.l1 k x1 t157 (x6 ++ [x155001]) x7 (wrap64 (x8 + 1)) x1000 x1001) else (none))))))
end
def spec_l08Open.f (k : Nat) (s0_0 : List Int) (s0_1 : List (S43)) (a1 : Int) : Option (Bool) := spec_l08Open.l0 k a1 (([] : List Int)) (([a1] : List Int)) 0 s0_0 s0_1
end Go.Proofs.YtalkmhnlgfncmaaDoor.X
end
section
-- Written by a program of this session out of the kit's print of the loaded functions: a plain function of a Go function, and its contract.
namespace Go.Proofs.YtalkmhnlgfncmaaDoor.X
open Go.RowKit Go.Proofs.YtalkmhnlgfncmaaDoorW.PrintWords Go.Proofs.YtalkmhnlgfncmaaDoorW.PrintLast Go.Proofs.YtalkmhnlgfncmaaDoorW.PrintMore
attribute [local go_sem] max2_int min2_int max_two min_two max_three min_three max_four min_four   -- for this text's walks alone
set_option linter.unusedVariables false
set_option linter.unusedSimpArgs false
def spec_l08Is.l0 : Nat → Int → List Int → List (S43) → Option (Bool)
 | 0, _, _, _ => none
 | k + 1, x3, x1000, x1001 => if x3 < (x1000.length : Int) then ((spec_l08Open.f k x1000 x1001 x3).bind fun t164 => (if t164 = true then (some false) else (spec_l08Is.l0 k (wrap64 (x3 + 1)) x1000 x1001))) else (some true)
def spec_l08Is.f (k : Nat) (s0_0 : List Int) (s0_1 : List (S43)) : Option (Bool) := (spec_l08Form.f k s0_0 s0_1).bind fun t163 => (if t163 = true then (spec_l08Is.l0 k 0 s0_0 s0_1) else (some false))
end Go.Proofs.YtalkmhnlgfncmaaDoor.X
end
section
-- Written by a program of this session out of the kit's print of the loaded functions: a plain function of a Go function, and its contract.
namespace Go.Proofs.YtalkmhnlgfncmaaDoor.X
open Go.RowKit Go.Proofs.YtalkmhnlgfncmaaDoorW.PrintWords Go.Proofs.YtalkmhnlgfncmaaDoorW.PrintLast Go.Proofs.YtalkmhnlgfncmaaDoorW.PrintMore
attribute [local go_sem] max2_int min2_int max_two min_two max_three min_three max_four min_four   -- for this text's walks alone
set_option linter.unusedVariables false
set_option linter.unusedSimpArgs false
end Go.Proofs.YtalkmhnlgfncmaaDoor.X
end
section
-- Written by a program of this session out of the kit's print of the loaded functions: a plain function of a Go function, and its contract.
namespace Go.Proofs.YtalkmhnlgfncmaaDoor.X
open Go.RowKit Go.Proofs.YtalkmhnlgfncmaaDoorW.PrintWords Go.Proofs.YtalkmhnlgfncmaaDoorW.PrintLast Go.Proofs.YtalkmhnlgfncmaaDoorW.PrintMore
attribute [local go_sem] max2_int min2_int max_two min_two max_three min_three max_four min_four   -- for this text's walks alone
set_option linter.unusedVariables false
set_option linter.unusedSimpArgs false
end Go.Proofs.YtalkmhnlgfncmaaDoor.X
end
section
-- Written by a program of this session out of the kit's print of the loaded functions: a plain function of a Go function, and its contract.
namespace Go.Proofs.YtalkmhnlgfncmaaDoor.X
open Go.RowKit Go.Proofs.YtalkmhnlgfncmaaDoorW.PrintWords Go.Proofs.YtalkmhnlgfncmaaDoorW.PrintLast Go.Proofs.YtalkmhnlgfncmaaDoorW.PrintMore
attribute [local go_sem] max2_int min2_int max_two min_two max_three min_three max_four min_four   -- for this text's walks alone
set_option linter.unusedVariables false
set_option linter.unusedSimpArgs false
end Go.Proofs.YtalkmhnlgfncmaaDoor.X
end
section
namespace Go.Proofs.YtalkmhnlgfncmaaDoor.X
open Go.RowKit Go.Proofs.YtalkmhnlgfncmaaDoorW.PrintWords Go.Proofs.YtalkmhnlgfncmaaDoorW.PrintLast Go.Proofs.YtalkmhnlgfncmaaDoorW.PrintMore
set_option linter.unusedVariables false
set_option linter.unusedSimpArgs false
theorem within_eq (a b c : Int) : impl_within.f a b c = some (decide (b ≤ a ∧ a ≤ c)) := by
  unfold impl_within.f; by_cases h : a ≥ b <;> simp [h] <;> omega
theorem l00In_eq (a b c : Int) : spec_l00In.f a b c = some (decide (b ≤ a ∧ a ≤ c)) := by
  unfold spec_l00In.f; by_cases h : a ≥ b <;> simp [h] <;> omega
end Go.Proofs.YtalkmhnlgfncmaaDoor.X
end
section
namespace Go.Proofs.YtalkmhnlgfncmaaDoor.X
open Go.RowKit Go.Proofs.YtalkmhnlgfncmaaDoorW.PrintWords Go.Proofs.YtalkmhnlgfncmaaDoorW.PrintLast Go.Proofs.YtalkmhnlgfncmaaDoorW.PrintMore
set_option linter.unusedVariables false
set_option linter.unusedSimpArgs false
theorem rd_at (l : List Int) (i : Nat) (h : i < l.length) : rd l (i : Int) = l[i] := rd_nat l i h
theorem has_loop (l : List Int) (v : Int) (hl : l.length ≤ 1000) : ∀ (d i k : Nat), i + d = l.length → d < k → spec_l00Has.l0 k l v i = some (decide (v ∈ l.drop i))
  | 0, i, k, hi, hk => by
    cases k with
    | zero => omega
    | succ k => rw [spec_l00Has.l0, if_neg (by omega), List.drop_of_length_le (by omega)]; simp
  | d + 1, i, k, hi, hk => by
    cases k with
    | zero => omega
    | succ k =>
      have ih := has_loop l v hl d (i + 1) k (by omega) (by omega)
      have hlt : i < l.length := by omega
      rw [spec_l00Has.l0, if_pos (by omega), if_pos (by omega), rd_at l i hlt, List.drop_eq_getElem_cons hlt, w64 (by omega) (by omega)]
      by_cases e : l[i] = v
      · rw [if_pos e]; simp [e]
      · rw [if_neg e]
        rw [Int.natCast_add, Int.natCast_one] at ih
        rw [ih]
        congr 1
        rw [decide_eq_decide, List.mem_cons]
        constructor
        · exact .inr
        · rintro (h | h)
          · exact absurd h.symm e
          · exact h
theorem has_eq (l : List Int) (v : Int) (hl : l.length ≤ 1000) (k : Nat) (hk : l.length < k) : spec_l00Has.f k l v = some (decide (v ∈ l)) := by
  have := has_loop l v hl l.length 0 k (by omega) hk
  simpa [spec_l00Has.f] using this
theorem put_loop (l : List Int) (v : Int) (hv : v ∉ l) (hl : l.length ≤ 1000) : ∀ (d i k : Nat) (out : List Int) (done : Bool), i + d = l.length → out.length ≤ 2 * i + 2 → 2 * d + 1 < k →
    ∃ r, spec_l00Put.l0 k l v out done i = some r ∧ r.length = out.length + d + (if done = true then 0 else 1) ∧ ∀ x, x ∈ r ↔ x ∈ out ∨ x ∈ l.drop i ∨ (done = false ∧ x = v)
  | 0, i, k, out, done, hi, ho, hk => by
    cases k with
    | zero => omega
    | succ k =>
      rw [spec_l00Put.l0, if_neg (by omega), List.drop_of_length_le (by omega)]
      cases done with
      | true => exact ⟨out, by simp, by simp, by simp⟩
      | false => exact ⟨out ++ [v], by rw [if_neg (by decide), if_pos (by omega)], by simp, by simp⟩
  | d + 1, i, k, out, done, hi, ho, hk => by
    cases k with
    | zero => omega
    | succ k =>
    cases k with
    | zero => omega
    | succ k =>
      have hlt : i < l.length := by omega
      have hne : l[i] ≠ v := fun e => hv (e ▸ List.getElem_mem hlt)
      rw [spec_l00Put.l0, if_pos (by omega), List.drop_eq_getElem_cons hlt]
      cases done with
      | true =>
        obtain ⟨r, h1, h2, h3⟩ := put_loop l v hv hl d (i + 1) k (out ++ [l[i]]) true (by omega) (by simp; omega) (by omega)
        refine ⟨r, ?_, by rw [h2]; simp; omega, fun x => by rw [h3]; simp only [List.mem_append, List.mem_cons, List.not_mem_nil, or_false, List.mem_singleton]; grind⟩
        rw [if_pos rfl, spec_l00Put.j1, if_neg (by decide), if_pos (by omega), if_pos (by omega), if_pos (by omega), rd_at l i hlt, w64 (by omega) (by omega)]
        rw [Int.natCast_add, Int.natCast_one] at h1
        exact h1
      | false =>
        rw [if_neg (by decide), if_pos (by omega), rd_at l i hlt, spec_l00Put.j1]
        by_cases hge : l[i] ≥ v
        · obtain ⟨r, h1, h2, h3⟩ := put_loop l v hv hl d (i + 1) k (out ++ [v] ++ [l[i]]) true (by omega) (by simp; omega) (by omega)
          refine ⟨r, ?_, by rw [h2]; simp; omega, fun x => by rw [h3]; simp only [List.mem_append, List.mem_cons, List.not_mem_nil, or_false, List.mem_singleton]; grind⟩
          rw [decide_eq_true hge, if_pos rfl, if_pos (by omega), if_pos (by omega), rd_at l i hlt, if_pos (by omega), if_pos (by omega), Option.bind_some, if_pos (by simp; omega), w64 (by omega) (by omega)]
          rw [Int.natCast_add, Int.natCast_one] at h1
          exact h1
        · obtain ⟨r, h1, h2, h3⟩ := put_loop l v hv hl d (i + 1) k (out ++ [l[i]]) false (by omega) (by simp; omega) (by omega)
          refine ⟨r, ?_, by rw [h2]; simp; omega, fun x => by rw [h3]; simp only [List.mem_append, List.mem_cons, List.not_mem_nil, or_false, List.mem_singleton]; grind⟩
          rw [decide_eq_false hge, if_neg (by decide), if_pos (by omega), if_pos (by omega), if_pos (by omega), rd_at l i hlt, w64 (by omega) (by omega)]
          rw [Int.natCast_add, Int.natCast_one] at h1
          exact h1
theorem put_eq (l : List Int) (v : Int) (hv : v ∉ l) (hl : l.length ≤ 1000) (k : Nat) (hk : 2 * l.length + 1 < k) : ∃ r, spec_l00Put.f k l v = some r ∧ r.length = l.length + 1 ∧ ∀ x, x ∈ r ↔ x ∈ l ∨ x = v := by
  obtain ⟨r, h1, h2, h3⟩ := put_loop l v hv hl l.length 0 k [] false (by omega) (by simp) hk
  exact ⟨r, h1, by rw [h2]; simp, fun x => by rw [h3]; simp⟩
end Go.Proofs.YtalkmhnlgfncmaaDoor.X
end
section
namespace Go.Proofs.YtalkmhnlgfncmaaDoor.FlowMath
set_option linter.unusedVariables false
set_option linter.unusedSimpArgs false
theorem pigeon : ∀ (n : Nat) (f : Nat → Nat), (∀ i, i ≤ n → f i < n) → ∃ i j, i < j ∧ j ≤ n ∧ f i = f j := by
  intro n
  induction n with
  | zero => intro f h; exact absurd (h 0 (Nat.le_refl _)) (Nat.not_lt_zero _)
  | succ n ih =>
    intro f h
    by_cases hex : ∃ i, i ≤ n ∧ f i = f (n + 1)
    · obtain ⟨i, hi, e⟩ := hex
      exact ⟨i, n + 1, by omega, Nat.le_refl _, e⟩
    · have hne : ∀ i, i ≤ n → f i ≠ f (n + 1) := fun i hi e => hex ⟨i, hi, e⟩
      have hc := h (n + 1) (Nat.le_refl _)
      obtain ⟨i, j, hij, hj, e⟩ := ih (fun i => if f i = n then f (n + 1) else f i) (by
        intro i hi
        have h1 := h i (by omega)
        have h2 := hne i hi
        show (if f i = n then f (n + 1) else f i) < n
        split <;> omega)
      refine ⟨i, j, hij, by omega, ?_⟩
      have h1 := hne i (by omega)
      have h2 := hne j hj
      have e' : (if f i = n then f (n + 1) else f i) = (if f j = n then f (n + 1) else f j) := e
      split at e' <;> split at e' <;> omega
inductive Plus (E : Nat → Nat → Prop) : Nat → Nat → Prop
  | one {a b} : E a b → Plus E a b
  | step {a b c} : E a b → Plus E b c → Plus E a c
theorem Plus.trans {E : Nat → Nat → Prop} {a b c : Nat} (h : Plus E a b) (k : Plus E b c) : Plus E a c := by
  induction h with
  | one e => exact .step e k
  | step e _ ih => exact .step e (ih k)
theorem Plus.snoc {E : Nat → Nat → Prop} {a b c : Nat} (h : Plus E a b) (k : E b c) : Plus E a c := h.trans (.one k)
theorem cycle_of_back (E : Nat → Nat → Prop) (n : Nat) (S : Nat → Prop) (hS : ∀ v, S v → v < n ∧ ∃ u, S u ∧ E u v) (v0 : Nat) (h0 : S v0) : ∃ v, S v ∧ Plus E v v := by
  classical
  let p : {v // S v} → {v // S v} := fun v => ⟨Classical.choose (hS v.1 v.2).2, (Classical.choose_spec (hS v.1 v.2).2).1⟩
  have hp : ∀ v, E (p v).1 v.1 := fun v => (Classical.choose_spec (hS v.1 v.2).2).2
  let s : Nat → {v // S v} := fun k => Nat.rec ⟨v0, h0⟩ (fun _ x => p x) k
  have hs : ∀ k, E (s (k + 1)).1 (s k).1 := fun k => hp (s k)
  have hplus : ∀ d i, Plus E (s (i + d + 1)).1 (s i).1 := by
    intro d
    induction d with
    | zero => intro i; exact .one (hs i)
    | succ d ih => intro i; exact .step (hs (i + d + 1)) (ih i)
  obtain ⟨i, j, hij, _, e⟩ := pigeon n (fun k => (s k).1) (fun i _ => (hS _ (s i).2).1)
  refine ⟨(s i).1, (s i).2, ?_⟩
  have h := hplus (j - i - 1) i
  rw [show i + (j - i - 1) + 1 = j by omega] at h
  have e' : (s i).1 = (s j).1 := e
  rw [← e'] at h
  exact h
noncomputable def cnt (p : Nat → Prop) : Nat → Nat
  | 0 => 0
  | n + 1 => open Classical in cnt p n + if p n then 1 else 0
theorem cnt_le (p : Nat → Prop) (n : Nat) : cnt p n ≤ n := by
  induction n with
  | zero => exact Nat.le_refl _
  | succ n ih => unfold cnt; split <;> omega
theorem cnt_mono {p q : Nat → Prop} (n : Nat) (h : ∀ i, i < n → p i → q i) : cnt p n ≤ cnt q n := by
  induction n with
  | zero => exact Nat.le_refl _
  | succ n ih =>
    have := ih (fun i hi => h i (by omega))
    unfold cnt
    by_cases hp : p n
    · rw [if_pos hp, if_pos (h n (by omega) hp)]; omega
    · rw [if_neg hp]; omega
theorem cnt_lt {p q : Nat → Prop} (n : Nat) (h : ∀ i, i < n → p i → q i) (v : Nat) (hv : v < n) (hq : q v) (hp : ¬ p v) : cnt p n < cnt q n := by
  induction n with
  | zero => omega
  | succ n ih =>
    unfold cnt
    by_cases e : v = n
    · subst e
      have := cnt_mono (p := p) (q := q) v (fun i hi => h i (by omega))
      rw [if_neg hp, if_pos hq]; omega
    · have := ih (fun i hi => h i (by omega)) (by omega)
      by_cases hp' : p n
      · rw [if_pos hp', if_pos (h n (by omega) hp')]; omega
      · rw [if_neg hp']; omega
theorem Plus.last {E : Nat → Nat → Prop} {a c : Nat} (h : Plus E a c) : ∃ b, E b c ∧ (b = a ∨ Plus E a b) := by
  induction h with
  | one e => exact ⟨_, e, .inl rfl⟩
  | step e k ih =>
    obtain ⟨b, hb, hh⟩ := ih
    refine ⟨b, hb, .inr ?_⟩
    rcases hh with rfl | hh
    · exact .one e
    · exact .step e hh
theorem ring_back {E : Nat → Nat → Prop} {v : Nat} (h : Plus E v v) : ∃ u, Plus E u u ∧ E u v := by
  obtain ⟨b, hb, hh⟩ := h.last
  rcases hh with rfl | hh
  · exact ⟨b, h, hb⟩
  · exact ⟨b, .step hb hh, hb⟩
theorem kahn (E : Nat → Nat → Prop) (n : Nat) (hE : ∀ a b, E a b → a < n ∧ b < n) (L : Nat → Nat → Prop) (h0 : ∀ v, v < n → L 0 v) (hlt : ∀ k v, L k v → v < n)
    (hsub : ∀ k v, L (k + 1) v → L k v) (hled : ∀ k v, L (k + 1) v → ∃ u, L k u ∧ E u v) (hkeep : ∀ k (C : Nat → Prop), (∀ v, C v → L k v) → (∀ v, C v → ∃ u, C u ∧ E u v) → ∀ v, C v → L (k + 1) v) :
    (∃ v, L n v) ↔ ∃ v, Plus E v v := by
  constructor
  · rintro ⟨v, hv⟩
    by_cases hst : ∃ k, k < n ∧ ∀ v, L k v → L (k + 1) v
    · obtain ⟨k, hk, hs⟩ := hst
      have hdown : ∀ d, L (k + d) v → L k v := by
        intro d
        induction d with
        | zero => exact id
        | succ d ih => exact fun h => ih (hsub _ _ h)
      have hkv : L k v := hdown (n - k) (by rw [show k + (n - k) = n by omega]; exact hv)
      obtain ⟨u, _, hu⟩ := cycle_of_back E n (L k) (fun x hx => ⟨hlt k x hx, hled k x (hs x hx)⟩) v hkv
      exact ⟨u, hu⟩
    · have hlow : ∀ k, k ≤ n → cnt (L k) n + k ≤ n := by
        intro k
        induction k with
        | zero => intro _; have := cnt_le (L 0) n; omega
        | succ k ih =>
          intro hk
          have h1 := ih (by omega)
          have hns : ¬ ∀ v, L k v → L (k + 1) v := fun h => hst ⟨k, by omega, h⟩
          obtain ⟨x, hx⟩ := Classical.not_forall.mp hns
          obtain ⟨hx1, hx2⟩ := Classical.not_imp.mp hx
          have := cnt_lt n (fun i _ h => hsub k i h) x (hlt k x hx1) hx1 hx2
          omega
      have h1 := hlow n (Nat.le_refl _)
      have h2 := cnt_lt (p := fun _ => False) (q := L n) n (fun _ _ h => h.elim) v (hlt n v hv) hv (fun h => h)
      omega
  · rintro ⟨v, hv⟩
    have hall : ∀ k v, Plus E v v → L k v := by
      intro k
      induction k with
      | zero => intro v hv; obtain ⟨u, _, hu⟩ := ring_back hv; exact h0 v (hE _ _ hu).2
      | succ k ih => exact fun v hv => hkeep k (fun x => Plus E x x) ih (fun x hx => ring_back hx) v hv
    exact ⟨v, hall n v hv⟩
structure IsSlow (d : Nat → Int) (es : List (Nat × Nat)) (D : Nat → Int) : Prop where
  own : ∀ v, d v ≤ D v
  far : ∀ e, e ∈ es → d e.1 + D e.2 ≤ D e.1
  att : ∀ v, D v = d v ∨ ∃ b, (v, b) ∈ es ∧ D v = d v + D b
end Go.Proofs.YtalkmhnlgfncmaaDoor.FlowMath
end
section
namespace Go.Proofs.YtalkmhnlgfncmaaDoor.X
open Go.RowKit Go.Proofs.YtalkmhnlgfncmaaDoorW.PrintWords Go.Proofs.YtalkmhnlgfncmaaDoorW.PrintLast Go.Proofs.YtalkmhnlgfncmaaDoorW.PrintMore Go.Proofs.YtalkmhnlgfncmaaDoor.FlowMath
set_option linter.unusedVariables false
set_option linter.unusedSimpArgs false
def WireOk (n : Nat) (w : S43) : Prop := 0 ≤ w.f0 ∧ w.f0 < n ∧ 0 ≤ w.f1 ∧ w.f1 < n ∧ 0 ≤ w.f2 ∧ w.f2 ≤ 20
def Edge (ws : List S43) (a b : Nat) : Prop := ∃ w, w ∈ ws ∧ w.f2 = 0 ∧ w.f0 = (a : Int) ∧ w.f1 = (b : Int)
theorem Edge.lt {ws : List S43} {n : Nat} (hw : ∀ w, w ∈ ws → WireOk n w) {a b : Nat} (h : Edge ws a b) : a < n ∧ b < n := by
  obtain ⟨w, h1, h2, h3, h4⟩ := h
  obtain ⟨_, h5, _, h6, _⟩ := hw w h1
  omega
theorem rdT_at (l : List S43) (i : Nat) (h : i < l.length) : rd_T43 l (i : Int) = l[i] := by
  unfold rd_T43; simp [h]
structure Bfs (ws : List S43) (n v : Nat) (seen list : List Int) (i : Nat) : Prop where
  all : ∀ x, x ∈ list ↔ x = (v : Int) ∨ x ∈ seen
  rng : ∀ x, x ∈ seen → ∃ y : Nat, x = (y : Int) ∧ y < n ∧ Plus (Edge ws) v y
  done : ∀ (j : Nat) (hj : j < list.length), j < i → ∀ w, w ∈ ws → w.f2 = 0 → w.f0 = list[j] → w.f1 ≠ (v : Int) ∧ w.f1 ∈ seen
  le : i ≤ list.length
noncomputable def ringB (ws : List S43) (v : Nat) : Bool := open Classical in decide (Plus (Edge ws) v v)
theorem ringB_true {ws : List S43} {v : Nat} (h : Plus (Edge ws) v v) : ringB ws v = true := by unfold ringB; exact @decide_eq_true _ (Classical.propDecidable _) h
theorem ringB_false {ws : List S43} {v : Nat} (h : ¬ Plus (Edge ws) v v) : ringB ws v = false := by unfold ringB; exact @decide_eq_false _ (Classical.propDecidable _) h
noncomputable def unseen (n : Nat) (seen : List Int) : Nat := cnt (fun y => (y : Int) ∉ seen) n
theorem bfs_end {ws : List S43} {n v : Nat} {seen list : List Int} (h : Bfs ws n v seen list list.length) : ¬ Plus (Edge ws) v v := by
  have key : ∀ a c, Plus (Edge ws) a c → (a : Int) ∈ list → (c : Int) ≠ v ∧ (c : Int) ∈ seen := by
    intro a c hp
    induction hp with
    | one e =>
      intro ha
      obtain ⟨w, h1, h2, h3, h4⟩ := e
      obtain ⟨j, hj, hje⟩ := List.mem_iff_getElem.mp ha
      have := h.done j hj hj w h1 h2 (by rw [hje, h3])
      rw [h4] at this
      exact this
    | step e _ ih =>
      intro ha
      obtain ⟨w, h1, h2, h3, h4⟩ := e
      obtain ⟨j, hj, hje⟩ := List.mem_iff_getElem.mp ha
      have := h.done j hj hj w h1 h2 (by rw [hje, h3])
      rw [h4] at this
      exact ih ((h.all _).2 (.inr this.2))
  intro hp
  exact (key v v hp ((h.all _).2 (.inl rfl))).1 rfl
theorem bfs_in (ws : List S43) (d0 : List Int) (n v : Nat) (hv : v < n) (hn : n ≤ 8) (hm : ws.length ≤ 16) (hw : ∀ w, w ∈ ws → WireOk n w) (i K2 p : Nat) (hK : 100 < K2)
    (next : ∀ (seen list : List Int), Bfs ws n v seen list (i + 1) → (unseen n seen + seen.length ≤ n) → list.length = seen.length + 1 → list.length - (i + 1) + unseen n seen ≤ p → ∀ k, K2 < k → spec_l08Open.l0 k v seen list ((i : Int) + 1) d0 ws = some (ringB ws v)) :
    ∀ (d m : Nat) (seen list : List Int), m + d = ws.length → Bfs ws n v seen list i → i < list.length → (unseen n seen + seen.length ≤ n) → list.length = seen.length + 1 →
      (∀ (j : Nat) (hj : j < ws.length), j < m → ws[j].f2 = 0 → ∀ hi : i < list.length, ws[j].f0 = list[i] → ws[j].f1 ≠ (v : Int) ∧ ws[j].f1 ∈ seen) → list.length - (i + 1) + unseen n seen ≤ p →
      ∀ k, K2 + 2 * d + 1 < k → spec_l08Open.l1 k v seen list i m d0 ws = some (ringB ws v) := by
  intro d
  induction d with
  | zero =>
    intro m seen list hmd hb hi hu hll hp hpp k hk
    cases k with
    | zero => omega
    | succ k =>
      rw [spec_l08Open.l1, if_neg (by omega), w64 (by omega) (by omega)]
      refine next seen list ⟨hb.all, hb.rng, fun j hj hji w hws h2 h3 => ?_, by omega⟩ hu hll hpp k (by omega)
      by_cases e : j = i
      · subst e
        obtain ⟨q, hq, hqe⟩ := List.mem_iff_getElem.mp hws
        have := hp q hq (by omega) (by rw [hqe]; exact h2) hj (by rw [hqe]; exact h3)
        rw [hqe] at this
        exact this
      · exact hb.done j hj (by omega) w hws h2 h3
  | succ d ih =>
    intro m seen list hmd hb hi hu hll hp hpp k hk
    have hlt : m < ws.length := by omega
    obtain ⟨w, hwe⟩ : ∃ w, w = ws[m] := ⟨_, rfl⟩
    have hwm : w ∈ ws := hwe ▸ List.getElem_mem hlt
    obtain ⟨o1, o2, o3, o4, o5, o6⟩ := hw w hwm
    cases k with
    | zero => omega
    | succ k =>
    cases k with
    | zero => omega
    | succ k =>
      rw [spec_l08Open.l1, if_pos (by omega), if_pos (by omega), if_pos (by omega), if_pos (by omega), rdT_at ws m hlt, ← hwe, rd_at list i hi]
      -- a wire that isn't of this vertex, or has registers
      have skip : ¬ (w.f2 = 0 ∧ w.f0 = list[i]) → spec_l08Open.l1 k v seen list i ((m : Int) + 1) d0 ws = some (ringB ws v) := by
        intro hns
        have := ih (m + 1) seen list (by omega) hb hi hu hll (fun j hj hjm h2 hi' h3 => by
          by_cases e : j = m
          · subst e
            rw [← hwe] at h2 h3 ⊢
            exact absurd ⟨h2, h3⟩ hns
          · exact hp j hj (by omega) h2 hi' h3) hpp k (by omega)
        rw [Int.natCast_add, Int.natCast_one] at this
        exact this
      have hwr : Aside0 (wrap64 ((m : Int) + 1) = (m : Int) + 1) := ⟨w64 (by omega) (by omega)⟩
      by_cases e1 : w.f0 = list[i]
      · rw [if_pos e1]
        by_cases e2 : w.f2 > 0
        · rw [decide_eq_true e2, spec_l08Open.j2, if_pos rfl, hwr.out]
          exact skip (fun h => by omega)
        · rw [decide_eq_false e2, spec_l08Open.j2, if_neg (by decide)]
          have e2' : w.f2 = 0 := by omega
          obtain ⟨a, ha⟩ := Int.eq_ofNat_of_zero_le o1
          obtain ⟨b, hb'⟩ := Int.eq_ofNat_of_zero_le o3
          have hE : Edge ws a b := ⟨w, hwm, e2', ha, hb'⟩
          have hreach : a = v ∨ Plus (Edge ws) v a := by
            have hmem : list[i] ∈ list := List.getElem_mem hi
            rcases (hb.all _).1 hmem with h | h
            · left; omega
            · obtain ⟨y, hy, _, hp⟩ := hb.rng _ h
              right
              have : a = y := by omega
              rw [this]; exact hp
          have hpb : Plus (Edge ws) v b := by
            rcases hreach with h | h
            · subst h; exact .one hE
            · exact h.snoc hE
          by_cases e3 : w.f1 = (v : Int)
          · rw [if_pos e3]
            have : b = v := by omega
            subst this
            rw [ringB_true hpb]
          · rw [if_neg e3, has_eq seen w.f1 (by omega) k (by omega), Option.bind_some]
            by_cases e4 : w.f1 ∈ seen
            · rw [decide_eq_true e4, if_pos rfl, hwr.out]
              have := ih (m + 1) seen list (by omega) hb hi hu hll (fun j hj hjm h2 hi' h3 => by
                by_cases e : j = m
                · subst e
                  rw [← hwe]
                  exact ⟨e3, e4⟩
                · exact hp j hj (by omega) h2 hi' h3) hpp k (by omega)
              rw [Int.natCast_add, Int.natCast_one] at this
              exact this
            · obtain ⟨seen', hs1, hs2, hs3⟩ := put_eq seen w.f1 e4 (by omega) k (by omega)
              rw [decide_eq_false e4, if_neg (by decide), hs1, Option.bind_some, if_pos (by omega), hwr.out]
              have hul : unseen n seen' < unseen n seen := by
                refine cnt_lt n (fun y _ hy hys => hy ((hs3 _).2 (.inl hys))) b (by omega) (by rw [← hb']; exact e4) ?_
                intro h; exact h ((hs3 _).2 (.inr hb'.symm))
              have hget : ∀ (j : Nat) (hj : j < list.length) (hj' : j < (list ++ [w.f1]).length), (list ++ [w.f1])[j] = list[j] := fun j hj hj' => List.getElem_append_left hj
              have := ih (m + 1) seen' (list ++ [w.f1]) (by omega)
                ⟨fun x => by rw [List.mem_append, hb.all, hs3, List.mem_singleton, or_assoc], fun x hx => by
                    rcases (hs3 x).1 hx with h | h
                    · exact hb.rng x h
                    · exact ⟨b, by omega, by omega, hpb⟩,
                  fun j hj hji w' hws h2 h3 => by
                    have hjl : j < list.length := by omega
                    rw [hget j hjl hj] at h3
                    have := hb.done j hjl hji w' hws h2 h3
                    exact ⟨this.1, (hs3 _).2 (.inl this.2)⟩, by simp; omega⟩
                (by simp; omega) (by omega) (by simp; omega)
                (fun j hj hjm h2 hi' h3 => by
                  rw [hget i hi hi'] at h3
                  by_cases e : j = m
                  · subst e
                    rw [← hwe]
                    exact ⟨e3, (hs3 _).2 (.inr rfl)⟩
                  · have := hp j hj (by omega) h2 hi h3
                    exact ⟨this.1, (hs3 _).2 (.inl this.2)⟩) (by simp; omega) k (by omega)
              rw [Int.natCast_add, Int.natCast_one] at this
              exact this
      · rw [if_neg e1, spec_l08Open.j2, if_pos rfl, hwr.out]
        exact skip (fun h => e1 h.2)
theorem unseen_le (n : Nat) (seen : List Int) : unseen n seen ≤ n := cnt_le _ _
theorem bfs_out (ws : List S43) (d0 : List Int) (n v : Nat) (hv : v < n) (hn : n ≤ 8) (hm : ws.length ≤ 16) (hw : ∀ w, w ∈ ws → WireOk n w) :
    ∀ (p i : Nat) (seen list : List Int), list.length - i + unseen n seen ≤ p → Bfs ws n v seen list i → (unseen n seen + seen.length ≤ n) → list.length = seen.length + 1 →
      ∀ k, 200 + 50 * p < k → spec_l08Open.l0 k v seen list i d0 ws = some (ringB ws v) := by
  intro p
  induction p with
  | zero =>
    intro i seen list hp hb hu hll k hk
    cases k with
    | zero => omega
    | succ k =>
      have hle := hb.le
      rw [spec_l08Open.l0, if_neg (by omega)]
      have e : i = list.length := by omega
      subst e
      rw [ringB_false (bfs_end hb)]
  | succ p ih =>
    intro i seen list hp hb hu hll k hk
    cases k with
    | zero => omega
    | succ k =>
      have hle := hb.le
      rw [spec_l08Open.l0]
      by_cases hi : i < list.length
      · rw [if_pos (by omega)]
        exact bfs_in ws d0 n v hv hn hm hw i (200 + 50 * p) p (by omega) (fun seen' list' hb' hu' hll' hpp k' hk' => by
          have := ih (i + 1) seen' list' (by omega) hb' hu' hll' k' (by omega)
          rw [Int.natCast_add, Int.natCast_one] at this
          exact this) ws.length 0 seen list (by omega) hb hi hu hll (fun j hj hjm => by omega) (by omega) k (by omega)
      · rw [if_neg (by omega)]
        have e : i = list.length := by omega
        subst e
        rw [ringB_false (bfs_end hb)]
theorem open_eq (ws : List S43) (d0 : List Int) (n v : Nat) (hv : v < n) (hn : n ≤ 8) (hm : ws.length ≤ 16) (hw : ∀ w, w ∈ ws → WireOk n w) (k : Nat) (hk : 1000 < k) : spec_l08Open.f k d0 ws v = some (ringB ws v) := by
  unfold spec_l08Open.f
  have hu := unseen_le n []
  exact bfs_out ws d0 n v hv hn hm hw (1 + n) 0 [] [(v : Int)] (by simp; omega) ⟨by simp, by simp, fun j hj hji => by omega, by simp⟩ (by simp; omega) rfl k (by omega)
end Go.Proofs.YtalkmhnlgfncmaaDoor.X
end
section
namespace Go.Proofs.YtalkmhnlgfncmaaDoor.X
open Go.RowKit Go.Proofs.YtalkmhnlgfncmaaDoorW.PrintWords Go.Proofs.YtalkmhnlgfncmaaDoorW.PrintLast Go.Proofs.YtalkmhnlgfncmaaDoorW.PrintMore Go.Proofs.YtalkmhnlgfncmaaDoor.FlowMath
set_option linter.unusedVariables false
set_option linter.unusedSimpArgs false
theorem idx_int [C_slices_IndexFunc_int64_int64] (l : List Int) (p : Int → Bool) (hp : ∀ x, x ∈ l → C_slices_IndexFunc_int64_int64.f x = some (p x)) (hl : l.length ≤ 1000) : ∀ (d i k : Nat), i + d = l.length → d < k →
    ∃ r, slices_IndexFunc_int64_int64.l0 k l (l.length : Int) (i : Int) = some r ∧ decide (r ≥ 0) = (l.drop i).any p
  | 0, i, k, hi, hk => by
    cases k with
    | zero => omega
    | succ k => exact ⟨-1, by rw [slices_IndexFunc_int64_int64.l0, if_neg (by omega)], by rw [List.drop_of_length_le (by omega)]; rfl⟩
  | d + 1, i, k, hi, hk => by
    cases k with
    | zero => omega
    | succ k =>
      have hlt : i < l.length := by omega
      rw [slices_IndexFunc_int64_int64.l0, if_pos (by omega), if_pos (by omega), if_pos (by omega), rd_at l i hlt, hp _ (List.getElem_mem hlt), Option.bind_some, List.drop_eq_getElem_cons hlt, List.any_cons]
      cases hb : p l[i] with
      | true => exact ⟨i, by rw [if_pos rfl], by simp⟩
      | false =>
        obtain ⟨r, h1, h2⟩ := idx_int l p hp hl d (i + 1) k (by omega) (by omega)
        refine ⟨r, ?_, by rw [h2]; simp⟩
        rw [if_neg (by decide), w64 (by omega) (by omega)]
        rw [Int.natCast_add, Int.natCast_one] at h1
        exact h1
theorem idx_wire [C_impl_Wire_80] (l : List S43) (p : S43 → Bool) (hp : ∀ w, w ∈ l → C_impl_Wire_80.f w.f0 w.f1 w.f2 = some (p w)) (hl : l.length ≤ 1000) : ∀ (d i k : Nat), i + d = l.length → d < k →
    ∃ r, impl_Wire_80.l0 k l (l.length : Int) (i : Int) = some r ∧ decide (r ≥ 0) = (l.drop i).any p
  | 0, i, k, hi, hk => by
    cases k with
    | zero => omega
    | succ k => exact ⟨-1, by rw [impl_Wire_80.l0, if_neg (by omega)], by rw [List.drop_of_length_le (by omega)]; rfl⟩
  | d + 1, i, k, hi, hk => by
    cases k with
    | zero => omega
    | succ k =>
      have hlt : i < l.length := by omega
      rw [impl_Wire_80.l0, if_pos (by omega), if_pos (by omega), if_pos (by omega), rdT_at l i hlt, hp _ (List.getElem_mem hlt), Option.bind_some, List.drop_eq_getElem_cons hlt, List.any_cons]
      cases hb : p l[i] with
      | true => exact ⟨i, by rw [if_pos rfl], by simp⟩
      | false =>
        obtain ⟨r, h1, h2⟩ := idx_wire l p hp hl d (i + 1) k (by omega) (by omega)
        refine ⟨r, ?_, by rw [h2]; simp⟩
        rw [if_neg (by decide), w64 (by omega) (by omega)]
        rw [Int.natCast_add, Int.natCast_one] at h1
        exact h1
def inB (a b c : Int) : Bool := decide (b ≤ a) && decide (a ≤ c)
theorem l00In_w (a b c : Int) : spec_l00In.f a b c = some (inB a b c) := by
  unfold spec_l00In.f inB; by_cases h : a ≥ b <;> simp [h] <;> omega
def formB (l0 : List Int) (ws : List S43) : Bool := decide (1 ≤ l0.length ∧ l0.length ≤ 8) && (decide (ws.length ≤ 16) && (!(l0.any fun d => !inB d 0 100) && !(ws.any fun w => badWire l0.length w.f0 w.f1 w.f2)))
theorem sform_wires (ws : List S43) (l0 : List Int) (n : Nat) (hn : 1 ≤ n) (hn8 : n ≤ 8) (hm : ws.length ≤ 16) : ∀ (d i k : Nat), i + d = ws.length → d < k → spec_l08Form.l1 k n i l0 ws = some (!((ws.drop i).any fun w => badWire n w.f0 w.f1 w.f2))
  | 0, i, k, hi, hk => by
    cases k with
    | zero => omega
    | succ k => rw [spec_l08Form.l1, if_neg (by omega), List.drop_of_length_le (by omega)]; rfl
  | d + 1, i, k, hi, hk => by
    cases k with
    | zero => omega
    | succ k =>
      have ih := sform_wires ws l0 n hn hn8 hm d (i + 1) k (by omega) (by omega)
      have hlt : i < ws.length := by omega
      rw [Int.natCast_add, Int.natCast_one] at ih
      rw [spec_l08Form.l1, if_pos (by omega), if_pos (by omega), rdT_at ws i hlt, w64 (n := (n : Int) - 1) (by omega) (by omega), w64 (n := (i : Int) + 1) (by omega) (by omega), l00In_w, l00In_w, l00In_w, ih, List.drop_eq_getElem_cons hlt, List.any_cons]
      simp only [Option.bind_some, badWire]
      cases h1 : inB ws[i].f0 0 ((n : Int) - 1) <;> cases h2 : inB ws[i].f1 0 ((n : Int) - 1) <;> cases h3 : inB ws[i].f2 0 20 <;> (unfold inB at h1 h2 h3; simp [h1, h2, h3])
theorem sform_delays (ws : List S43) (l0 : List Int) (hn : 1 ≤ l0.length) (hn8 : l0.length ≤ 8) (hm : ws.length ≤ 16) : ∀ (d i k : Nat), i + d = l0.length → d + 20 < k → spec_l08Form.l0 k (l0.length : Int) i l0 ws = some (!((l0.drop i).any fun d => !inB d 0 100) && !(ws.any fun w => badWire l0.length w.f0 w.f1 w.f2))
  | 0, i, k, hi, hk => by
    cases k with
    | zero => omega
    | succ k =>
      rw [spec_l08Form.l0, if_neg (by omega), List.drop_of_length_le (by omega)]
      have := sform_wires ws l0 l0.length hn hn8 hm ws.length 0 k (by omega) (by omega)
      rw [List.drop_zero] at this
      rw [show ((0 : Nat) : Int) = 0 from rfl] at this
      rw [this]; rfl
  | d + 1, i, k, hi, hk => by
    cases k with
    | zero => omega
    | succ k =>
      have ih := sform_delays ws l0 hn hn8 hm d (i + 1) k (by omega) (by omega)
      have hlt : i < l0.length := by omega
      rw [Int.natCast_add, Int.natCast_one] at ih
      rw [spec_l08Form.l0, if_pos (by omega), if_pos (by omega), rd_at l0 i hlt, w64 (n := (i : Int) + 1) (by omega) (by omega), l00In_w, Option.bind_some, ih, List.drop_eq_getElem_cons hlt, List.any_cons]
      cases h1 : inB l0[i] 0 100 <;> simp
theorem sform_eq (k : Nat) (l0 : List Int) (ws : List S43) (h0 : l0.length ≤ 9223372036854775807) (h1 : ws.length ≤ 9223372036854775807) (hk : 100 < k) : spec_l08Form.f k l0 ws = some (formB l0 ws) := by
  unfold spec_l08Form.f formB
  rw [l00In_w, Option.bind_some]
  cases k with
  | zero => omega
  | succ k =>
    by_cases hn : 1 ≤ l0.length ∧ l0.length ≤ 8
    · have e1 : inB (l0.length : Int) 1 8 = true := by unfold inB; simp; omega
      rw [e1, if_pos rfl, decide_eq_true hn]
      by_cases hm : ws.length ≤ 16
      · have e2 : decide ((ws.length : Int) > 16) = false := decide_eq_false (by omega)
        rw [e2, spec_l08Form.j0, if_neg (by decide), decide_eq_true hm]
        have := sform_delays ws l0 hn.1 hn.2 hm l0.length 0 k (by omega) (by omega)
        rw [List.drop_zero] at this
        rw [show ((0 : Nat) : Int) = 0 from rfl] at this
        rw [this]; rfl
      · have e2 : decide ((ws.length : Int) > 16) = true := decide_eq_true (by omega)
        rw [e2, spec_l08Form.j0, if_pos rfl, decide_eq_false hm]; rfl
    · have e1 : inB (l0.length : Int) 1 8 = false := by unfold inB; simp; omega
      rw [e1, if_neg (by decide), spec_l08Form.j0, if_pos rfl, decide_eq_false hn]; rfl
theorem isDelay_w (d : Int) : impl_isDelay.f d = some (inB d 0 100) := by unfold impl_isDelay.f inB; rw [within_w]; rfl
theorem iform_eq (k : Nat) (l0 : List Int) (ws : List S43) (hk : 100 < k) : impl_isFlow.f k l0 ws = some (formB l0 ws) := by
  unfold impl_isFlow.f formB
  by_cases hn : 1 ≤ l0.length ∧ l0.length ≤ 8
  · have hn' : 1 ≤ (l0.length : Int) ∧ (l0.length : Int) ≤ 8 := by omega
    rw [if_pos hn', decide_eq_true hn]
    by_cases hm : ws.length ≤ 16
    · rw [if_neg (by omega), decide_eq_true hm]
      obtain ⟨r, h1, h2⟩ := @idx_int isDelC l0 (fun d => !inB d 0 100) (fun x _ => by show (impl_isDelay.f x).bind _ = _; rw [isDelay_w]; rfl) (by omega) l0.length 0 k (by omega) (by omega)
      obtain ⟨q, h3, h4⟩ := @idx_wire (wireC l0.length) ws (fun w => badWire l0.length w.f0 w.f1 w.f2) (fun w _ => rfl) (by omega) ws.length 0 k (by omega) (by omega)
      rw [List.drop_zero] at h2 h4
      unfold slices_IndexFunc_int64_int64.f impl_Wire_80.f
      rw [show ((0 : Nat) : Int) = 0 from rfl] at h1 h3
      rw [h1, h3, Option.bind_some, Option.bind_some, ← h2, ← h4]
      by_cases hr : r ≥ 0
      · simp [hr]
      · simp [hr]
    · rw [if_pos (by omega), decide_eq_false hm]; rfl
  · rw [if_neg (by omega), decide_eq_false hn]; rfl
theorem form_ok {l0 : List Int} {ws : List S43} (h : formB l0 ws = true) : (1 ≤ l0.length ∧ l0.length ≤ 8) ∧ ws.length ≤ 16 ∧ (∀ d, d ∈ l0 → 0 ≤ d ∧ d ≤ 100) ∧ ∀ w, w ∈ ws → WireOk l0.length w := by
  unfold formB at h
  simp only [Bool.and_eq_true, decide_eq_true_eq, Bool.not_eq_true', List.any_eq_false, inB, badWire] at h
  obtain ⟨h1, h2, h3, h4⟩ := h
  refine ⟨h1, h2, fun d hd => ?_, fun w hw => ?_⟩
  · have := h3 d hd; simp at this; exact this
  · have := h4 w hw
    simp at this
    unfold WireOk
    omega
end Go.Proofs.YtalkmhnlgfncmaaDoor.X
end
section
namespace Go.Proofs.YtalkmhnlgfncmaaDoor.X
open Go.RowKit Go.Proofs.YtalkmhnlgfncmaaDoorW.PrintWords Go.Proofs.YtalkmhnlgfncmaaDoorW.PrintLast Go.Proofs.YtalkmhnlgfncmaaDoorW.PrintMore Go.Proofs.YtalkmhnlgfncmaaDoor.FlowMath
set_option linter.unusedVariables false
set_option linter.unusedSimpArgs false
def led (L : List Bool) (i : Nat) (w : S43) : Bool := (w.f2 == 0) && ((w.f1 == (i : Int)) && L.getD w.f0.toNat false)
def kStep (ws : List S43) (i : Nat) (L : List Bool) : List Bool := L.set i (L.getD i false && ws.any (led L i))
def kRound (ws : List S43) : Nat → List Bool → List Bool
  | 0, L => L
  | i + 1, L => kStep ws i (kRound ws i L)
def kRounds (ws : List S43) (n : Nat) : Nat → List Bool
  | 0 => List.replicate n true
  | m + 1 => kRound ws n (kRounds ws n m)
theorem kRound_len (ws : List S43) : ∀ (i : Nat) (L : List Bool), (kRound ws i L).length = L.length
  | 0, _ => rfl
  | i + 1, L => by rw [kRound, kStep, List.length_set, kRound_len ws i L]
theorem kRounds_len (ws : List S43) (n : Nat) : ∀ m, (kRounds ws n m).length = n
  | 0 => by simp [kRounds]
  | m + 1 => by rw [kRounds, kRound_len, kRounds_len ws n m]
theorem openStep_eq (k : Nat) (ws : List S43) (n i : Nat) (L : List Bool) (hL : L.length = n) (hm : ws.length ≤ 16) (hw : ∀ w, w ∈ ws → WireOk n w) (hk : 100 < k) : openStep k ws i L = some (kStep ws i L) := by
  unfold openStep kStep
  obtain ⟨r, h1, h2⟩ := @idx_wire (leadC L i) ws (led L i) (fun w hw' => by
    show leads L i w.f0 w.f1 w.f2 = some (led L i w)
    obtain ⟨o1, o2, o3, o4, o5, o6⟩ := hw w hw'
    unfold leads led
    cases h1 : (w.f2 == 0)
    · simp
    · cases h2 : (w.f1 == (i : Int))
      · simp
      · rw [if_pos rfl, if_pos rfl, if_pos (by omega)]; rfl) (by omega) ws.length 0 k (by omega) (by omega)
  rw [List.drop_zero] at h2
  rw [show ((0 : Nat) : Int) = 0 from rfl] at h1
  unfold impl_Wire_80.f
  rw [h1, Option.bind_some, h2]
theorem openRound_eq (k : Nat) (ws : List S43) (n : Nat) (hm : ws.length ≤ 16) (hw : ∀ w, w ∈ ws → WireOk n w) (hk : 100 < k) : ∀ (i : Nat) (L : List Bool), L.length = n → openRound k ws i L = some (kRound ws i L)
  | 0, _, _ => rfl
  | i + 1, L, hL => by
    rw [openRound, openRound_eq k ws n hm hw hk i L hL, Option.bind_some, openStep_eq k ws n i _ (by rw [kRound_len]; exact hL) hm hw hk]; rfl
theorem openRounds_eq (k : Nat) (ws : List S43) (n : Nat) (hm : ws.length ≤ 16) (hw : ∀ w, w ∈ ws → WireOk n w) (hk : 100 < k) : ∀ (m : Nat), openRounds k ws n m = some (kRounds ws n m)
  | 0 => rfl
  | m + 1 => by rw [openRounds, openRounds_eq k ws n hm hw hk m, Option.bind_some, openRound_eq k ws n hm hw hk n _ (kRounds_len ws n m)]; rfl
def Left (L : List Bool) (v : Nat) : Prop := L.getD v false = true
theorem getD_set (L : List Bool) (i v : Nat) (b : Bool) (hi : i < L.length) : (L.set i b).getD v false = if v = i then b else L.getD v false := by
  rw [List.getD_eq_getElem?_getD, List.getD_eq_getElem?_getD, List.getElem?_set]
  by_cases e : i = v
  · subst e; simp [hi]
  · rw [if_neg e, if_neg (fun h => e h.symm)]
theorem led_edge {ws : List S43} {n : Nat} (hw : ∀ w, w ∈ ws → WireOk n w) {L : List Bool} {i : Nat} : ws.any (led L i) = true ↔ ∃ u, Edge ws u i ∧ Left L u := by
  rw [List.any_eq_true]
  constructor
  · rintro ⟨w, h1, h2⟩
    unfold led at h2
    simp only [Bool.and_eq_true, beq_iff_eq] at h2
    obtain ⟨o1, _⟩ := hw w h1
    exact ⟨w.f0.toNat, ⟨w, h1, h2.1, by omega, h2.2.1⟩, h2.2.2⟩
  · rintro ⟨u, ⟨w, h1, h2, h3, h4⟩, h5⟩
    refine ⟨w, h1, ?_⟩
    unfold led
    simp only [Bool.and_eq_true, beq_iff_eq]
    refine ⟨h2, h4, ?_⟩
    rw [h3, Int.toNat_natCast]; exact h5
theorem round_sub (ws : List S43) (L : List Bool) : ∀ (i v : Nat), i ≤ L.length → Left (kRound ws i L) v → Left L v
  | 0, _, _, h => h
  | i + 1, v, hi, h => by
    have hi' : i < (kRound ws i L).length := by rw [kRound_len]; omega
    unfold Left at h
    rw [kRound, kStep, getD_set _ _ _ _ hi'] at h
    by_cases e : v = i
    · rw [if_pos e, Bool.and_eq_true] at h
      subst e
      exact round_sub ws L v v (by omega) h.1
    · rw [if_neg e] at h
      exact round_sub ws L i v (by omega) h
theorem round_led (ws : List S43) (n : Nat) (hw : ∀ w, w ∈ ws → WireOk n w) (L : List Bool) : ∀ (i v : Nat), i ≤ L.length → v < i → Left (kRound ws i L) v → ∃ u, Left L u ∧ Edge ws u v
  | 0, _, _, h, _ => absurd h (Nat.not_lt_zero _)
  | i + 1, v, hi, hv, h => by
    have hi' : i < (kRound ws i L).length := by rw [kRound_len]; omega
    unfold Left at h
    rw [kRound, kStep, getD_set _ _ _ _ hi'] at h
    by_cases e : v = i
    · rw [if_pos e, Bool.and_eq_true] at h
      obtain ⟨u, h1, h2⟩ := (led_edge hw).1 h.2
      subst e
      exact ⟨u, round_sub ws L v u (by omega) h2, h1⟩
    · rw [if_neg e] at h
      exact round_led ws n hw L i v (by omega) (by omega) h
theorem round_keep (ws : List S43) (n : Nat) (hw : ∀ w, w ∈ ws → WireOk n w) (L : List Bool) (C : Nat → Prop) (hC : ∀ v, C v → Left L v) (hp : ∀ v, C v → ∃ u, C u ∧ Edge ws u v) : ∀ (i v : Nat), i ≤ L.length → C v → Left (kRound ws i L) v
  | 0, v, _, h => hC v h
  | i + 1, v, hi, h => by
    have hi' : i < (kRound ws i L).length := by rw [kRound_len]; omega
    have ih := round_keep ws n hw L C hC hp i
    unfold Left
    rw [kRound, kStep, getD_set _ _ _ _ hi']
    by_cases e : v = i
    · rw [if_pos e, Bool.and_eq_true]
      subst e
      obtain ⟨u, h1, h2⟩ := hp v h
      exact ⟨ih v (by omega) h, (led_edge hw).2 ⟨u, h2, ih u (by omega) h1⟩⟩
    · rw [if_neg e]
      exact ih v (by omega) h
theorem left_lt {L : List Bool} {v : Nat} (h : Left L v) : v < L.length := by
  unfold Left at h
  rw [List.getD_eq_getElem?_getD] at h
  rcases Nat.lt_or_ge v L.length with h' | h'
  · exact h'
  · rw [List.getElem?_eq_none h'] at h; simp at h
theorem kahn_ws (ws : List S43) (n : Nat) (hw : ∀ w, w ∈ ws → WireOk n w) : (∃ v, Left (kRounds ws n n) v) ↔ ∃ v, Plus (Edge ws) v v := by
  refine kahn (Edge ws) n (fun a b h => h.lt hw) (fun m v => Left (kRounds ws n m) v) (fun v hv => ?_) (fun m v h => ?_) (fun m v h => ?_) (fun m v h => ?_) (fun m C hC hp v hv => ?_)
  · show (List.replicate n true).getD v false = true
    rw [List.getD_eq_getElem?_getD, List.getElem?_replicate, if_pos hv]; rfl
  · have := left_lt h; rw [kRounds_len] at this; exact this
  · exact round_sub ws _ n v (by rw [kRounds_len]; exact Nat.le_refl _) h
  · have hv := left_lt h
    rw [kRounds_len] at hv
    exact round_led ws n hw _ n v (by rw [kRounds_len]; exact Nat.le_refl _) hv h
  · exact round_keep ws n hw _ C hC hp n v (by rw [kRounds_len]; exact Nat.le_refl _) hv
theorem has_true (l : List Bool) (hl : l.length ≤ 1000) : ∀ (d i k : Nat), i + d = l.length → d < k → ∃ r, slices_Index_bool_bool.l0 k l true (l.length : Int) (i : Int) = some r ∧ decide (r ≥ 0) = (l.drop i).any id
  | 0, i, k, hi, hk => by
    cases k with
    | zero => omega
    | succ k => exact ⟨-1, by rw [slices_Index_bool_bool.l0, if_neg (by omega)], by rw [List.drop_of_length_le (by omega)]; rfl⟩
  | d + 1, i, k, hi, hk => by
    cases k with
    | zero => omega
    | succ k =>
      have hlt : i < l.length := by omega
      obtain ⟨r, h1, h2⟩ := has_true l hl d (i + 1) k (by omega) (by omega)
      rw [Int.natCast_add, Int.natCast_one] at h1
      have hrd : rdOf false l (i : Int) = l[i] := by unfold rdOf; simp [hlt]
      rw [slices_Index_bool_bool.l0, if_pos (by omega), if_pos (by omega), if_pos (by omega), hrd, List.drop_eq_getElem_cons hlt, List.any_cons]
      cases hb : l[i] with
      | true => exact ⟨i, by rw [if_pos (by rfl)], by simp⟩
      | false =>
        refine ⟨r, ?_, by rw [h2]; simp⟩
        rw [if_neg (by decide), w64 (by omega) (by omega)]
        exact h1
theorem isOpen_eq (k : Nat) (l0 : List Int) (ws : List S43) (hn : l0.length ≤ 8) (hm : ws.length ≤ 16) (hw : ∀ w, w ∈ ws → WireOk l0.length w) (hk : 100 < k) : impl_Flow_isOpen.f k l0 ws = some (open Classical in !decide (∃ v, Plus (Edge ws) v v)) := by
  unfold impl_Flow_isOpen.f
  rw [if_pos (by omega), openRounds_eq k ws l0.length hm hw hk, Option.bind_some]
  obtain ⟨r, h1, h2⟩ := has_true (kRounds ws l0.length l0.length) (by rw [kRounds_len]; omega) (kRounds ws l0.length l0.length).length 0 k (by omega) (by rw [kRounds_len]; omega)
  unfold slices_Contains_bool_bool.f slices_Index_bool_bool.f
  rw [show ((0 : Nat) : Int) = 0 from rfl] at h1
  rw [h1, Option.bind_some, Option.bind_some, h2, List.drop_zero]
  congr 2
  have key := kahn_ws ws l0.length hw
  have : (kRounds ws l0.length l0.length).any id = true ↔ ∃ v, Left (kRounds ws l0.length l0.length) v := by
    rw [List.any_eq_true]
    constructor
    · rintro ⟨b, hb, hb2⟩
      obtain ⟨v, hv, rfl⟩ := List.mem_iff_getElem.mp hb
      refine ⟨v, ?_⟩
      unfold Left
      rw [List.getD_eq_getElem?_getD, List.getElem?_eq_getElem hv]; exact hb2
    · rintro ⟨v, hv⟩
      have hl := left_lt hv
      unfold Left at hv
      rw [List.getD_eq_getElem?_getD, List.getElem?_eq_getElem hl] at hv
      exact ⟨_, List.getElem_mem hl, hv⟩
  rw [Bool.eq_iff_iff, this, key, @decide_eq_true_iff _ (Classical.propDecidable _)]
theorem is_loop (k0 : Nat) (l0 : List Int) (ws : List S43) (hn : l0.length ≤ 8) (hm : ws.length ≤ 16) (hw : ∀ w, w ∈ ws → WireOk l0.length w) : ∀ (d i k : Nat), i + d = l0.length → d + 1001 < k →
    ((∃ v, i ≤ v ∧ v < l0.length ∧ ringB ws v = true) → spec_l08Is.l0 k i l0 ws = some false) ∧ ((∀ v, i ≤ v → v < l0.length → ringB ws v = false) → spec_l08Is.l0 k i l0 ws = some true)
  | 0, i, k, hi, hk => by
    cases k with
    | zero => omega
    | succ k =>
      rw [spec_l08Is.l0, if_neg (by omega)]
      exact ⟨fun ⟨v, h1, h2, _⟩ => by omega, fun _ => rfl⟩
  | d + 1, i, k, hi, hk => by
    cases k with
    | zero => omega
    | succ k =>
      obtain ⟨ih1, ih2⟩ := is_loop k0 l0 ws hn hm hw d (i + 1) k (by omega) (by omega)
      rw [Int.natCast_add, Int.natCast_one] at ih1 ih2
      rw [spec_l08Is.l0, if_pos (by omega), open_eq ws l0 l0.length i (by omega) hn hm hw k (by omega), Option.bind_some, w64 (by omega) (by omega)]
      cases hb : ringB ws i with
      | true => exact ⟨fun _ => by rw [if_pos rfl], fun h => by have := h i (by omega) (by omega); rw [hb] at this; simp at this⟩
      | false =>
        refine ⟨fun ⟨v, h1, h2, h3⟩ => ?_, fun h => ?_⟩
        · rw [if_neg (by decide)]
          refine ih1 ⟨v, ?_, h2, h3⟩
          by_cases e : v = i
          · subst e; rw [hb] at h3; simp at h3
          · omega
        · rw [if_neg (by decide)]
          exact ih2 fun v h1 h2 => h v (by omega) h2
noncomputable def validB (l0 : List Int) (ws : List S43) : Bool := formB l0 ws && (open Classical in !decide (∃ v, Plus (Edge ws) v v))
theorem spec_is (k : Nat) (l0 : List Int) (ws : List S43) (h0 : l0.length ≤ 9223372036854775807) (h1 : ws.length ≤ 9223372036854775807) (hk : 2000 < k) : spec_l08Is.f k l0 ws = some (validB l0 ws) := by
  unfold spec_l08Is.f validB
  rw [sform_eq k l0 ws h0 h1 (by omega), Option.bind_some]
  cases hf : formB l0 ws with
  | false => rfl
  | true =>
    obtain ⟨hn, hm, _, hw⟩ := form_ok hf
    rw [if_pos rfl, Bool.true_and]
    obtain ⟨i1, i2⟩ := is_loop k l0 ws hn.2 hm hw l0.length 0 k (by omega) (by omega)
    rw [show ((0 : Nat) : Int) = 0 from rfl] at i1 i2
    by_cases hr : ∃ v, Plus (Edge ws) v v
    · obtain ⟨v, hv⟩ := hr
      obtain ⟨u, _, hu⟩ := ring_back hv
      rw [i1 ⟨v, Nat.zero_le _, (hu.lt hw).2, ringB_true hv⟩, @decide_eq_true _ (Classical.propDecidable _) ⟨v, hv⟩]; rfl
    · rw [i2 fun v _ _ => ringB_false fun h => hr ⟨v, h⟩, @decide_eq_false _ (Classical.propDecidable _) hr]; rfl
theorem impl_valid (k : Nat) (l0 : List Int) (ws : List S43) (hk : 2000 < k) : impl_ValidFlow.f k l0 ws = some (validB l0 ws) := by
  unfold impl_ValidFlow.f validB
  rw [iform_eq k l0 ws (by omega), Option.bind_some]
  cases hf : formB l0 ws with
  | false => rfl
  | true =>
    obtain ⟨hn, hm, _, hw⟩ := form_ok hf
    rw [if_pos rfl, isOpen_eq k l0 ws hn.2 hm hw (by omega)]; rfl
end Go.Proofs.YtalkmhnlgfncmaaDoor.X
end
section
-- Written by a program of this session out of the kit's print of the loaded functions: a plain function of a Go function, and its contract.
namespace Go.Proofs.YtalkmhnlgfncmaaDoor.X
open Go.RowKit Go.Proofs.YtalkmhnlgfncmaaDoorW.PrintWords Go.Proofs.YtalkmhnlgfncmaaDoorW.PrintLast Go.Proofs.YtalkmhnlgfncmaaDoorW.PrintMore
attribute [local go_sem] max2_int min2_int max_two min_two max_three min_three max_four min_four   -- for this text's walks alone
set_option linter.unusedVariables false
set_option linter.unusedSimpArgs false
end Go.Proofs.YtalkmhnlgfncmaaDoor.X
end
section
-- Written by a program of this session out of the kit's print of the loaded functions: a plain function of a Go function, and its contract.
namespace Go.Proofs.YtalkmhnlgfncmaaDoor.X
open Go.RowKit Go.Proofs.YtalkmhnlgfncmaaDoorW.PrintWords Go.Proofs.YtalkmhnlgfncmaaDoorW.PrintLast Go.Proofs.YtalkmhnlgfncmaaDoorW.PrintMore
attribute [local go_sem] max2_int min2_int max_two min_two max_three min_three max_four min_four   -- for this text's walks alone
set_option linter.unusedVariables false
set_option linter.unusedSimpArgs false
end Go.Proofs.YtalkmhnlgfncmaaDoor.X
end
section
-- Written by a program of this session out of the kit's print of the loaded functions: a plain function of a Go function, and its contract.
namespace Go.Proofs.YtalkmhnlgfncmaaDoor.X
open Go.RowKit Go.Proofs.YtalkmhnlgfncmaaDoorW.PrintWords Go.Proofs.YtalkmhnlgfncmaaDoorW.PrintLast Go.Proofs.YtalkmhnlgfncmaaDoorW.PrintMore
attribute [local go_sem] max2_int min2_int max_two min_two max_three min_three max_four min_four   -- for this text's walks alone
set_option linter.unusedVariables false
set_option linter.unusedSimpArgs false
end Go.Proofs.YtalkmhnlgfncmaaDoor.X
end
section
-- Written by a program of this session out of the kit's print of the loaded functions: a plain function of a Go function, and its contract.
namespace Go.Proofs.YtalkmhnlgfncmaaDoor.X
open Go.RowKit Go.Proofs.YtalkmhnlgfncmaaDoorW.PrintWords Go.Proofs.YtalkmhnlgfncmaaDoorW.PrintLast Go.Proofs.YtalkmhnlgfncmaaDoorW.PrintMore
attribute [local go_sem] max2_int min2_int max_two min_two max_three min_three max_four min_four   -- for this text's walks alone
set_option linter.unusedVariables false
set_option linter.unusedSimpArgs false
def laws_eqWire.f (a0_0 : Int) (a0_1 : Int) (a0_2 : Int) (a1_0 : Int) (a1_1 : Int) (a1_2 : Int) : Option (Bool) := if a0_0 = a1_0 then (if a0_1 = a1_1 then (if a0_2 = a1_2 then (some true) else (some false)) else (some false)) else (some false)
set_option maxHeartbeats 8000000 in
set_option maxRecDepth 100000 in
theorem laws_eqWire.calls (a0_0 : Int) (a0_1 : Int) (a0_2 : Int) (a1_0 : Int) (a1_1 : Int) (a1_2 : Int) (r : Bool) (w : World) (h : laws_eqWire.f a0_0 a0_1 a0_2 a1_0 a1_1 a1_2 = some r) :
  Calls Tryd.prog 44 #[.agg #[.int .i64 a0_0, .int .i64 a0_1, .int .i64 a0_2], .agg #[.int .i64 a1_0, .int .i64 a1_1, .int .i64 a1_2]] w fun e w' => e = .returned (.bool r) ∧ Below w.heap.size w w' := by
 have hu43 := Tryd.underlying43
 have HB := Aside0.mk (Below.refl w.heap.size w)
 have H : (if a0_0 = a1_0 then (if a0_1 = a1_1 then (if a0_2 = a1_2 then (some true) else (some false)) else (some false)) else (some false)) = some r := h
 clear h
 by_cases c3 : a0_0 = a1_0
 ·rw [if_pos c3] at H
  have c3b0 : (a0_0 == a1_0) = true := beq_iff_eq.mpr c3
  have c3b1 : (a0_0 != a1_0) = false := bne_eq_false_iff_eq.mpr c3
  clear c3
  by_cases c4 : a0_1 = a1_1
  ·rw [if_pos c4] at H
   have c4b0 : (a0_1 == a1_1) = true := beq_iff_eq.mpr c4
   have c4b1 : (a0_1 != a1_1) = false := bne_eq_false_iff_eq.mpr c4
   clear c4
   by_cases c5 : a0_2 = a1_2
   ·rw [if_pos c5] at H
    have c5b0 : (a0_2 == a1_2) = true := beq_iff_eq.mpr c5
    have c5b1 : (a0_2 != a1_2) = false := bne_eq_false_iff_eq.mpr c5
    clear c5
    obtain rfl := Option.some.inj H
    go_enter Tryd.func44, Tryd.ntmps44
    go_wp2_with (first | ((with_reducible refine gate_dst (N := 2) rfl ?_); refine box_event ?hg (N := 2) ?hd (cs := #[.int .i64 a0_0, .int .i64 a0_1, .int .i64 a0_2]) (t := 43) ?hr ?_; (case hd => rfl); (case hg => rfl); (case hr => first | (go_simp; done) | (go_simp; rfl)); intro gb103 hg w6 hbox hb; have n0_ := Aside0.mk (below_step (by repeat (first | (with_reducible first | exact HB.out | apply below_alloc | apply pw_below_drewN | apply below_drew1) | exact HB.out)) hb); have n1_ := Aside0.mk (hbox); have n2_ := Aside0.mk ((by rw [hg]; exact (below_size (by repeat (first | (with_reducible first | exact HB.out | apply below_alloc | apply pw_below_drewN | apply below_drew1) | exact HB.out))) : w.heap.size ≤ gb103)); have n3_ := Aside0.mk ((by rw [hg]; exact (below_size (by repeat (first | (with_reducible first | exact HB.out | apply below_alloc | apply pw_below_drewN | apply below_drew1) | exact HB.out))) : w.heap.size ≤ gb103)); clear HB; have HB := n0_; have BK103 := n1_; have GW103 := n2_; have GE103 := n3_; clear n0_ n1_ n2_ n3_; clear hb hbox hg) | ((with_reducible refine gate_dst (N := 3) rfl ?_); refine box_event ?hg (N := 3) ?hd (cs := #[.int .i64 a1_0, .int .i64 a1_1, .int .i64 a1_2]) (t := 43) ?hr ?_; (case hd => rfl); (case hg => rfl); (case hr => first | (go_simp; done) | (go_simp; rfl)); intro gb104 hg w7 hbox hb; have n0_ := Aside0.mk (blk_below (g := gb103) (o := .cells #[.int .i64 a0_0, .int .i64 a0_1, .int .i64 a0_2] 43 (0, 0)) (by (with_reducible repeat (first | refine blk_drewN ?_ _ | refine blk_drew ?_ | refine blk_alloc ?_ _)); exact BK103.out) hb); have n1_ := Aside0.mk (below_step (by repeat (first | (with_reducible first | exact HB.out | apply below_alloc | apply pw_below_drewN | apply below_drew1 | refine below_set ?_ GE103.out) | exact HB.out)) hb); have n2_ := Aside0.mk (hbox); have n3_ := Aside0.mk ((by rw [hg]; exact (below_size (by repeat (first | (with_reducible first | exact HB.out | apply below_alloc | apply pw_below_drewN | apply below_drew1 | refine below_set ?_ GE103.out) | exact HB.out))) : w.heap.size ≤ gb104)); have n4_ := Aside0.mk ((by rw [hg]; exact (below_size (by repeat (first | (with_reducible first | exact HB.out | apply below_alloc | apply pw_below_drewN | apply below_drew1 | refine below_set ?_ GE103.out) | exact HB.out))) : w.heap.size ≤ gb104)); have n5_ := Aside0.mk ((by rw [hg]; exact Nat.ne_of_lt (blk_lt (g := gb103) (o := .cells #[.int .i64 a0_0, .int .i64 a0_1, .int .i64 a0_2] 43 (0, 0)) (by (with_reducible repeat (first | refine blk_drewN ?_ _ | refine blk_drew ?_ | refine blk_alloc ?_ _)); exact BK103.out)) : gb103 ≠ gb104)); have n6_ := Aside0.mk ((by rw [hg]; exact Nat.ne_of_gt (blk_lt (g := gb103) (o := .cells #[.int .i64 a0_0, .int .i64 a0_1, .int .i64 a0_2] 43 (0, 0)) (by (with_reducible repeat (first | refine blk_drewN ?_ _ | refine blk_drew ?_ | refine blk_alloc ?_ _)); exact BK103.out)) : gb104 ≠ gb103)); clear BK103; clear HB; have BK103 := n0_; have HB := n1_; have BK104 := n2_; have GW104 := n3_; have GE104 := n4_; have NB103_104 := n5_; have NB104_103 := n6_; clear n0_ n1_ n2_ n3_ n4_ n5_ n6_; clear hb hbox hg; have hnb8 := NB103_104.out; have hnc8 := NB104_103.out; have hcz9_0 : w7.cell? ⟨gb103, 0, none⟩ = some (.int .i64 a0_0) := (blk_cell BK103.out 0).trans rfl; have hcz9_1 : w7.cell? ⟨gb103, 1, none⟩ = some (.int .i64 a0_1) := (blk_cell BK103.out 1).trans rfl; have hcz9_2 : w7.cell? ⟨gb103, 2, none⟩ = some (.int .i64 a0_2) := (blk_cell BK103.out 2).trans rfl; have hfz9_0 := blk_frozen BK103.out 0; have hfz9_1 := blk_frozen BK103.out 1; have hfz9_2 := blk_frozen BK103.out 2; have hcz10_0 : w7.cell? ⟨gb104, 0, none⟩ = some (.int .i64 a1_0) := (blk_cell BK104.out 0).trans rfl; have hcz10_1 : w7.cell? ⟨gb104, 1, none⟩ = some (.int .i64 a1_1) := (blk_cell BK104.out 1).trans rfl; have hcz10_2 : w7.cell? ⟨gb104, 2, none⟩ = some (.int .i64 a1_2) := (blk_cell BK104.out 2).trans rfl; have hfz10_0 := blk_frozen BK104.out 0; have hfz10_1 := blk_frozen BK104.out 1; have hfz10_2 := blk_frozen BK104.out 2))
    go_ret
    exact ⟨by first | rfl | (simp [errW_none, errW_some] <;> rfl) | (simp [*, errW_none, errW_some] <;> rfl), by repeat (first | (with_reducible first | exact HB.out | apply below_alloc | apply pw_below_drewN | apply below_drew1 | refine below_set ?_ GE103.out | refine below_set ?_ GE104.out) | exact HB.out)⟩
   ·rw [if_neg c5] at H
    have c5b0 : (a0_2 == a1_2) = false := beq_eq_false_iff_ne.mpr c5
    have c5b1 : (a0_2 != a1_2) = true := bne_iff_ne.mpr c5
    obtain rfl := Option.some.inj H
    go_enter Tryd.func44, Tryd.ntmps44
    go_wp2_with (first | ((with_reducible refine gate_dst (N := 2) rfl ?_); refine box_event ?hg (N := 2) ?hd (cs := #[.int .i64 a0_0, .int .i64 a0_1, .int .i64 a0_2]) (t := 43) ?hr ?_; (case hd => rfl); (case hg => rfl); (case hr => first | (go_simp; done) | (go_simp; rfl)); intro gb103 hg w11 hbox hb; have n0_ := Aside0.mk (below_step (by repeat (first | (with_reducible first | exact HB.out | apply below_alloc | apply pw_below_drewN | apply below_drew1) | exact HB.out)) hb); have n1_ := Aside0.mk (hbox); have n2_ := Aside0.mk ((by rw [hg]; exact (below_size (by repeat (first | (with_reducible first | exact HB.out | apply below_alloc | apply pw_below_drewN | apply below_drew1) | exact HB.out))) : w.heap.size ≤ gb103)); have n3_ := Aside0.mk ((by rw [hg]; exact (below_size (by repeat (first | (with_reducible first | exact HB.out | apply below_alloc | apply pw_below_drewN | apply below_drew1) | exact HB.out))) : w.heap.size ≤ gb103)); clear HB; have HB := n0_; have BK103 := n1_; have GW103 := n2_; have GE103 := n3_; clear n0_ n1_ n2_ n3_; clear hb hbox hg) | ((with_reducible refine gate_dst (N := 3) rfl ?_); refine box_event ?hg (N := 3) ?hd (cs := #[.int .i64 a1_0, .int .i64 a1_1, .int .i64 a1_2]) (t := 43) ?hr ?_; (case hd => rfl); (case hg => rfl); (case hr => first | (go_simp; done) | (go_simp; rfl)); intro gb104 hg w12 hbox hb; have n0_ := Aside0.mk (blk_below (g := gb103) (o := .cells #[.int .i64 a0_0, .int .i64 a0_1, .int .i64 a0_2] 43 (0, 0)) (by (with_reducible repeat (first | refine blk_drewN ?_ _ | refine blk_drew ?_ | refine blk_alloc ?_ _)); exact BK103.out) hb); have n1_ := Aside0.mk (below_step (by repeat (first | (with_reducible first | exact HB.out | apply below_alloc | apply pw_below_drewN | apply below_drew1 | refine below_set ?_ GE103.out) | exact HB.out)) hb); have n2_ := Aside0.mk (hbox); have n3_ := Aside0.mk ((by rw [hg]; exact (below_size (by repeat (first | (with_reducible first | exact HB.out | apply below_alloc | apply pw_below_drewN | apply below_drew1 | refine below_set ?_ GE103.out) | exact HB.out))) : w.heap.size ≤ gb104)); have n4_ := Aside0.mk ((by rw [hg]; exact (below_size (by repeat (first | (with_reducible first | exact HB.out | apply below_alloc | apply pw_below_drewN | apply below_drew1 | refine below_set ?_ GE103.out) | exact HB.out))) : w.heap.size ≤ gb104)); have n5_ := Aside0.mk ((by rw [hg]; exact Nat.ne_of_lt (blk_lt (g := gb103) (o := .cells #[.int .i64 a0_0, .int .i64 a0_1, .int .i64 a0_2] 43 (0, 0)) (by (with_reducible repeat (first | refine blk_drewN ?_ _ | refine blk_drew ?_ | refine blk_alloc ?_ _)); exact BK103.out)) : gb103 ≠ gb104)); have n6_ := Aside0.mk ((by rw [hg]; exact Nat.ne_of_gt (blk_lt (g := gb103) (o := .cells #[.int .i64 a0_0, .int .i64 a0_1, .int .i64 a0_2] 43 (0, 0)) (by (with_reducible repeat (first | refine blk_drewN ?_ _ | refine blk_drew ?_ | refine blk_alloc ?_ _)); exact BK103.out)) : gb104 ≠ gb103)); clear BK103; clear HB; have BK103 := n0_; have HB := n1_; have BK104 := n2_; have GW104 := n3_; have GE104 := n4_; have NB103_104 := n5_; have NB104_103 := n6_; clear n0_ n1_ n2_ n3_ n4_ n5_ n6_; clear hb hbox hg; have hnb13 := NB103_104.out; have hnc13 := NB104_103.out; have hcz14_0 : w12.cell? ⟨gb103, 0, none⟩ = some (.int .i64 a0_0) := (blk_cell BK103.out 0).trans rfl; have hcz14_1 : w12.cell? ⟨gb103, 1, none⟩ = some (.int .i64 a0_1) := (blk_cell BK103.out 1).trans rfl; have hcz14_2 : w12.cell? ⟨gb103, 2, none⟩ = some (.int .i64 a0_2) := (blk_cell BK103.out 2).trans rfl; have hfz14_0 := blk_frozen BK103.out 0; have hfz14_1 := blk_frozen BK103.out 1; have hfz14_2 := blk_frozen BK103.out 2; have hcz15_0 : w12.cell? ⟨gb104, 0, none⟩ = some (.int .i64 a1_0) := (blk_cell BK104.out 0).trans rfl; have hcz15_1 : w12.cell? ⟨gb104, 1, none⟩ = some (.int .i64 a1_1) := (blk_cell BK104.out 1).trans rfl; have hcz15_2 : w12.cell? ⟨gb104, 2, none⟩ = some (.int .i64 a1_2) := (blk_cell BK104.out 2).trans rfl; have hfz15_0 := blk_frozen BK104.out 0; have hfz15_1 := blk_frozen BK104.out 1; have hfz15_2 := blk_frozen BK104.out 2))
    go_ret
    exact ⟨by first | rfl | (simp [errW_none, errW_some] <;> rfl) | (simp [*, errW_none, errW_some] <;> rfl), by repeat (first | (with_reducible first | exact HB.out | apply below_alloc | apply pw_below_drewN | apply below_drew1 | refine below_set ?_ GE103.out | refine below_set ?_ GE104.out) | exact HB.out)⟩
  ·rw [if_neg c4] at H
   have c4b0 : (a0_1 == a1_1) = false := beq_eq_false_iff_ne.mpr c4
   have c4b1 : (a0_1 != a1_1) = true := bne_iff_ne.mpr c4
   obtain rfl := Option.some.inj H
   go_enter Tryd.func44, Tryd.ntmps44
   go_wp2_with (first | ((with_reducible refine gate_dst (N := 2) rfl ?_); refine box_event ?hg (N := 2) ?hd (cs := #[.int .i64 a0_0, .int .i64 a0_1, .int .i64 a0_2]) (t := 43) ?hr ?_; (case hd => rfl); (case hg => rfl); (case hr => first | (go_simp; done) | (go_simp; rfl)); intro gb103 hg w16 hbox hb; have n0_ := Aside0.mk (below_step (by repeat (first | (with_reducible first | exact HB.out | apply below_alloc | apply pw_below_drewN | apply below_drew1) | exact HB.out)) hb); have n1_ := Aside0.mk (hbox); have n2_ := Aside0.mk ((by rw [hg]; exact (below_size (by repeat (first | (with_reducible first | exact HB.out | apply below_alloc | apply pw_below_drewN | apply below_drew1) | exact HB.out))) : w.heap.size ≤ gb103)); have n3_ := Aside0.mk ((by rw [hg]; exact (below_size (by repeat (first | (with_reducible first | exact HB.out | apply below_alloc | apply pw_below_drewN | apply below_drew1) | exact HB.out))) : w.heap.size ≤ gb103)); clear HB; have HB := n0_; have BK103 := n1_; have GW103 := n2_; have GE103 := n3_; clear n0_ n1_ n2_ n3_; clear hb hbox hg) | ((with_reducible refine gate_dst (N := 3) rfl ?_); refine box_event ?hg (N := 3) ?hd (cs := #[.int .i64 a1_0, .int .i64 a1_1, .int .i64 a1_2]) (t := 43) ?hr ?_; (case hd => rfl); (case hg => rfl); (case hr => first | (go_simp; done) | (go_simp; rfl)); intro gb104 hg w17 hbox hb; have n0_ := Aside0.mk (blk_below (g := gb103) (o := .cells #[.int .i64 a0_0, .int .i64 a0_1, .int .i64 a0_2] 43 (0, 0)) (by (with_reducible repeat (first | refine blk_drewN ?_ _ | refine blk_drew ?_ | refine blk_alloc ?_ _)); exact BK103.out) hb); have n1_ := Aside0.mk (below_step (by repeat (first | (with_reducible first | exact HB.out | apply below_alloc | apply pw_below_drewN | apply below_drew1 | refine below_set ?_ GE103.out) | exact HB.out)) hb); have n2_ := Aside0.mk (hbox); have n3_ := Aside0.mk ((by rw [hg]; exact (below_size (by repeat (first | (with_reducible first | exact HB.out | apply below_alloc | apply pw_below_drewN | apply below_drew1 | refine below_set ?_ GE103.out) | exact HB.out))) : w.heap.size ≤ gb104)); have n4_ := Aside0.mk ((by rw [hg]; exact (below_size (by repeat (first | (with_reducible first | exact HB.out | apply below_alloc | apply pw_below_drewN | apply below_drew1 | refine below_set ?_ GE103.out) | exact HB.out))) : w.heap.size ≤ gb104)); have n5_ := Aside0.mk ((by rw [hg]; exact Nat.ne_of_lt (blk_lt (g := gb103) (o := .cells #[.int .i64 a0_0, .int .i64 a0_1, .int .i64 a0_2] 43 (0, 0)) (by (with_reducible repeat (first | refine blk_drewN ?_ _ | refine blk_drew ?_ | refine blk_alloc ?_ _)); exact BK103.out)) : gb103 ≠ gb104)); have n6_ := Aside0.mk ((by rw [hg]; exact Nat.ne_of_gt (blk_lt (g := gb103) (o := .cells #[.int .i64 a0_0, .int .i64 a0_1, .int .i64 a0_2] 43 (0, 0)) (by (with_reducible repeat (first | refine blk_drewN ?_ _ | refine blk_drew ?_ | refine blk_alloc ?_ _)); exact BK103.out)) : gb104 ≠ gb103)); clear BK103; clear HB; have BK103 := n0_; have HB := n1_; have BK104 := n2_; have GW104 := n3_; have GE104 := n4_; have NB103_104 := n5_; have NB104_103 := n6_; clear n0_ n1_ n2_ n3_ n4_ n5_ n6_; clear hb hbox hg; have hnb18 := NB103_104.out; have hnc18 := NB104_103.out; have hcz19_0 : w17.cell? ⟨gb103, 0, none⟩ = some (.int .i64 a0_0) := (blk_cell BK103.out 0).trans rfl; have hcz19_1 : w17.cell? ⟨gb103, 1, none⟩ = some (.int .i64 a0_1) := (blk_cell BK103.out 1).trans rfl; have hcz19_2 : w17.cell? ⟨gb103, 2, none⟩ = some (.int .i64 a0_2) := (blk_cell BK103.out 2).trans rfl; have hfz19_0 := blk_frozen BK103.out 0; have hfz19_1 := blk_frozen BK103.out 1; have hfz19_2 := blk_frozen BK103.out 2; have hcz20_0 : w17.cell? ⟨gb104, 0, none⟩ = some (.int .i64 a1_0) := (blk_cell BK104.out 0).trans rfl; have hcz20_1 : w17.cell? ⟨gb104, 1, none⟩ = some (.int .i64 a1_1) := (blk_cell BK104.out 1).trans rfl; have hcz20_2 : w17.cell? ⟨gb104, 2, none⟩ = some (.int .i64 a1_2) := (blk_cell BK104.out 2).trans rfl; have hfz20_0 := blk_frozen BK104.out 0; have hfz20_1 := blk_frozen BK104.out 1; have hfz20_2 := blk_frozen BK104.out 2))
   go_ret
   exact ⟨by first | rfl | (simp [errW_none, errW_some] <;> rfl) | (simp [*, errW_none, errW_some] <;> rfl), by repeat (first | (with_reducible first | exact HB.out | apply below_alloc | apply pw_below_drewN | apply below_drew1 | refine below_set ?_ GE103.out | refine below_set ?_ GE104.out) | exact HB.out)⟩
 ·rw [if_neg c3] at H
  have c3b0 : (a0_0 == a1_0) = false := beq_eq_false_iff_ne.mpr c3
  have c3b1 : (a0_0 != a1_0) = true := bne_iff_ne.mpr c3
  obtain rfl := Option.some.inj H
  go_enter Tryd.func44, Tryd.ntmps44
  go_wp2_with (first | ((with_reducible refine gate_dst (N := 2) rfl ?_); refine box_event ?hg (N := 2) ?hd (cs := #[.int .i64 a0_0, .int .i64 a0_1, .int .i64 a0_2]) (t := 43) ?hr ?_; (case hd => rfl); (case hg => rfl); (case hr => first | (go_simp; done) | (go_simp; rfl)); intro gb103 hg w21 hbox hb; have n0_ := Aside0.mk (below_step (by repeat (first | (with_reducible first | exact HB.out | apply below_alloc | apply pw_below_drewN | apply below_drew1) | exact HB.out)) hb); have n1_ := Aside0.mk (hbox); have n2_ := Aside0.mk ((by rw [hg]; exact (below_size (by repeat (first | (with_reducible first | exact HB.out | apply below_alloc | apply pw_below_drewN | apply below_drew1) | exact HB.out))) : w.heap.size ≤ gb103)); have n3_ := Aside0.mk ((by rw [hg]; exact (below_size (by repeat (first | (with_reducible first | exact HB.out | apply below_alloc | apply pw_below_drewN | apply below_drew1) | exact HB.out))) : w.heap.size ≤ gb103)); clear HB; have HB := n0_; have BK103 := n1_; have GW103 := n2_; have GE103 := n3_; clear n0_ n1_ n2_ n3_; clear hb hbox hg) | ((with_reducible refine gate_dst (N := 3) rfl ?_); refine box_event ?hg (N := 3) ?hd (cs := #[.int .i64 a1_0, .int .i64 a1_1, .int .i64 a1_2]) (t := 43) ?hr ?_; (case hd => rfl); (case hg => rfl); (case hr => first | (go_simp; done) | (go_simp; rfl)); intro gb104 hg w22 hbox hb; have n0_ := Aside0.mk (blk_below (g := gb103) (o := .cells #[.int .i64 a0_0, .int .i64 a0_1, .int .i64 a0_2] 43 (0, 0)) (by (with_reducible repeat (first | refine blk_drewN ?_ _ | refine blk_drew ?_ | refine blk_alloc ?_ _)); exact BK103.out) hb); have n1_ := Aside0.mk (below_step (by repeat (first | (with_reducible first | exact HB.out | apply below_alloc | apply pw_below_drewN | apply below_drew1 | refine below_set ?_ GE103.out) | exact HB.out)) hb); have n2_ := Aside0.mk (hbox); have n3_ := Aside0.mk ((by rw [hg]; exact (below_size (by repeat (first | (with_reducible first | exact HB.out | apply below_alloc | apply pw_below_drewN | apply below_drew1 | refine below_set ?_ GE103.out) | exact HB.out))) : w.heap.size ≤ gb104)); have n4_ := Aside0.mk ((by rw [hg]; exact (below_size (by repeat (first | (with_reducible first | exact HB.out | apply below_alloc | apply pw_below_drewN | apply below_drew1 | refine below_set ?_ GE103.out) | exact HB.out))) : w.heap.size ≤ gb104)); have n5_ := Aside0.mk ((by rw [hg]; exact Nat.ne_of_lt (blk_lt (g := gb103) (o := .cells #[.int .i64 a0_0, .int .i64 a0_1, .int .i64 a0_2] 43 (0, 0)) (by (with_reducible repeat (first | refine blk_drewN ?_ _ | refine blk_drew ?_ | refine blk_alloc ?_ _)); exact BK103.out)) : gb103 ≠ gb104)); have n6_ := Aside0.mk ((by rw [hg]; exact Nat.ne_of_gt (blk_lt (g := gb103) (o := .cells #[.int .i64 a0_0, .int .i64 a0_1, .int .i64 a0_2] 43 (0, 0)) (by (with_reducible repeat (first | refine blk_drewN ?_ _ | refine blk_drew ?_ | refine blk_alloc ?_ _)); exact BK103.out)) : gb104 ≠ gb103)); clear BK103; clear HB; have BK103 := n0_; have HB := n1_; have BK104 := n2_; have GW104 := n3_; have GE104 := n4_; have NB103_104 := n5_; have NB104_103 := n6_; clear n0_ n1_ n2_ n3_ n4_ n5_ n6_; clear hb hbox hg; have hnb23 := NB103_104.out; have hnc23 := NB104_103.out; have hcz24_0 : w22.cell? ⟨gb103, 0, none⟩ = some (.int .i64 a0_0) := (blk_cell BK103.out 0).trans rfl; have hcz24_1 : w22.cell? ⟨gb103, 1, none⟩ = some (.int .i64 a0_1) := (blk_cell BK103.out 1).trans rfl; have hcz24_2 : w22.cell? ⟨gb103, 2, none⟩ = some (.int .i64 a0_2) := (blk_cell BK103.out 2).trans rfl; have hfz24_0 := blk_frozen BK103.out 0; have hfz24_1 := blk_frozen BK103.out 1; have hfz24_2 := blk_frozen BK103.out 2; have hcz25_0 : w22.cell? ⟨gb104, 0, none⟩ = some (.int .i64 a1_0) := (blk_cell BK104.out 0).trans rfl; have hcz25_1 : w22.cell? ⟨gb104, 1, none⟩ = some (.int .i64 a1_1) := (blk_cell BK104.out 1).trans rfl; have hcz25_2 : w22.cell? ⟨gb104, 2, none⟩ = some (.int .i64 a1_2) := (blk_cell BK104.out 2).trans rfl; have hfz25_0 := blk_frozen BK104.out 0; have hfz25_1 := blk_frozen BK104.out 1; have hfz25_2 := blk_frozen BK104.out 2))
  go_ret
  exact ⟨by first | rfl | (simp [errW_none, errW_some] <;> rfl) | (simp [*, errW_none, errW_some] <;> rfl), by repeat (first | (with_reducible first | exact HB.out | apply below_alloc | apply pw_below_drewN | apply below_drew1 | refine below_set ?_ GE103.out | refine below_set ?_ GE104.out) | exact HB.out)⟩
end Go.Proofs.YtalkmhnlgfncmaaDoor.X
end
section
-- Written by a program of this session out of the kit's print of the loaded functions: a plain function of a Go function, and its contract.
namespace Go.Proofs.YtalkmhnlgfncmaaDoor.X
open Go.RowKit Go.Proofs.YtalkmhnlgfncmaaDoorW.PrintWords Go.Proofs.YtalkmhnlgfncmaaDoorW.PrintLast Go.Proofs.YtalkmhnlgfncmaaDoorW.PrintMore
attribute [local go_sem] max2_int min2_int max_two min_two max_three min_three max_four min_four   -- for this text's walks alone
set_option linter.unusedVariables false
set_option linter.unusedSimpArgs false
def laws_eqWireS.l0 : Nat → List (S43) → List (S43) → Int → Option (Bool)
 | 0, _, _, _ => none
 | k + 1, x0, x1, x5 => if x5 < (x0.length : Int) then (if 0 ≤ x5 then (if x5 < (x1.length : Int) then ((laws_eqWire.f ((rd_T43 x0 x5).f0) ((rd_T43 x0 x5).f1) ((rd_T43 x0 x5).f2) ((rd_T43 x1 x5).f0) ((rd_T43 x1 x5).f1) ((rd_T43 x1 x5).f2)).bind fun t107 => (if t107 = true then (laws_eqWireS.l0 k x0 x1 (wrap64 (x5 + 1))) else (some false))) else (none)) else (none)) else (some true)
def laws_eqWireS.f (k : Nat) (l0 : List (S43)) (l1 : List (S43)) : Option (Bool) := if (l0.length : Int) = (l1.length : Int) then (laws_eqWireS.l0 k l0 l1 0) else (some false)
def laws_eqWireS.T6 : Bool × List (List Nat × List Nat) := (true, [([], []), ([], []), ([0, 1], [0, 1]), ([2], [2]), ([], []), ([], []), ([4, 5], [4, 5]), ([6], [6]), ([3, 7], [3, 7]), ([8], [8])])
def laws_eqWireS.B6 : List Nat := [0, 0, 3, 7, 0, 0, 48, 112, 255, 511]
theorem laws_eqWireS.tab6 : rtab .any (opsOf Tryd.f24 6) = laws_eqWireS.T6 := by kernel_rfl
theorem laws_eqWireS.bits6 : waitsOk laws_eqWireS.T6.2 laws_eqWireS.B6 = true := by kernel_rfl
set_option maxHeartbeats 8000000 in
set_option maxRecDepth 100000 in
theorem laws_eqWireS.calls (k : Nat) (A0 : Option Addr) (c0 : Nat) (l0 : List (S43)) (A1 : Option Addr) (c1 : Nat) (l1 : List (S43)) (r : Bool) (w : World) (hr0 : Kd.C k43 w A0 l0.length l0) (hc0 : l0.length ≤ c0) (hr1 : Kd.C k43 w A1 l1.length l1) (hc1 : l1.length ≤ c1) (h : laws_eqWireS.f k l0 l1 = some r) :
  Calls Tryd.prog 24 #[.slice A0 l0.length c0, .slice A1 l1.length c1] w fun e w' => e = .returned (.bool r) ∧ Below w.heap.size w w' := by
 have hu43 := Tryd.underlying43
 have HR0 := Aside0.mk hr0
 have HC0 := Aside0.mk hc0
 clear hr0 hc0
 have HR1 := Aside0.mk hr1
 have HC1 := Aside0.mk hc1
 clear hr1 hc1
 have HB := Aside0.mk (Below.refl w.heap.size w)
 have H : (if (l0.length : Int) = (l1.length : Int) then (laws_eqWireS.l0 k l0 l1 0) else (some false)) = some r := h
 clear h
 by_cases c3 : (l0.length : Int) = (l1.length : Int)
 ·rw [if_pos c3] at H
  have c3b0 : ((l0.length : Int) == (l1.length : Int)) = true := beq_iff_eq.mpr c3
  have c3b1 : ((l0.length : Int) != (l1.length : Int)) = false := bne_eq_false_iff_eq.mpr c3
  have c3b2 : (l0.length == l1.length) = true := by first | simpa using c3 | (simp at c3 ⊢; omega)
  clear c3
  have H' := Aside0.mk H
  clear H
  go_enter Tryd.func24, Tryd.ntmps24
  go_wp2
  go_loopg [5] k (fun kq v5 w' => ∃ (x5_1 : Int), v5 = .int .i64 x5_1 ∧ Aside0 (laws_eqWireS.l0 kq l0 l1 x5_1 = some r) ∧ Aside0 (kq ≤ k) ∧ Aside0 (Below w.heap.size w w'))
  case atStart => exact ⟨(0), (by first | rfl | (simp; done) | (simp [*]; done)), H', ⟨Nat.le_refl _⟩, ⟨by repeat (first | (with_reducible first | exact HB.out | apply below_alloc | apply pw_below_drewN | apply below_drew1) | exact HB.out)⟩⟩
  case round =>
   clear H'
   try clear c1
   try clear c2
   try clear p2
   try clear c3
   try clear c3b0
   try clear c3b1
   try clear c3b2
   obtain ⟨x5_1, rfl, HA, HK1, HB⟩ := hrel
   cases gk with
   | zero => exact absurd HA.out (by simp [laws_eqWireS.l0])
   | succ k1 =>
    have H := HA.out
    clear HA
    simp only [laws_eqWireS.l0] at H
    by_cases c4 : x5_1 < (l0.length : Int)
    ·rw [if_pos c4] at H
     have c4b0 : decide (x5_1 < (l0.length : Int)) = true := decide_eq_true c4
     clear c4
     by_cases c5 : 0 ≤ x5_1
     ·rw [if_pos c5] at H
      have c5b0 : decide (0 ≤ x5_1) = true := decide_eq_true c5
      clear c5
      by_cases c6 : x5_1 < (l1.length : Int)
      ·rw [if_pos c6] at H
       have c6b0 : decide (x5_1 < (l1.length : Int)) = true := decide_eq_true c6
       clear c6
       replace H := Option.bind_eq_some_iff.mp H
       obtain ⟨t107, A70, H⟩ := H
       replace H : (if t107 = true then (laws_eqWireS.l0 k1 l0 l1 (wrap64 (x5_1 + 1))) else (some false)) = some r := H
       have A7 := Aside0.mk A70
       clear A70
       by_cases c8 : t107 = true
       ·subst c8
        have H1 : (laws_eqWireS.l0 k1 l0 l1 (wrap64 (x5_1 + 1))) = some r := by rw [if_pos rfl] at H; exact H
        clear H
        have H := H1
        clear H1
        have H' := Aside0.mk H
        clear H
        try go_wp2
        have n0_ := Aside0.mk (below_drew1 HB.out)
        clear HB
        have HB := n0_
        clear n0_
        have p105 : 0 ≤ (x5_1 : Int) := of_decide_eq_true (by first | (with_reducible assumption) | assumption)
        have q105 : x5_1 < (l0.length : Int) := of_decide_eq_true (by first | (with_reducible assumption) | assumption)
        obtain ⟨ad105, e105, hx105_0, hx105_1, hx105_2⟩ := at_T43 HR0.out x5_1 p105 q105
        have hw105_2 := hx105_2
        have hw105_1 := hx105_1
        have hw105_0 := hx105_0
        cases e105
        replace hx105_0 := (HB.out.cell (World.block_lt_of_cell? w _ hx105_0)).trans hx105_0
        replace hx105_1 := (HB.out.cell (World.block_lt_of_cell? w _ hx105_1)).trans hx105_1
        replace hx105_2 := (HB.out.cell (World.block_lt_of_cell? w _ hx105_2)).trans hx105_2
        replace p105 := eq_true p105
        replace q105 := eq_true q105
        have p106 : 0 ≤ (x5_1 : Int) := of_decide_eq_true (by first | (with_reducible assumption) | assumption)
        have q106 : x5_1 < (l1.length : Int) := of_decide_eq_true (by first | (with_reducible assumption) | assumption)
        obtain ⟨ad106, e106, hx106_0, hx106_1, hx106_2⟩ := at_T43 HR1.out x5_1 p106 q106
        have hw106_2 := hx106_2
        have hw106_1 := hx106_1
        have hw106_0 := hx106_0
        cases e106
        replace hx106_0 := (HB.out.cell (World.block_lt_of_cell? w _ hx106_0)).trans hx106_0
        replace hx106_1 := (HB.out.cell (World.block_lt_of_cell? w _ hx106_1)).trans hx106_1
        replace hx106_2 := (HB.out.cell (World.block_lt_of_cell? w _ hx106_2)).trans hx106_2
        replace p106 := eq_true p106
        replace q106 := eq_true q106
        refine start_ (n := 10) (S := fun w' => w'.cell? (ad105.add ((x5_1).toNat * 3)) = some (.int .i64 ((rd_T43 l0 x5_1).f0)) ∧ w'.cell? ⟨(ad105.add ((x5_1).toNat * 3)).block, (ad105.add ((x5_1).toNat * 3)).off + 1, none⟩ = some (.int .i64 ((rd_T43 l0 x5_1).f1)) ∧ w'.cell? ⟨(ad105.add ((x5_1).toNat * 3)).block, (ad105.add ((x5_1).toNat * 3)).off + 2, none⟩ = some (.int .i64 ((rd_T43 l0 x5_1).f2)) ∧ w'.cell? (ad106.add ((x5_1).toNat * 3)) = some (.int .i64 ((rd_T43 l1 x5_1).f0)) ∧ w'.cell? ⟨(ad106.add ((x5_1).toNat * 3)).block, (ad106.add ((x5_1).toNat * 3)).off + 1, none⟩ = some (.int .i64 ((rd_T43 l1 x5_1).f1)) ∧ w'.cell? ⟨(ad106.add ((x5_1).toNat * 3)).block, (ad106.add ((x5_1).toNat * 3)).off + 2, none⟩ = some (.int .i64 ((rd_T43 l1 x5_1).f2))) (ds := []) #[false, false, false, false, false, false, false, false, false, false] (by kernel_rfl) rfl rfl ⟨((HB.out.cell (World.block_lt_of_cell? w _ hw105_0)).trans hw105_0), ((HB.out.cell (World.block_lt_of_cell? w _ hw105_1)).trans hw105_1), ((HB.out.cell (World.block_lt_of_cell? w _ hw105_2)).trans hw105_2), ((HB.out.cell (World.block_lt_of_cell? w _ hw106_0)).trans hw106_0), ((HB.out.cell (World.block_lt_of_cell? w _ hw106_1)).trans hw106_1), ((HB.out.cell (World.block_lt_of_cell? w _ hw106_2)).trans hw106_2)⟩ (fun hHeld => ?_); refine with_tabW laws_eqWireS.tab6 laws_eqWireS.bits6 (fun HT_ HW_ => ?_)
        generalize wr.drew = w9 at HB hx105_0 hx105_1 hx105_2 hx106_0 hx106_1 hx106_2 hHeld ⊢
        refine pure_ (i := 0) (N := some 17) (v := ?_) (a' := ?_) #[true, false, false, false, false, false, false, false, false, false] rfl rfl (any_of HT_.out (by kernel_rfl)) (fun _ _ _ h => h) (Or.inl ⟨by rfl, ?_⟩) ?_ ?_
        rotate_left
        ·intro w'
         go_simp
         with_reducible rfl
        rotate_left
        ·simp only [Act.put, List.setIfInBounds_toArray, List.set_cons_zero, List.set_cons_succ, i64_w, i32_w]
         rfl
        refine pure_ (i := 1) (N := some 18) (v := ?_) (a' := ?_) #[true, true, false, false, false, false, false, false, false, false] rfl rfl (any_of HT_.out (by kernel_rfl)) (fun _ _ _ h => h) (Or.inl ⟨by rfl, ?_⟩) ?_ ?_
        rotate_left
        ·intro w'
         go_simp
         with_reducible rfl
        rotate_left
        ·simp only [Act.put, List.setIfInBounds_toArray, List.set_cons_zero, List.set_cons_succ, i64_w, i32_w]
         rfl
        refine pure_ (i := 2) (N := some 19) (v := ?_) (a' := ?_) #[true, true, true, false, false, false, false, false, false, false] rfl rfl (any_of HT_.out (by kernel_rfl)) (fun _ _ _ h => h) (Or.inl ⟨by rfl, ?_⟩) ?_ ?_
        rotate_left
        ·intro w'
         go_simp
         with_reducible rfl
        rotate_left
        ·simp only [Act.put, List.setIfInBounds_toArray, List.set_cons_zero, List.set_cons_succ, i64_w, i32_w]
         rfl
        refine pure_ (i := 4) (N := some 21) (v := ?_) (a' := ?_) #[true, true, true, false, true, false, false, false, false, false] rfl rfl (any_of HT_.out (by kernel_rfl)) (fun _ _ _ h => h) (Or.inl ⟨by rfl, ?_⟩) ?_ ?_
        rotate_left
        ·intro w'
         go_simp
         with_reducible rfl
        rotate_left
        ·simp only [Act.put, List.setIfInBounds_toArray, List.set_cons_zero, List.set_cons_succ, i64_w, i32_w]
         rfl
        refine pure_ (i := 5) (N := some 22) (v := ?_) (a' := ?_) #[true, true, true, false, true, true, false, false, false, false] rfl rfl (any_of HT_.out (by kernel_rfl)) (fun _ _ _ h => h) (Or.inl ⟨by rfl, ?_⟩) ?_ ?_
        rotate_left
        ·intro w'
         go_simp
         with_reducible rfl
        rotate_left
        ·simp only [Act.put, List.setIfInBounds_toArray, List.set_cons_zero, List.set_cons_succ, i64_w, i32_w]
         rfl
        refine pure_ (i := 6) (N := some 23) (v := ?_) (a' := ?_) #[true, true, true, false, true, true, true, false, false, false] rfl rfl (any_of HT_.out (by kernel_rfl)) (fun _ _ _ h => h) (Or.inl ⟨by rfl, ?_⟩) ?_ ?_
        rotate_left
        ·intro w'
         go_simp
         with_reducible rfl
        rotate_left
        ·simp only [Act.put, List.setIfInBounds_toArray, List.set_cons_zero, List.set_cons_succ, i64_w, i32_w]
         rfl
        refine take_ (i := 3) (N := some 20) (v := ?_) (a' := ?_) #[true, true, true, true, true, true, true, false, false, false] rfl rfl (take_ofW HT_.out HW_.out (by kernel_rfl)) (fun _ _ _ h => h) (Or.inl ⟨by rfl, ?_⟩) hHeld ?_ ?_
        rotate_left
        ·rintro w' ⟨s0, s1, s2, s3, s4, s5⟩
         go_simp
         with_reducible rfl
        rotate_left
        ·simp only [Act.put, List.setIfInBounds_toArray, List.set_cons_zero, List.set_cons_succ, i64_w, i32_w]
         rfl
        refine take_ (i := 7) (N := some 24) (v := ?_) (a' := ?_) #[true, true, true, true, true, true, true, true, false, false] rfl rfl (take_ofW HT_.out HW_.out (by kernel_rfl)) (fun _ _ _ h => h) (Or.inl ⟨by rfl, ?_⟩) hHeld ?_ ?_
        rotate_left
        ·rintro w' ⟨s0, s1, s2, s3, s4, s5⟩
         go_simp
         with_reducible rfl
        rotate_left
        ·simp only [Act.put, List.setIfInBounds_toArray, List.set_cons_zero, List.set_cons_succ, i64_w, i32_w]
         rfl
        refine one_ (i := 8) (N := some 25) #[true, true, true, true, true, true, true, true, true, false] rfl rfl (one_of HT_.out (by kernel_rfl)) (by decide) (fun K hK => ?_)
        refine goes_ Tryd.func44 (by kernel_rfl) rfl #[.agg #[.int .i64 ((rd_T43 l0 x5_1).f0), .int .i64 ((rd_T43 l0 x5_1).f1), .int .i64 ((rd_T43 l0 x5_1).f2)], .agg #[.int .i64 ((rd_T43 l1 x5_1).f0), .int .i64 ((rd_T43 l1 x5_1).f1), .int .i64 ((rd_T43 l1 x5_1).f2)]] (by rfl) rfl rfl (by (try simp only [List.map_toArray, List.map_cons, List.map_nil]); first | done | rfl | (simp only [List.length_drop, List.length_take]; rfl)) ?_
        with_reducible refine (laws_eqWire.calls ((rd_T43 l0 x5_1).f0) ((rd_T43 l0 x5_1).f1) ((rd_T43 l0 x5_1).f2) ((rd_T43 l1 x5_1).f0) ((rd_T43 l1 x5_1).f1) ((rd_T43 l1 x5_1).f2) true _ A7.out).mono ?_
        rintro e w10 ⟨rfl, hb⟩
        refine ⟨_, rfl, ?_⟩
        have n0_ := Aside0.mk (below_step (by repeat (first | (with_reducible first | exact HB.out | apply below_alloc | apply pw_below_drewN | apply below_drew1) | exact HB.out)) hb)
        clear HB
        have HB := n0_
        clear n0_
        (try clear hb)
        (try clear hb2)
        (try clear hk)
        (try clear hi)
        refine hK.out _ _ ⟨((HB.out.cell (World.block_lt_of_cell? w _ hw105_0)).trans hw105_0), ((HB.out.cell (World.block_lt_of_cell? w _ hw105_1)).trans hw105_1), ((HB.out.cell (World.block_lt_of_cell? w _ hw105_2)).trans hw105_2), ((HB.out.cell (World.block_lt_of_cell? w _ hw106_0)).trans hw106_0), ((HB.out.cell (World.block_lt_of_cell? w _ hw106_1)).trans hw106_1), ((HB.out.cell (World.block_lt_of_cell? w _ hw106_2)).trans hw106_2)⟩ (fun hHeld => ?_)
        clear hK K
        refine norm_ (a' := ?_) ?_ ?_
        rotate_left
        ·show Act.put _ (some 25) _ = _
         simp only [Act.put, List.setIfInBounds_toArray, List.set_cons_zero, List.set_cons_succ, i64_w, i32_w]
         rfl
        refine pure_ (i := 9) (N := some 26) (v := ?_) (a' := ?_) #[true, true, true, true, true, true, true, true, true, true] rfl rfl (any_of HT_.out (by kernel_rfl)) (fun _ _ _ h => h) (Or.inl ⟨by rfl, ?_⟩) ?_ ?_
        rotate_left
        ·intro w'
         go_simp
         with_reducible rfl
        rotate_left
        ·simp only [Act.put, List.setIfInBounds_toArray, List.set_cons_zero, List.set_cons_succ, i64_w, i32_w]
         rfl
        refine done_ (done_of HT_.out (by kernel_rfl)) ?_
        try go_wp2
        go_roundg k1
        case measure => have := HK1.out; omega
        case rel => exact ⟨(wrap64 (x5_1 + 1)), (by first | rfl | (simp; done) | (simp [*]; done)), H', ⟨by have := HK1.out; omega⟩, ⟨by repeat (first | (with_reducible first | exact HB.out | apply below_alloc | apply pw_below_drewN | apply below_drew1) | exact HB.out)⟩⟩
       ·replace c8 := Bool.eq_false_iff.mpr c8
        subst c8
        have H1 : (some false) = some r := by rw [if_neg (show ¬ (false = true) by decide)] at H; exact H
        clear H
        have H := H1
        clear H1
        obtain rfl := Option.some.inj H
        try go_wp2
        have n0_ := Aside0.mk (below_drew1 HB.out)
        clear HB
        have HB := n0_
        clear n0_
        have p105 : 0 ≤ (x5_1 : Int) := of_decide_eq_true (by first | (with_reducible assumption) | assumption)
        have q105 : x5_1 < (l0.length : Int) := of_decide_eq_true (by first | (with_reducible assumption) | assumption)
        obtain ⟨ad105, e105, hx105_0, hx105_1, hx105_2⟩ := at_T43 HR0.out x5_1 p105 q105
        have hw105_2 := hx105_2
        have hw105_1 := hx105_1
        have hw105_0 := hx105_0
        cases e105
        replace hx105_0 := (HB.out.cell (World.block_lt_of_cell? w _ hx105_0)).trans hx105_0
        replace hx105_1 := (HB.out.cell (World.block_lt_of_cell? w _ hx105_1)).trans hx105_1
        replace hx105_2 := (HB.out.cell (World.block_lt_of_cell? w _ hx105_2)).trans hx105_2
        replace p105 := eq_true p105
        replace q105 := eq_true q105
        have p106 : 0 ≤ (x5_1 : Int) := of_decide_eq_true (by first | (with_reducible assumption) | assumption)
        have q106 : x5_1 < (l1.length : Int) := of_decide_eq_true (by first | (with_reducible assumption) | assumption)
        obtain ⟨ad106, e106, hx106_0, hx106_1, hx106_2⟩ := at_T43 HR1.out x5_1 p106 q106
        have hw106_2 := hx106_2
        have hw106_1 := hx106_1
        have hw106_0 := hx106_0
        cases e106
        replace hx106_0 := (HB.out.cell (World.block_lt_of_cell? w _ hx106_0)).trans hx106_0
        replace hx106_1 := (HB.out.cell (World.block_lt_of_cell? w _ hx106_1)).trans hx106_1
        replace hx106_2 := (HB.out.cell (World.block_lt_of_cell? w _ hx106_2)).trans hx106_2
        replace p106 := eq_true p106
        replace q106 := eq_true q106
        refine start_ (n := 10) (S := fun w' => w'.cell? (ad105.add ((x5_1).toNat * 3)) = some (.int .i64 ((rd_T43 l0 x5_1).f0)) ∧ w'.cell? ⟨(ad105.add ((x5_1).toNat * 3)).block, (ad105.add ((x5_1).toNat * 3)).off + 1, none⟩ = some (.int .i64 ((rd_T43 l0 x5_1).f1)) ∧ w'.cell? ⟨(ad105.add ((x5_1).toNat * 3)).block, (ad105.add ((x5_1).toNat * 3)).off + 2, none⟩ = some (.int .i64 ((rd_T43 l0 x5_1).f2)) ∧ w'.cell? (ad106.add ((x5_1).toNat * 3)) = some (.int .i64 ((rd_T43 l1 x5_1).f0)) ∧ w'.cell? ⟨(ad106.add ((x5_1).toNat * 3)).block, (ad106.add ((x5_1).toNat * 3)).off + 1, none⟩ = some (.int .i64 ((rd_T43 l1 x5_1).f1)) ∧ w'.cell? ⟨(ad106.add ((x5_1).toNat * 3)).block, (ad106.add ((x5_1).toNat * 3)).off + 2, none⟩ = some (.int .i64 ((rd_T43 l1 x5_1).f2))) (ds := []) #[false, false, false, false, false, false, false, false, false, false] (by kernel_rfl) rfl rfl ⟨((HB.out.cell (World.block_lt_of_cell? w _ hw105_0)).trans hw105_0), ((HB.out.cell (World.block_lt_of_cell? w _ hw105_1)).trans hw105_1), ((HB.out.cell (World.block_lt_of_cell? w _ hw105_2)).trans hw105_2), ((HB.out.cell (World.block_lt_of_cell? w _ hw106_0)).trans hw106_0), ((HB.out.cell (World.block_lt_of_cell? w _ hw106_1)).trans hw106_1), ((HB.out.cell (World.block_lt_of_cell? w _ hw106_2)).trans hw106_2)⟩ (fun hHeld => ?_); refine with_tabW laws_eqWireS.tab6 laws_eqWireS.bits6 (fun HT_ HW_ => ?_)
        generalize wr.drew = w11 at HB hx105_0 hx105_1 hx105_2 hx106_0 hx106_1 hx106_2 hHeld ⊢
        refine pure_ (i := 0) (N := some 17) (v := ?_) (a' := ?_) #[true, false, false, false, false, false, false, false, false, false] rfl rfl (any_of HT_.out (by kernel_rfl)) (fun _ _ _ h => h) (Or.inl ⟨by rfl, ?_⟩) ?_ ?_
        rotate_left
        ·intro w'
         go_simp
         with_reducible rfl
        rotate_left
        ·simp only [Act.put, List.setIfInBounds_toArray, List.set_cons_zero, List.set_cons_succ, i64_w, i32_w]
         rfl
        refine pure_ (i := 1) (N := some 18) (v := ?_) (a' := ?_) #[true, true, false, false, false, false, false, false, false, false] rfl rfl (any_of HT_.out (by kernel_rfl)) (fun _ _ _ h => h) (Or.inl ⟨by rfl, ?_⟩) ?_ ?_
        rotate_left
        ·intro w'
         go_simp
         with_reducible rfl
        rotate_left
        ·simp only [Act.put, List.setIfInBounds_toArray, List.set_cons_zero, List.set_cons_succ, i64_w, i32_w]
         rfl
        refine pure_ (i := 2) (N := some 19) (v := ?_) (a' := ?_) #[true, true, true, false, false, false, false, false, false, false] rfl rfl (any_of HT_.out (by kernel_rfl)) (fun _ _ _ h => h) (Or.inl ⟨by rfl, ?_⟩) ?_ ?_
        rotate_left
        ·intro w'
         go_simp
         with_reducible rfl
        rotate_left
        ·simp only [Act.put, List.setIfInBounds_toArray, List.set_cons_zero, List.set_cons_succ, i64_w, i32_w]
         rfl
        refine pure_ (i := 4) (N := some 21) (v := ?_) (a' := ?_) #[true, true, true, false, true, false, false, false, false, false] rfl rfl (any_of HT_.out (by kernel_rfl)) (fun _ _ _ h => h) (Or.inl ⟨by rfl, ?_⟩) ?_ ?_
        rotate_left
        ·intro w'
         go_simp
         with_reducible rfl
        rotate_left
        ·simp only [Act.put, List.setIfInBounds_toArray, List.set_cons_zero, List.set_cons_succ, i64_w, i32_w]
         rfl
        refine pure_ (i := 5) (N := some 22) (v := ?_) (a' := ?_) #[true, true, true, false, true, true, false, false, false, false] rfl rfl (any_of HT_.out (by kernel_rfl)) (fun _ _ _ h => h) (Or.inl ⟨by rfl, ?_⟩) ?_ ?_
        rotate_left
        ·intro w'
         go_simp
         with_reducible rfl
        rotate_left
        ·simp only [Act.put, List.setIfInBounds_toArray, List.set_cons_zero, List.set_cons_succ, i64_w, i32_w]
         rfl
        refine pure_ (i := 6) (N := some 23) (v := ?_) (a' := ?_) #[true, true, true, false, true, true, true, false, false, false] rfl rfl (any_of HT_.out (by kernel_rfl)) (fun _ _ _ h => h) (Or.inl ⟨by rfl, ?_⟩) ?_ ?_
        rotate_left
        ·intro w'
         go_simp
         with_reducible rfl
        rotate_left
        ·simp only [Act.put, List.setIfInBounds_toArray, List.set_cons_zero, List.set_cons_succ, i64_w, i32_w]
         rfl
        refine take_ (i := 3) (N := some 20) (v := ?_) (a' := ?_) #[true, true, true, true, true, true, true, false, false, false] rfl rfl (take_ofW HT_.out HW_.out (by kernel_rfl)) (fun _ _ _ h => h) (Or.inl ⟨by rfl, ?_⟩) hHeld ?_ ?_
        rotate_left
        ·rintro w' ⟨s0, s1, s2, s3, s4, s5⟩
         go_simp
         with_reducible rfl
        rotate_left
        ·simp only [Act.put, List.setIfInBounds_toArray, List.set_cons_zero, List.set_cons_succ, i64_w, i32_w]
         rfl
        refine take_ (i := 7) (N := some 24) (v := ?_) (a' := ?_) #[true, true, true, true, true, true, true, true, false, false] rfl rfl (take_ofW HT_.out HW_.out (by kernel_rfl)) (fun _ _ _ h => h) (Or.inl ⟨by rfl, ?_⟩) hHeld ?_ ?_
        rotate_left
        ·rintro w' ⟨s0, s1, s2, s3, s4, s5⟩
         go_simp
         with_reducible rfl
        rotate_left
        ·simp only [Act.put, List.setIfInBounds_toArray, List.set_cons_zero, List.set_cons_succ, i64_w, i32_w]
         rfl
        refine one_ (i := 8) (N := some 25) #[true, true, true, true, true, true, true, true, true, false] rfl rfl (one_of HT_.out (by kernel_rfl)) (by decide) (fun K hK => ?_)
        refine goes_ Tryd.func44 (by kernel_rfl) rfl #[.agg #[.int .i64 ((rd_T43 l0 x5_1).f0), .int .i64 ((rd_T43 l0 x5_1).f1), .int .i64 ((rd_T43 l0 x5_1).f2)], .agg #[.int .i64 ((rd_T43 l1 x5_1).f0), .int .i64 ((rd_T43 l1 x5_1).f1), .int .i64 ((rd_T43 l1 x5_1).f2)]] (by rfl) rfl rfl (by (try simp only [List.map_toArray, List.map_cons, List.map_nil]); first | done | rfl | (simp only [List.length_drop, List.length_take]; rfl)) ?_
        with_reducible refine (laws_eqWire.calls ((rd_T43 l0 x5_1).f0) ((rd_T43 l0 x5_1).f1) ((rd_T43 l0 x5_1).f2) ((rd_T43 l1 x5_1).f0) ((rd_T43 l1 x5_1).f1) ((rd_T43 l1 x5_1).f2) false _ A7.out).mono ?_
        rintro e w12 ⟨rfl, hb⟩
        refine ⟨_, rfl, ?_⟩
        have n0_ := Aside0.mk (below_step (by repeat (first | (with_reducible first | exact HB.out | apply below_alloc | apply pw_below_drewN | apply below_drew1) | exact HB.out)) hb)
        clear HB
        have HB := n0_
        clear n0_
        (try clear hb)
        (try clear hb2)
        (try clear hk)
        (try clear hi)
        refine hK.out _ _ ⟨((HB.out.cell (World.block_lt_of_cell? w _ hw105_0)).trans hw105_0), ((HB.out.cell (World.block_lt_of_cell? w _ hw105_1)).trans hw105_1), ((HB.out.cell (World.block_lt_of_cell? w _ hw105_2)).trans hw105_2), ((HB.out.cell (World.block_lt_of_cell? w _ hw106_0)).trans hw106_0), ((HB.out.cell (World.block_lt_of_cell? w _ hw106_1)).trans hw106_1), ((HB.out.cell (World.block_lt_of_cell? w _ hw106_2)).trans hw106_2)⟩ (fun hHeld => ?_)
        clear hK K
        refine norm_ (a' := ?_) ?_ ?_
        rotate_left
        ·show Act.put _ (some 25) _ = _
         simp only [Act.put, List.setIfInBounds_toArray, List.set_cons_zero, List.set_cons_succ, i64_w, i32_w]
         rfl
        refine pure_ (i := 9) (N := some 26) (v := ?_) (a' := ?_) #[true, true, true, true, true, true, true, true, true, true] rfl rfl (any_of HT_.out (by kernel_rfl)) (fun _ _ _ h => h) (Or.inl ⟨by rfl, ?_⟩) ?_ ?_
        rotate_left
        ·intro w'
         go_simp
         with_reducible rfl
        rotate_left
        ·simp only [Act.put, List.setIfInBounds_toArray, List.set_cons_zero, List.set_cons_succ, i64_w, i32_w]
         rfl
        refine done_ (done_of HT_.out (by kernel_rfl)) ?_
        try go_wp2
        go_ret
        exact ⟨by first | rfl | (simp [errW_none, errW_some] <;> rfl) | (simp [*, errW_none, errW_some] <;> rfl), by repeat (first | (with_reducible first | exact HB.out | apply below_alloc | apply pw_below_drewN | apply below_drew1) | exact HB.out)⟩
      ·rw [if_neg c6] at H
       exact absurd H (by simp)
     ·rw [if_neg c5] at H
      exact absurd H (by simp)
    ·rw [if_neg c4] at H
     have c4b0 : decide (x5_1 < (l0.length : Int)) = false := decide_eq_false c4
     clear c4
     obtain rfl := Option.some.inj H
     go_wp2
     go_ret
     exact ⟨by first | rfl | (simp [errW_none, errW_some] <;> rfl) | (simp [*, errW_none, errW_some] <;> rfl), by repeat (first | (with_reducible first | exact HB.out | apply below_alloc | apply pw_below_drewN | apply below_drew1) | exact HB.out)⟩
 ·rw [if_neg c3] at H
  have c3b0 : ((l0.length : Int) == (l1.length : Int)) = false := beq_eq_false_iff_ne.mpr c3
  have c3b1 : ((l0.length : Int) != (l1.length : Int)) = true := bne_iff_ne.mpr c3
  have c3b2 : (l0.length == l1.length) = false := by first | simpa using c3 | (simp at c3 ⊢; omega)
  obtain rfl := Option.some.inj H
  go_enter Tryd.func24, Tryd.ntmps24
  go_wp2
  go_ret
  exact ⟨by first | rfl | (simp [errW_none, errW_some] <;> rfl) | (simp [*, errW_none, errW_some] <;> rfl), by repeat (first | (with_reducible first | exact HB.out | apply below_alloc | apply pw_below_drewN | apply below_drew1) | exact HB.out)⟩
end Go.Proofs.YtalkmhnlgfncmaaDoor.X
end
