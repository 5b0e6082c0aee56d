/- My own texts of this seat and its words, merged: Xp0, Xp23, Xp25, Xp27, XMarks, XFun, Xp79, Xp59, Xp62, Xp80, XIsFlow, Xp81, Xp66, XOpenClo, XIsOpen, Xp22, Xp31, Xp51. Conditions: as each lemma says. -/
import Derived.Test.YtalkmhnlgfncmaaDoorProg
import Derived.Below
import Derived.Deep.Draws
import Derived.Deep.AppendLies
import Derived.Maps.AppendAt
import Derived.OwnWalk
import Derived.Laws.BytesArg
import Derived.Laws.MakeOwn
import Derived.Laws.OwnMore
import Derived.Deep.OwnRows
import Derived.Tactics
import Derived.Lib.ConvBytes
import Derived.Laws.Slices
import Derived.WalkKit
import Derived.KernelRfl
import Derived.RowKit3
import Derived.Deep.LoopGhost
import Derived.Deep.QuietTactic
import Derived.BigQuiet
import Derived.WideLaws
import Derived.Deep.DeepCutAuto
import Derived.Deep.CutBlock
import Derived.Deep.RegionHeld3
import Derived.Laws.Rows
import Derived.Lib.AppendStr
import Derived.ArgAppend
import Derived.Laws.IdiomCopy
import Derived.OrdersHeld
import Derived.Laws.BitsLemmas
import Derived.RowKit
import Derived.Test.YtalkmhnlgfncmaaDoorH0
import Derived.Test.YtalkmhnlgfncmaaDoorH1
import Derived.Test.YtalkmhnlgfncmaaDoorH2
import Derived.Test.YtalkmhnlgfncmaaDoorH3
import Derived.Test.YtalkmhnlgfncmaaDoorH4
import Derived.Test.YtalkmhnlgfncmaaDoorH5
import Derived.Test.YtalkmhnlgfncmaaDoorH6
import Derived.Test.YtalkmhnlgfncmaaDoorH7
import Derived.Test.YtalkmhnlgfncmaaDoorH8
import Derived.Test.YtalkmhnlgfncmaaDoorH9
import Derived.Test.YtalkmhnlgfncmaaDoorH10
import Derived.Test.YtalkmhnlgfncmaaDoorH11
import Derived.Test.YtalkmhnlgfncmaaDoorH12
import Derived.Test.YtalkmhnlgfncmaaDoorH13
import Derived.Test.YtalkmhnlgfncmaaDoorH14
import Derived.Test.YtalkmhnlgfncmaaDoorH15
import Derived.Test.YtalkmhnlgfncmaaDoorH16
import Derived.Test.YtalkmhnlgfncmaaDoorH17
import Derived.Test.YtalkmhnlgfncmaaDoorH18
import Derived.Test.YtalkmhnlgfncmaaDoorH19
import Derived.Test.YtalkmhnlgfncmaaDoorH20
import Derived.RegionTactic
import Derived.BigRegion
section
-- Written by a program of this session out of the kit's print of the loaded functions: a plain function of a Go function, and its contract.
namespace Go.Proofs.YtalkmhnlgfncmaaDoor.X
open Go.RowKit Go.Proofs.YtalkmhnlgfncmaaDoorW.PrintWords Go.Proofs.YtalkmhnlgfncmaaDoorW.PrintLast Go.Proofs.YtalkmhnlgfncmaaDoorW.PrintMore
attribute [local go_sem] max2_int min2_int max_two min_two max_three min_three max_four min_four   -- for this text's walks alone
set_option linter.unusedVariables false
set_option linter.unusedSimpArgs false
def errW : Option Int → Value
 | none => .nilIface
 | some c => .iface 119 (.int .i64 c)
theorem errW_none : errW none = .nilIface := rfl
theorem errW_some (c : Int) : errW (some c) = .iface 119 (.int .i64 c) := rfl
theorem info2 : (Tryd.prog.info? 2).map (fun i => (i.zero, i.size, i.bytes)) = some (some (.int .i64 0), 1, 8) := by kernel_rfl
theorem info5 : (Tryd.prog.info? 5).map (fun i => (i.zero, i.size, i.bytes)) = some (some (.int .u8 0), 1, 1) := by kernel_rfl
theorem info9 : (Tryd.prog.info? 9).map (fun i => (i.zero, i.size, i.bytes)) = some (some (.string ⟨#[]⟩), 1, 16) := by kernel_rfl
theorem info43 : (Tryd.prog.info? 43).map (fun i => (i.zero, i.size, i.bytes)) = some (some (.agg #[(.int .i64 0), (.int .i64 0), (.int .i64 0)]), 3, 24) := by kernel_rfl
-- the values' own types
structure S43 where
 f0 : Int
 f1 : Int
 f2 : Int
def z43 : S43 := ⟨(0 : Int), (0 : Int), (0 : Int)⟩
def k43 : Kd S43 := Kd.iso (Kd.pair (Kd.int .i64) (Kd.pair (Kd.int .i64) (Kd.int .i64))) (fun x : S43 => (x.f0, x.f1, x.f2))
theorem k43_open {w : World} {x : S43} {cs : List Value} (h : k43.K w x cs) : cs = [.int .i64 x.f0, .int .i64 x.f1, .int .i64 x.f2] := by
 obtain ⟨_, _, rfl, rfl, ⟨_, _, rfl, rfl, rfl⟩⟩ := h
 exact rfl
theorem k43_openM {w : World} {base : Nat} {ok : Nat → Prop} {x : S43} {cs : List Value} (h : k43.M w base ok x cs) : cs = [.int .i64 x.f0, .int .i64 x.f1, .int .i64 x.f2] := by
 obtain ⟨_, _, rfl, rfl, ⟨_, _, rfl, rfl, rfl⟩⟩ := h
 exact rfl
theorem k43_mkM (w : World) (base : Nat) (ok : Nat → Prop) (x : S43)  : k43.M w base ok x [.int .i64 x.f0, .int .i64 x.f1, .int .i64 x.f2] := ⟨[.int .i64 x.f0], [.int .i64 x.f1, .int .i64 x.f2], rfl, rfl, ⟨[.int .i64 x.f1], [.int .i64 x.f2], rfl, rfl, rfl⟩⟩
def rd_T43 (xs : List S43) (i : Int) : S43 := xs.getD i.toNat z43
theorem at_T43 {w : World} {A : Option Addr} {n : Nat} {xs : List S43} (h : Kd.C k43 w A n xs) (i : Int) (h0 : 0 ≤ i) (h1 : i < n) : ∃ ad , A = some ad ∧ w.cell? (ad.add (i.toNat * 3)) = some (.int .i64 (rd_T43 xs i).f0) ∧ w.cell? ⟨(ad.add (i.toNat * 3)).block, (ad.add (i.toNat * 3)).off + 1, none⟩ = some (.int .i64 (rd_T43 xs i).f1) ∧ w.cell? ⟨(ad.add (i.toNat * 3)).block, (ad.add (i.toNat * 3)).off + 2, none⟩ = some (.int .i64 (rd_T43 xs i).f2) := by
 obtain ⟨ad, c, e, _, hK, hc0⟩ := Kd.C_get h z43 i h0 h1
 have hc : ∀ j u, c[j]? = some u → w.cell? (ad.add (i.toNat * 3 + j)) = some u := hc0
 obtain rfl := k43_open hK
 exact ⟨ad, e, hc 0 _ rfl, by rw [← add_field _ _ 1 (by omega)]; exact hc 1 _ rfl, by rw [← add_field _ _ 2 (by omega)]; exact hc 2 _ rfl⟩
structure S70 where
 f0 : Int
 f1 : Int
 f2 : Int
end Go.Proofs.YtalkmhnlgfncmaaDoor.X
end
section
-- Written by a program of this session out of the kit's print of the loaded functions: a plain function of a Go function, and its contract.
namespace Go.Proofs.YtalkmhnlgfncmaaDoor.X
open Go.RowKit Go.Proofs.YtalkmhnlgfncmaaDoorW.PrintWords Go.Proofs.YtalkmhnlgfncmaaDoorW.PrintLast Go.Proofs.YtalkmhnlgfncmaaDoorW.PrintMore
attribute [local go_sem] max2_int min2_int max_two min_two max_three min_three max_four min_four   -- for this text's walks alone
set_option linter.unusedVariables false
set_option linter.unusedSimpArgs false
def laws_eqInt64S.l0 : Nat → List Int → List Int → Int → Option (Bool)
 | 0, _, _, _ => none
 | k + 1, x0, x1, x5 => if x5 < (x0.length : Int) then (if 0 ≤ x5 then (if x5 < (x1.length : Int) then (if (rd x0 x5) = (rd x1 x5) then (laws_eqInt64S.l0 k x0 x1 (wrap64 (x5 + 1))) else (some false)) else (none)) else (none)) else (some true)
def laws_eqInt64S.f (k : Nat) (l0 : List Int) (l1 : List Int) : Option (Bool) := if (l0.length : Int) = (l1.length : Int) then (laws_eqInt64S.l0 k l0 l1 0) else (some false)
set_option maxHeartbeats 8000000 in
set_option maxRecDepth 100000 in
theorem laws_eqInt64S.calls (k : Nat) (A0 : Option Addr) (c0 : Nat) (l0 : List Int) (A1 : Option Addr) (c1 : Nat) (l1 : List Int) (r : Bool) (w : World) (hr0 : Kd.C (Kd.int .i64) w A0 l0.length l0) (hc0 : l0.length ≤ c0) (hr1 : Kd.C (Kd.int .i64) w A1 l1.length l1) (hc1 : l1.length ≤ c1) (h : laws_eqInt64S.f k l0 l1 = some r) :
  Calls Tryd.prog 23 #[.slice A0 l0.length c0, .slice A1 l1.length c1] w fun e w' => e = .returned (.bool r) ∧ Drawn0 w w' := by
 have HR0 := Aside0.mk hr0
 have HC0 := Aside0.mk hc0
 clear hr0 hc0
 have HR1 := Aside0.mk hr1
 have HC1 := Aside0.mk hc1
 clear hr1 hc1
 have H : (if (l0.length : Int) = (l1.length : Int) then (laws_eqInt64S.l0 k l0 l1 0) else (some false)) = some r := h
 clear h
 by_cases c3 : (l0.length : Int) = (l1.length : Int)
 ·rw [if_pos c3] at H
  have c3b0 : ((l0.length : Int) == (l1.length : Int)) = true := beq_iff_eq.mpr c3
  have c3b1 : ((l0.length : Int) != (l1.length : Int)) = false := bne_eq_false_iff_eq.mpr c3
  have c3b2 : (l0.length == l1.length) = true := by first | simpa using c3 | (simp at c3 ⊢; omega)
  clear c3
  have H' := Aside0.mk H
  clear H
  go_enter Tryd.func23, Tryd.ntmps23
  go_wp2
  repeat (go_quiet (fail); try go_wp2)
  go_loopg [5] k (fun kq v5 w' => ∃ (x5_1 : Int), v5 = .int .i64 x5_1 ∧ Aside0 (laws_eqInt64S.l0 kq l0 l1 x5_1 = some r) ∧ Aside0 (kq ≤ k) ∧ Drawn0 w w')
  case atStart => exact ⟨(0), (by first | rfl | (simp; done) | (simp [*]; done)), H', ⟨Nat.le_refl _⟩, by repeat (first | exact Drawn0.refl _ | apply Drawn0.step)⟩
  case round =>
   clear H'
   try clear c1
   try clear c2
   try clear p2
   try clear c3
   try clear c3b0
   try clear c3b1
   try clear c3b2
   obtain ⟨x5_1, rfl, HA, HK1, ⟨m1, rfl⟩⟩ := hrel
   cases gk with
   | zero => exact absurd HA.out (by simp [laws_eqInt64S.l0])
   | succ k1 =>
    have H := HA.out
    clear HA
    simp only [laws_eqInt64S.l0] at H
    by_cases c4 : x5_1 < (l0.length : Int)
    ·rw [if_pos c4] at H
     have c4b0 : decide (x5_1 < (l0.length : Int)) = true := decide_eq_true c4
     clear c4
     by_cases c5 : 0 ≤ x5_1
     ·rw [if_pos c5] at H
      have c5b0 : decide (0 ≤ x5_1) = true := decide_eq_true c5
      clear c5
      by_cases c6 : x5_1 < (l1.length : Int)
      ·rw [if_pos c6] at H
       have c6b0 : decide (x5_1 < (l1.length : Int)) = true := decide_eq_true c6
       clear c6
       by_cases c7 : (rd l0 x5_1) = (rd l1 x5_1)
       ·rw [if_pos c7] at H
        have c7b0 : ((rd l0 x5_1) == (rd l1 x5_1)) = true := beq_iff_eq.mpr c7
        have c7b1 : ((rd l0 x5_1) != (rd l1 x5_1)) = false := bne_eq_false_iff_eq.mpr c7
        clear c7
        have H' := Aside0.mk H
        clear H
        have p101 : 0 ≤ (x5_1 : Int) := of_decide_eq_true (by first | (with_reducible assumption) | assumption)
        have q101 : x5_1 < (l0.length : Int) := of_decide_eq_true (by first | (with_reducible assumption) | assumption)
        obtain ⟨ad101, e101, hx101_0⟩ := Kd.at_int HR0.out x5_1 p101 q101
        cases e101
        replace p101 := eq_true p101
        replace q101 := eq_true q101
        have p102 : 0 ≤ (x5_1 : Int) := of_decide_eq_true (by first | (with_reducible assumption) | assumption)
        have q102 : x5_1 < (l1.length : Int) := of_decide_eq_true (by first | (with_reducible assumption) | assumption)
        obtain ⟨ad102, e102, hx102_0⟩ := Kd.at_int HR1.out x5_1 p102 q102
        cases e102
        replace p102 := eq_true p102
        replace q102 := eq_true q102
        go_wp2
        repeat (go_quiet (fail); try go_wp2)
        go_roundg k1
        case measure => have := HK1.out; omega
        case rel => exact ⟨(wrap64 (x5_1 + 1)), (by first | rfl | (simp; done) | (simp [*]; done)), H', ⟨by have := HK1.out; omega⟩, by repeat (first | exact Drawn0.refl _ | apply Drawn0.step)⟩
       ·rw [if_neg c7] at H
        have c7b0 : ((rd l0 x5_1) == (rd l1 x5_1)) = false := beq_eq_false_iff_ne.mpr c7
        have c7b1 : ((rd l0 x5_1) != (rd l1 x5_1)) = true := bne_iff_ne.mpr c7
        obtain rfl := Option.some.inj H
        have p101 : 0 ≤ (x5_1 : Int) := of_decide_eq_true (by first | (with_reducible assumption) | assumption)
        have q101 : x5_1 < (l0.length : Int) := of_decide_eq_true (by first | (with_reducible assumption) | assumption)
        obtain ⟨ad101, e101, hx101_0⟩ := Kd.at_int HR0.out x5_1 p101 q101
        cases e101
        replace p101 := eq_true p101
        replace q101 := eq_true q101
        have p102 : 0 ≤ (x5_1 : Int) := of_decide_eq_true (by first | (with_reducible assumption) | assumption)
        have q102 : x5_1 < (l1.length : Int) := of_decide_eq_true (by first | (with_reducible assumption) | assumption)
        obtain ⟨ad102, e102, hx102_0⟩ := Kd.at_int HR1.out x5_1 p102 q102
        cases e102
        replace p102 := eq_true p102
        replace q102 := eq_true q102
        go_wp2
        repeat (go_quiet (fail); try go_wp2)
        go_ret
        exact ⟨by first | rfl | (simp; done) | (simp [*]; done), by repeat (first | exact Drawn0.refl _ | apply Drawn0.step)⟩
      ·rw [if_neg c6] at H
       exact absurd H (by simp)
     ·rw [if_neg c5] at H
      exact absurd H (by simp)
    ·rw [if_neg c4] at H
     have c4b0 : decide (x5_1 < (l0.length : Int)) = false := decide_eq_false c4
     clear c4
     obtain rfl := Option.some.inj H
     go_wp2
     repeat (go_quiet (fail); try go_wp2)
     go_ret
     exact ⟨by first | rfl | (simp; done) | (simp [*]; done), by repeat (first | exact Drawn0.refl _ | apply Drawn0.step)⟩
 ·rw [if_neg c3] at H
  have c3b0 : ((l0.length : Int) == (l1.length : Int)) = false := beq_eq_false_iff_ne.mpr c3
  have c3b1 : ((l0.length : Int) != (l1.length : Int)) = true := bne_iff_ne.mpr c3
  have c3b2 : (l0.length == l1.length) = false := by first | simpa using c3 | (simp at c3 ⊢; omega)
  obtain rfl := Option.some.inj H
  go_enter Tryd.func23, Tryd.ntmps23
  go_wp2
  repeat (go_quiet (fail); try go_wp2)
  go_ret
  exact ⟨by first | rfl | (simp; done) | (simp [*]; done), by repeat (first | exact Drawn0.refl _ | apply Drawn0.step)⟩
end Go.Proofs.YtalkmhnlgfncmaaDoor.X
end
section
-- Written by a program of this session out of the kit's print of the loaded functions: a plain function of a Go function, and its contract.
namespace Go.Proofs.YtalkmhnlgfncmaaDoor.X
open Go.RowKit Go.Proofs.YtalkmhnlgfncmaaDoorW.PrintWords Go.Proofs.YtalkmhnlgfncmaaDoorW.PrintLast Go.Proofs.YtalkmhnlgfncmaaDoorW.PrintMore
attribute [local go_sem] max2_int min2_int max_two min_two max_three min_three max_four min_four   -- for this text's walks alone
set_option linter.unusedVariables false
set_option linter.unusedSimpArgs false
def laws_markInt64S.l0 : Nat → List Int → Int → Int → Option (Int × List Int)
 | 0, _, _, _ => none
 | k + 1, x0, x1, x5 => if x5 < (x0.length : Int) then (if 0 ≤ x5 then (laws_markInt64S.l0 k (x0.set (x5 : Int).toNat x1) (wrap64 (x1 + 1)) (wrap64 (x5 + 1))) else (none)) else (some (x1, x0))
def laws_markInt64S.f (k : Nat) (l0 : List Int) (a1 : Int) : Option (Int × List Int) := laws_markInt64S.l0 k l0 a1 0
set_option maxHeartbeats 8000000 in
set_option maxRecDepth 100000 in
theorem laws_markInt64S.calls (k : Nat) (P0_ : Nat → Prop) (u9000_ : Value) (l0 : List Int) (a1 : Int) (r1 : Int) (r2 : List Int) (w0 w : World) (hB : Below w0.heap.size w0 w) (ho0 : Kd.R (Kd.int .i64) 2 w w0.heap.size P0_ u9000_ l0) (h : laws_markInt64S.f k l0 a1 = some (r1, r2)) :
  Calls Tryd.prog 25 #[u9000_, .int .i64 a1] w fun e w' => e = .returned (.int .i64 r1) ∧ Kd.R (Kd.int .i64) 2 w' w0.heap.size (fun k_ => (P0_ k_ ∨ w.heap.size ≤ k_)) u9000_ r2 ∧ Below w0.heap.size w0 w' ∧ Kept w w' (fun k_ => P0_ k_) := by
 have HO0 := Aside0.mk (show Kd.R (Kd.int .i64) 2 w w0.heap.size (fun k_ => (P0_ k_ ∨ w.heap.size ≤ k_)) u9000_ l0 from Kd.R_mono ho0 (fun k_ hk => (.inl hk)))
 have HK := Aside0.mk (Kept.refl w (fun k_ => P0_ k_))
 have HW0 := Aside0.mk hB.size
 have HB := Aside0.mk hB
 clear hB
 have H : (laws_markInt64S.l0 k l0 a1 0) = some (r1, r2) := h
 clear h
 have H' := Aside0.mk H
 clear H
 go_enter Tryd.func25, Tryd.ntmps25
 go_wp2
 go_loopg [1, 5] k (fun kq v1 v5 w' => ∃ (x0_1 : List Int) (x1_1 : Int) (x5_1 : Int), v1 = .int .i64 x1_1 ∧ v5 = .int .i64 x5_1 ∧ Aside0 (laws_markInt64S.l0 kq x0_1 x1_1 x5_1 = some (r1, r2)) ∧ Aside0 (kq ≤ k) ∧ Aside0 (Kd.R (Kd.int .i64) 2 w' w0.heap.size (fun k_ => (P0_ k_ ∨ w.heap.size ≤ k_)) u9000_ x0_1) ∧ Aside0 (Kept w w' (fun k_ => P0_ k_)) ∧ Aside0 (Below w0.heap.size w0 w'))
 case atStart => exact ⟨(l0), (a1), (0), (by first | rfl | (simp; done) | (simp [*]; done)), (by first | rfl | (simp; done) | (simp [*]; done)), H', ⟨Nat.le_refl _⟩, ⟨by (with_reducible repeat (first | apply Kd.R_alloc | apply Kd.R_drewN | apply Kd.R_drew)); exact HO0.out⟩, ⟨by repeat (first | (with_reducible first | exact HK.out | apply Kept.alloc | apply Kept.drewN | apply Kept.drew) | exact HK.out)⟩, ⟨by repeat (first | (with_reducible first | exact HB.out | apply below_alloc | apply pw_below_drewN | apply below_drew1) | exact HB.out)⟩⟩
 case round =>
  clear H'
  try clear c2
  try clear p2
  obtain ⟨x0_1, x1_1, x5_1, rfl, rfl, HA, HK1, HO_0, HK, HB⟩ := hrel
  cases gk with
  | zero => exact absurd HA.out (by simp [laws_markInt64S.l0])
  | succ k1 =>
   have H := HA.out
   clear HA
   simp only [laws_markInt64S.l0] at H
   by_cases c3 : x5_1 < (x0_1.length : Int)
   ·rw [if_pos c3] at H
    have c3b0 : decide (x5_1 < (x0_1.length : Int)) = true := decide_eq_true c3
    clear c3
    by_cases c4 : 0 ≤ x5_1
    ·rw [if_pos c4] at H
     have c4b0 : decide (0 ≤ x5_1) = true := decide_eq_true c4
     clear c4
     obtain ⟨y423, hy423⟩ : ∃ y_ : List Int, y_ = (x0_1.set (x5_1 : Int).toNat x1_1) := ⟨_, rfl⟩
     replace H : (laws_markInt64S.l0 k1 y423 (wrap64 (x1_1 + 1)) (wrap64 (x5_1 + 1))) = some (r1, r2) := by first | (rw [hy423]; with_reducible exact H) | (have H2_ := (Option.bind_some _ _).symm.trans H; rw [hy423]; with_reducible exact H2_) | (have H2_ := (Option.bind_some _ _).symm.trans H; with_reducible exact H2_) | with_reducible exact H | (rw [hy423]; exact H) | exact H
     have Ny423 := Aside0.mk hy423
     clear hy423
     have H' := Aside0.mk H
     clear H
     obtain ⟨Ao6, co6, eo6⟩ := Kd.R_slice HO_0.out
     subst eo6
     have p5 : 0 ≤ (x5_1 : Int) := of_decide_eq_true (by first | (with_reducible assumption) | assumption)
     have q5 : (x5_1 : Int) < ((x0_1.length : Int) : Int) := of_decide_eq_true (by first | (with_reducible assumption) | assumption)
     obtain ⟨go5, co5, eo5, gb5, gl5, cl5, HG5⟩ := Kd.R_form HO_0.out (by omega)
     (first | cases eo5 | (injection eo5 with ea_ en_ ec_; (first | subst ea_ | (injection ea_ with ea_; subst ea_)); subst ec_; clear en_))
     have GB5 := Aside0.mk gb5
     have GG5 := Aside0.mk HG5
     clear gb5 gl5 HG5
     have HMgo5 := Aside0.mk (show (P0_ go5 ∨ w.heap.size ≤ go5) from (HO_0.out.1 _ rfl))
     obtain ⟨hx5_0, hf5_0⟩ := Kd.R_celln 0 HO_0.out (x5_1 : Int) p5 q5
     replace p5 := eq_true p5
     replace q5 := eq_true q5
     have HP7 := Kd.R_putg HO_0.out (x5_1 : Int) x1_1
     go_wp2_with (first | ((with_reducible refine gate_store (t := 2) (p := 15) rfl ?_); refine store_event (t := 2) (p := 15) (v := ?vo_w8) (w1 := (wr.setCell ⟨go5, (x5_1 : Int).toNat, none⟩ (.int .i64 x1_1))) ?hg ?ho ?hn ?hr ?_; (case ho => rfl); (case hg => rfl); (case hn => rfl); (case hr => first | (go_simp; done) | (go_simp; rfl)); intro w8 hw; have hg : wr.grownBy w8 (some go5) := (by rw [hw]; exact HP7.2); have hp_ : Kd.R (Kd.int .i64) 2 w8 w0.heap.size (fun k_ => (P0_ k_ ∨ w.heap.size ≤ k_)) (.slice (some ⟨go5, 0, none⟩) x0_1.length co6) y423 := (by rw [hw, Ny423.out]; exact HP7.1); clear HP7; have n0_ := Aside0.mk (hp_); have n1_ := Aside0.mk ((by rw [hw]; exact below_set (HB.out) GB5.out : Below w0.heap.size w0 w8)); have n2_ := Aside0.mk (Kept.of_grown (S := (fun k_ => P0_ k_)) hg (by repeat (first | (with_reducible first | exact HK.out | apply Kept.alloc | apply Kept.drewN | apply Kept.drew) | exact HK.out)) (fun k_ e_ => (HO_0.out.1 k_ e_))); clear HO_0; clear HB; clear HK; have HO_0 := n0_; have HB := n1_; have HK := n2_; clear n0_ n1_ n2_; clear hg hw hp_))
     go_roundg k1
     case measure => have := HK1.out; omega
     case rel => exact ⟨(y423), (wrap64 (x1_1 + 1)), (wrap64 (x5_1 + 1)), (by first | rfl | (simp; done) | (simp [*]; done)), (by first | rfl | (simp; done) | (simp [*]; done)), H', ⟨by have := HK1.out; omega⟩, ⟨by (with_reducible repeat (first | apply Kd.R_alloc | apply Kd.R_drewN | apply Kd.R_drew)); exact HO_0.out⟩, ⟨by repeat (first | (with_reducible first | exact HK.out | apply Kept.alloc | apply Kept.drewN | apply Kept.drew) | exact HK.out)⟩, ⟨by repeat (first | (with_reducible first | exact HB.out | apply below_alloc | apply pw_below_drewN | apply below_drew1) | exact HB.out)⟩⟩
    ·rw [if_neg c4] at H
     exact absurd H (by simp)
   ·rw [if_neg c3] at H
    have c3b0 : decide (x5_1 < (x0_1.length : Int)) = false := decide_eq_false c3
    clear c3
    simp only [Option.some.injEq, Prod.mk.injEq] at H
    obtain ⟨rfl, rfl⟩ := H
    obtain ⟨Ao9, co9, eo9⟩ := Kd.R_slice HO_0.out
    subst eo9
    go_wp2
    go_ret
    exact ⟨by first | rfl | (simp [errW_none, errW_some] <;> rfl) | (simp [*, errW_none, errW_some] <;> rfl), by (with_reducible repeat (first | apply Kd.R_alloc | apply Kd.R_drewN | apply Kd.R_drew)); exact HO_0.out, by repeat (first | (with_reducible first | exact HB.out | apply below_alloc | apply pw_below_drewN | apply below_drew1) | exact HB.out), by repeat (first | (with_reducible first | exact HK.out | apply Kept.alloc | apply Kept.drewN | apply Kept.drew) | exact HK.out)⟩
end Go.Proofs.YtalkmhnlgfncmaaDoor.X
end
section
-- Written by a program of this session out of the kit's print of the loaded functions: a plain function of a Go function, and its contract.
namespace Go.Proofs.YtalkmhnlgfncmaaDoor.X
open Go.RowKit Go.Proofs.YtalkmhnlgfncmaaDoorW.PrintWords Go.Proofs.YtalkmhnlgfncmaaDoorW.PrintLast Go.Proofs.YtalkmhnlgfncmaaDoorW.PrintMore
attribute [local go_sem] max2_int min2_int max_two min_two max_three min_three max_four min_four   -- for this text's walks alone
set_option linter.unusedVariables false
set_option linter.unusedSimpArgs false
def laws_heldInt64S.l0 : Nat → List Int → Int → Int → Option (Int)
 | 0, _, _, _ => none
 | k + 1, x0, x1, x5 => if x5 < (x0.length : Int) then (if 0 ≤ x5 then (if (rd x0 x5) = x1 then (laws_heldInt64S.l0 k x0 (wrap64 (x1 + 1)) (wrap64 (x5 + 1))) else (some (-1))) else (none)) else (some x1)
def laws_heldInt64S.f (k : Nat) (l0 : List Int) (a1 : Int) : Option (Int) := laws_heldInt64S.l0 k l0 a1 0
set_option maxHeartbeats 8000000 in
set_option maxRecDepth 100000 in
theorem laws_heldInt64S.calls (k : Nat) (A0 : Option Addr) (c0 : Nat) (l0 : List Int) (a1 : Int) (r : Int) (w : World) (hr0 : Kd.C (Kd.int .i64) w A0 l0.length l0) (hc0 : l0.length ≤ c0) (h : laws_heldInt64S.f k l0 a1 = some r) :
  Calls Tryd.prog 27 #[.slice A0 l0.length c0, .int .i64 a1] w fun e w' => e = .returned (.int .i64 r) ∧ Drawn0 w w' := by
 have HR0 := Aside0.mk hr0
 have HC0 := Aside0.mk hc0
 clear hr0 hc0
 have H : (laws_heldInt64S.l0 k l0 a1 0) = some r := h
 clear h
 have H' := Aside0.mk H
 clear H
 go_enter Tryd.func27, Tryd.ntmps27
 go_wp2
 go_loopg [1, 5] k (fun kq v1 v5 w' => ∃ (x1_1 : Int) (x5_1 : Int), v1 = .int .i64 x1_1 ∧ v5 = .int .i64 x5_1 ∧ Aside0 (laws_heldInt64S.l0 kq l0 x1_1 x5_1 = some r) ∧ Aside0 (kq ≤ k) ∧ Drawn0 w w')
 case atStart => exact ⟨(a1), (0), (by first | rfl | (simp; done) | (simp [*]; done)), (by first | rfl | (simp; done) | (simp [*]; done)), H', ⟨Nat.le_refl _⟩, by repeat (first | exact Drawn0.refl _ | apply Drawn0.step)⟩
 case round =>
  clear H'
  try clear c2
  try clear p2
  obtain ⟨x1_1, x5_1, rfl, rfl, HA, HK1, ⟨m1, rfl⟩⟩ := hrel
  cases gk with
  | zero => exact absurd HA.out (by simp [laws_heldInt64S.l0])
  | succ k1 =>
   have H := HA.out
   clear HA
   simp only [laws_heldInt64S.l0] at H
   by_cases c3 : x5_1 < (l0.length : Int)
   ·rw [if_pos c3] at H
    have c3b0 : decide (x5_1 < (l0.length : Int)) = true := decide_eq_true c3
    clear c3
    by_cases c4 : 0 ≤ x5_1
    ·rw [if_pos c4] at H
     have c4b0 : decide (0 ≤ x5_1) = true := decide_eq_true c4
     clear c4
     by_cases c5 : (rd l0 x5_1) = x1_1
     ·rw [if_pos c5] at H
      have c5b0 : ((rd l0 x5_1) == x1_1) = true := beq_iff_eq.mpr c5
      have c5b1 : ((rd l0 x5_1) != x1_1) = false := bne_eq_false_iff_eq.mpr c5
      clear c5
      have H' := Aside0.mk H
      clear H
      have p432 : 0 ≤ (x5_1 : Int) := of_decide_eq_true (by first | (with_reducible assumption) | assumption)
      have q432 : x5_1 < (l0.length : Int) := of_decide_eq_true (by first | (with_reducible assumption) | assumption)
      obtain ⟨ad432, e432, hx432_0⟩ := Kd.at_int HR0.out x5_1 p432 q432
      cases e432
      replace p432 := eq_true p432
      replace q432 := eq_true q432
      go_wp2
      go_roundg k1
      case measure => have := HK1.out; omega
      case rel => exact ⟨(wrap64 (x1_1 + 1)), (wrap64 (x5_1 + 1)), (by first | rfl | (simp; done) | (simp [*]; done)), (by first | rfl | (simp; done) | (simp [*]; done)), H', ⟨by have := HK1.out; omega⟩, by repeat (first | exact Drawn0.refl _ | apply Drawn0.step)⟩
     ·rw [if_neg c5] at H
      have c5b0 : ((rd l0 x5_1) == x1_1) = false := beq_eq_false_iff_ne.mpr c5
      have c5b1 : ((rd l0 x5_1) != x1_1) = true := bne_iff_ne.mpr c5
      obtain rfl := Option.some.inj H
      have p432 : 0 ≤ (x5_1 : Int) := of_decide_eq_true (by first | (with_reducible assumption) | assumption)
      have q432 : x5_1 < (l0.length : Int) := of_decide_eq_true (by first | (with_reducible assumption) | assumption)
      obtain ⟨ad432, e432, hx432_0⟩ := Kd.at_int HR0.out x5_1 p432 q432
      cases e432
      replace p432 := eq_true p432
      replace q432 := eq_true q432
      go_wp2
      go_ret
      exact ⟨by first | rfl | (simp; done) | (simp [*]; done), by repeat (first | exact Drawn0.refl _ | apply Drawn0.step)⟩
    ·rw [if_neg c4] at H
     exact absurd H (by simp)
   ·rw [if_neg c3] at H
    have c3b0 : decide (x5_1 < (l0.length : Int)) = false := decide_eq_false c3
    clear c3
    obtain rfl := Option.some.inj H
    go_wp2
    go_ret
    exact ⟨by first | rfl | (simp; done) | (simp [*]; done), by repeat (first | exact Drawn0.refl _ | apply Drawn0.step)⟩
end Go.Proofs.YtalkmhnlgfncmaaDoor.X
end
section
namespace Go.Proofs.YtalkmhnlgfncmaaDoor.X
open Go.RowKit Go.Proofs.YtalkmhnlgfncmaaDoorW.PrintWords Go.Proofs.YtalkmhnlgfncmaaDoorW.PrintLast Go.Proofs.YtalkmhnlgfncmaaDoorW.PrintMore
theorem w64 {n : Int} (h0 : -9223372036854775808 ≤ n) (h1 : n ≤ 9223372036854775807) : wrap64 n = n := by unfold wrap64; omega
theorem rd_nat (l : List Int) (i : Nat) (h : i < l.length) : rd l (i : Int) = l[i] := by
  unfold rd
  simp [h]
def iota (m : Int) (n : Nat) : List Int := (List.range n).map fun (i : Nat) => m + (i : Int)
theorem iota_len (m : Int) (n : Nat) : (iota m n).length = n := by simp [iota]
theorem iota_get (m : Int) (n i : Nat) (h : i < n) : (iota m n)[i]? = some (m + (i : Int)) := by simp [iota, h]
theorem eq_loop (l : List Int) (hl : l.length ≤ 4000000) : ∀ (d k i : Nat), i + d = l.length → d < k → laws_eqInt64S.l0 k l l i = some true
  | 0, k, i, hi, hk => by
    cases k with
    | zero => omega
    | succ k => rw [laws_eqInt64S.l0, if_neg (by omega)]
  | d + 1, k, i, hi, hk => by
    cases k with
    | zero => omega
    | succ k =>
      have ih := eq_loop l hl d k (i + 1) (by omega) (by omega)
      rw [laws_eqInt64S.l0, if_pos (by omega), if_pos (by omega), if_pos (by omega), if_pos rfl, w64 (by omega) (by omega)]
      rw [Int.natCast_add, Int.natCast_one] at ih
      exact ih
theorem eqInt64S_refl (k : Nat) (l : List Int) (hl : l.length ≤ 4000000) (hk : l.length < k) : laws_eqInt64S.f k l l = some true := by
  unfold laws_eqInt64S.f
  rw [if_pos rfl]
  exact eq_loop l hl l.length k 0 (by omega) hk
theorem mark_loop (m : Int) (n : Nat) (hm : 0 ≤ m) (hm2 : m ≤ 1000000000) (hn : n ≤ 4000000) : ∀ (d k i : Nat) (x : List Int), x.length = n → i + d = n → d < k → (∀ j, j < i → x[j]? = some (m + (j : Int))) →
    laws_markInt64S.l0 k x (m + (i : Int)) i = some (m + (n : Int), iota m n)
  | 0, k, i, x, hx, hi, hk, hj => by
    cases k with
    | zero => omega
    | succ k =>
      have e : x = iota m n := by
        apply List.ext_getElem?
        intro j
        rcases Nat.lt_or_ge j n with h | h
        · rw [hj j (by omega), iota_get m n j h]
        · rw [List.getElem?_eq_none (by omega), List.getElem?_eq_none (by rw [iota_len]; omega)]
      rw [laws_markInt64S.l0, if_neg (by omega), e, show i = n by omega]
  | d + 1, k, i, x, hx, hi, hk, hj => by
    cases k with
    | zero => omega
    | succ k =>
      have ih := mark_loop m n hm hm2 hn d k (i + 1) (x.set i (m + (i : Int))) (by simpa using hx) (by omega) (by omega) (by
        intro j hlt
        rw [List.getElem?_set]
        by_cases h : i = j
        · subst h; rw [if_pos rfl, if_pos (by omega)]
        · rw [if_neg h]; exact hj j (by omega))
      rw [laws_markInt64S.l0, if_pos (by omega), if_pos (by omega), w64 (n := m + (i : Int) + 1) (by omega) (by omega), w64 (n := (i : Int) + 1) (by omega) (by omega)]
      rw [Int.natCast_add, Int.natCast_one, ← Int.add_assoc] at ih
      exact ih
theorem markInt64S_eq (k : Nat) (l : List Int) (m : Int) (hm : 0 ≤ m) (hm2 : m ≤ 1000000000) (hl : l.length ≤ 4000000) (hk : l.length < k) :
    laws_markInt64S.f k l m = some (m + (l.length : Int), iota m l.length) := by
  unfold laws_markInt64S.f
  have h := mark_loop m l.length hm hm2 hl l.length k 0 l rfl (by omega) hk (fun j h => absurd h (by omega))
  simpa using h
theorem held_loop (m : Int) (n : Nat) (hm : 0 ≤ m) (hm2 : m ≤ 1000000000) (hn : n ≤ 4000000) : ∀ (d k i : Nat), i + d = n → d < k →
    laws_heldInt64S.l0 k (iota m n) (m + (i : Int)) i = some (m + (n : Int))
  | 0, k, i, hi, hk => by
    cases k with
    | zero => omega
    | succ k => rw [laws_heldInt64S.l0, if_neg (by rw [iota_len]; omega), show i = n by omega]
  | d + 1, k, i, hi, hk => by
    cases k with
    | zero => omega
    | succ k =>
      have ih := held_loop m n hm hm2 hn d k (i + 1) (by omega) (by omega)
      have e : rd (iota m n) (i : Int) = m + (i : Int) := by rw [rd_nat _ _ (by rw [iota_len]; omega)]; simp [iota]
      rw [laws_heldInt64S.l0, if_pos (by rw [iota_len]; omega), if_pos (by omega), if_pos e, w64 (n := m + (i : Int) + 1) (by omega) (by omega), w64 (n := (i : Int) + 1) (by omega) (by omega)]
      rw [Int.natCast_add, Int.natCast_one, ← Int.add_assoc] at ih
      exact ih
theorem heldInt64S_eq (k : Nat) (m : Int) (n : Nat) (hm : 0 ≤ m) (hm2 : m ≤ 1000000000) (hn : n ≤ 4000000) (hk : n < k) : laws_heldInt64S.f k (iota m n) m = some (m + (n : Int)) := by
  unfold laws_heldInt64S.f
  have h := held_loop m n hm hm2 hn n k 0 (by omega) hk
  simpa using h
end Go.Proofs.YtalkmhnlgfncmaaDoor.X
end
section
namespace Go.Proofs.YtalkmhnlgfncmaaDoor.X
open Go.RowKit Go.Proofs.YtalkmhnlgfncmaaDoorW.PrintWords Go.Proofs.YtalkmhnlgfncmaaDoorW.PrintLast Go.Proofs.YtalkmhnlgfncmaaDoorW.PrintMore
theorem to_below_d {w w' : World} (h : Drawn0 w w') : Below w.heap.size w w' := h.below
theorem to_below_b {w w' : World} (h : Below w.heap.size w w') : Below w.heap.size w w' := h
section
variable {P : Program} {ops : Array Oper} {Q : Exit → Act → World → Prop}
theorem goesV_ {rest : List Oper} {oi : Oper} {a : Act} {w : World} (N : Option Tmp) (hd : oi.dst = N) (hg : oi.guard = none) {f : FuncId} {fn : Func} {caps : Array Value} {x : Operand} {zs : Array Operand} {ts : Array TypeId} (hf : P.funcs[f]? = some fn) (hname : (fn.name == "runtime.NumGoroutine") = false) (hb : fn.body.isSome = true) (args : Array Value)
    (hop : oi.op = .call { callee := .value x, args := zs, argTypes := ts }) (hx : a.eval x = .func (.func f) #[] caps) (hargs : zs.map a.eval = args)
    (h : Calls P f (args ++ caps) w fun e w' => ∃ v, e = .returned v ∧ wpList P ops Q rest (a.put N v) w') : wpList P ops Q (oi :: rest) a w := by
  refine wpList_plain hg fun K hK => ?_
  have he := enters_ hf hname hb (args ++ caps) w
  have hrun : (execOp a.eval oi).run P w = .ok (.enter f (args ++ caps)) w := by
    unfold execOp
    simp [hop, resolve, Deferred.ofValue, invoke, hx, hargs, he]
  unfold Oper.wp
  rw [hrun, Oper.upon_enter]
  refine h.mono fun e w'' hh => ?_
  obtain ⟨v, rfl, hk⟩ := hh
  subst hd
  exact hK _ _ hk
end
structure CloIs (P : Program) (f : Nat) (fn : Func) : Prop where
  hf : P.funcs[f]? = some fn
  hname : (fn.name == "runtime.NumGoroutine") = false
  hb : fn.body.isSome = true
end Go.Proofs.YtalkmhnlgfncmaaDoor.X
end
section
-- Written by a program of this session out of the kit's print of the loaded functions: a plain function of a Go function, and its contract.
namespace Go.Proofs.YtalkmhnlgfncmaaDoor.X
open Go.RowKit Go.Proofs.YtalkmhnlgfncmaaDoorW.PrintWords Go.Proofs.YtalkmhnlgfncmaaDoorW.PrintLast Go.Proofs.YtalkmhnlgfncmaaDoorW.PrintMore
attribute [local go_sem] max2_int min2_int max_two min_two max_three min_three max_four min_four   -- for this text's walks alone
set_option linter.unusedVariables false
set_option linter.unusedSimpArgs false
class C_slices_IndexFunc_int64_int64 where
 f : Int → Option Bool
section
variable [C_slices_IndexFunc_int64_int64]
def slices_IndexFunc_int64_int64.l0 : Nat → List Int → Int → Int → Option (Int)
 | 0, _, _, _ => none
 | k + 1, x0, x7, x8 => if x8 < x7 then (if 0 ≤ x8 then (if x8 < (x0.length : Int) then ((C_slices_IndexFunc_int64_int64.f (rd x0 x8)).bind fun t222 => (if t222 = true then (some x8) else (slices_IndexFunc_int64_int64.l0 k x0 x7 (wrap64 (x8 + 1))))) else (none)) else (none)) else (some (-1))
def slices_IndexFunc_int64_int64.f (k : Nat) (l0 : List Int) (a1 : Int) : Option (Int) := slices_IndexFunc_int64_int64.l0 k l0 (l0.length : Int) 0
set_option maxHeartbeats 8000000 in
set_option maxRecDepth 100000 in
theorem slices_IndexFunc_int64_int64.calls (k : Nat) (A0 : Option Addr) (c0 : Nat) (l0 : List Int) (a1 : Int) (r : Int) (cf : Nat) (cfn : Func) (caps : Array Value) (hcf : CloIs Tryd.prog cf cfn) (w : World) (hcl : ∀ x r W, C_slices_IndexFunc_int64_int64.f x = some r → Below w.heap.size w W → Calls Tryd.prog cf (#[.int .i64 x] ++ caps) W fun e w' => e = .returned (.bool r) ∧ Drawn0 W w') (hr0 : Kd.C (Kd.int .i64) w A0 l0.length l0) (hc0 : l0.length ≤ c0) (h : slices_IndexFunc_int64_int64.f k l0 a1 = some r) :
  Calls Tryd.prog 79 #[.slice A0 l0.length c0, .func (.func cf) #[] caps] w fun e w' => e = .returned (.int .i64 r) ∧ Drawn0 w w' := by
 have HCF := Aside0.mk hcf
 have HCL := Aside0.mk hcl
 clear hcf hcl
 have HR0 := Aside0.mk hr0
 have HC0 := Aside0.mk hc0
 clear hr0 hc0
 have H : (slices_IndexFunc_int64_int64.l0 k l0 (l0.length : Int) 0) = some r := h
 clear h
 have H' := Aside0.mk H
 clear H
 go_enter Tryd.func79, Tryd.ntmps79
 go_wp2
 go_loopg [8] k (fun kq v8 w' => ∃ (x8_1 : Int), v8 = .int .i64 x8_1 ∧ Aside0 (slices_IndexFunc_int64_int64.l0 kq l0 (l0.length : Int) x8_1 = some r) ∧ Aside0 (kq ≤ k) ∧ Drawn0 w w')
 case atStart => exact ⟨(0), (by first | rfl | (simp; done) | (simp [*]; done)), H', ⟨Nat.le_refl _⟩, by repeat (first | exact Drawn0.refl _ | apply Drawn0.step)⟩
 case round =>
  clear H'
  try clear p2
  obtain ⟨x8_1, rfl, HA, HK1, ⟨m1, rfl⟩⟩ := hrel
  cases gk with
  | zero => exact absurd HA.out (by simp [slices_IndexFunc_int64_int64.l0])
  | succ k1 =>
   have H := HA.out
   clear HA
   simp only [slices_IndexFunc_int64_int64.l0] at H
   by_cases c3 : x8_1 < (l0.length : Int)
   ·rw [if_pos c3] at H
    have c3b0 : decide (x8_1 < (l0.length : Int)) = true := decide_eq_true c3
    clear c3
    by_cases c4 : 0 ≤ x8_1
    ·rw [if_pos c4] at H
     have c4b0 : decide (0 ≤ x8_1) = true := decide_eq_true c4
     clear c4
     by_cases c5 : x8_1 < (l0.length : Int)
     ·rw [if_pos c5] at H
      have c5b0 : decide (x8_1 < (l0.length : Int)) = true := decide_eq_true c5
      clear c5
      replace H := Option.bind_eq_some_iff.mp H
      obtain ⟨t222, A60, H⟩ := H
      replace H : (if t222 = true then (some x8_1) else (slices_IndexFunc_int64_int64.l0 k1 l0 (l0.length : Int) (wrap64 (x8_1 + 1)))) = some r := H
      have A6 := Aside0.mk A60
      clear A60
      by_cases c7 : t222 = true
      ·subst c7
       have H1 : (some x8_1) = some r := by rw [if_pos rfl] at H; exact H
       clear H
       have H := H1
       clear H1
       obtain rfl := Option.some.inj H
       have p221 : 0 ≤ (x8_1 : Int) := of_decide_eq_true (by first | (with_reducible assumption) | assumption)
       have q221 : x8_1 < (l0.length : Int) := of_decide_eq_true (by first | (with_reducible assumption) | assumption)
       obtain ⟨ad221, e221, hx221_0⟩ := Kd.at_int HR0.out x8_1 p221 q221
       cases e221
       replace p221 := eq_true p221
       replace q221 := eq_true q221
       go_wp2_with (first | ((with_reducible refine gate_dst (N := 16) rfl ?_); refine goesV_ (some 16) rfl rfl HCF.out.hf HCF.out.hname HCF.out.hb #[.int .i64 (rd l0 x8_1)] rfl rfl (by (try simp only [List.map_toArray, List.map_cons, List.map_nil]); first | done | rfl | (simp only [List.length_drop, List.length_take]; rfl)) ?_; (refine (HCL.out (rd l0 x8_1) true _ A6.out (by repeat (first | (with_reducible first | exact HB.out | apply below_alloc | apply pw_below_drewN | apply below_drew1) | exact HB.out | exact Below.refl _ _))).mono ?_); rintro e w' ⟨rfl, ⟨nd, rfl⟩⟩; refine ⟨_, rfl, ?_⟩))
       go_ret
       exact ⟨by first | rfl | (simp; done) | (simp [*]; done), by repeat (first | exact Drawn0.refl _ | apply Drawn0.step)⟩
      ·replace c7 := Bool.eq_false_iff.mpr c7
       subst c7
       have H1 : (slices_IndexFunc_int64_int64.l0 k1 l0 (l0.length : Int) (wrap64 (x8_1 + 1))) = some r := by rw [if_neg (show ¬ (false = true) by decide)] at H; exact H
       clear H
       have H := H1
       clear H1
       have H' := Aside0.mk H
       clear H
       have p221 : 0 ≤ (x8_1 : Int) := of_decide_eq_true (by first | (with_reducible assumption) | assumption)
       have q221 : x8_1 < (l0.length : Int) := of_decide_eq_true (by first | (with_reducible assumption) | assumption)
       obtain ⟨ad221, e221, hx221_0⟩ := Kd.at_int HR0.out x8_1 p221 q221
       cases e221
       replace p221 := eq_true p221
       replace q221 := eq_true q221
       go_wp2_with (first | ((with_reducible refine gate_dst (N := 16) rfl ?_); refine goesV_ (some 16) rfl rfl HCF.out.hf HCF.out.hname HCF.out.hb #[.int .i64 (rd l0 x8_1)] rfl rfl (by (try simp only [List.map_toArray, List.map_cons, List.map_nil]); first | done | rfl | (simp only [List.length_drop, List.length_take]; rfl)) ?_; (refine (HCL.out (rd l0 x8_1) false _ A6.out (by repeat (first | (with_reducible first | exact HB.out | apply below_alloc | apply pw_below_drewN | apply below_drew1) | exact HB.out | exact Below.refl _ _))).mono ?_); rintro e w' ⟨rfl, ⟨nd, rfl⟩⟩; refine ⟨_, rfl, ?_⟩))
       go_roundg k1
       case measure => have := HK1.out; omega
       case rel => exact ⟨(wrap64 (x8_1 + 1)), (by first | rfl | (simp; done) | (simp [*]; done)), H', ⟨by have := HK1.out; omega⟩, by repeat (first | exact Drawn0.refl _ | apply Drawn0.step)⟩
     ·rw [if_neg c5] at H
      exact absurd H (by simp)
    ·rw [if_neg c4] at H
     exact absurd H (by simp)
   ·rw [if_neg c3] at H
    have c3b0 : decide (x8_1 < (l0.length : Int)) = false := decide_eq_false c3
    clear c3
    obtain rfl := Option.some.inj H
    go_wp2
    go_ret
    exact ⟨by first | rfl | (simp; done) | (simp [*]; done), by repeat (first | exact Drawn0.refl _ | apply Drawn0.step)⟩
end
end Go.Proofs.YtalkmhnlgfncmaaDoor.X
end
section
-- Written by a program of this session out of the kit's print of the loaded functions: a plain function of a Go function, and its contract.
namespace Go.Proofs.YtalkmhnlgfncmaaDoor.X
open Go.RowKit Go.Proofs.YtalkmhnlgfncmaaDoorW.PrintWords Go.Proofs.YtalkmhnlgfncmaaDoorW.PrintLast Go.Proofs.YtalkmhnlgfncmaaDoorW.PrintMore
attribute [local go_sem] max2_int min2_int max_two min_two max_three min_three max_four min_four   -- for this text's walks alone
set_option linter.unusedVariables false
set_option linter.unusedSimpArgs false
def impl_within.f (a0 : Int) (a1 : Int) (a2 : Int) : Option (Bool) := if a0 ≥ a1 then (some (decide (a0 ≤ a2))) else (some false)
set_option maxHeartbeats 8000000 in
set_option maxRecDepth 100000 in
theorem impl_within.calls (a0 : Int) (a1 : Int) (a2 : Int) (r : Bool) (w : World) (h : impl_within.f a0 a1 a2 = some r) :
  Calls Tryd.prog 59 #[.int .i64 a0, .int .i64 a1, .int .i64 a2] w fun e w' => e = .returned (.bool r) ∧ Drawn0 w w' := by
 have H : (if a0 ≥ a1 then (some (decide (a0 ≤ a2))) else (some false)) = some r := h
 clear h
 by_cases c4 : a0 ≥ a1
 ·rw [if_pos c4] at H
  have c4b0 : decide (a1 ≤ a0) = true := decide_eq_true c4
  clear c4
  obtain rfl := Option.some.inj H
  go_enter Tryd.func59, Tryd.ntmps59
  go_wp2
  go_ret
  exact ⟨by first | rfl | (simp; done) | (simp [*]; done), by repeat (first | exact Drawn0.refl _ | apply Drawn0.step)⟩
 ·rw [if_neg c4] at H
  have c4b0 : decide (a1 ≤ a0) = false := decide_eq_false c4
  clear c4
  obtain rfl := Option.some.inj H
  go_enter Tryd.func59, Tryd.ntmps59
  go_wp2
  go_ret
  exact ⟨by first | rfl | (simp; done) | (simp [*]; done), by repeat (first | exact Drawn0.refl _ | apply Drawn0.step)⟩
end Go.Proofs.YtalkmhnlgfncmaaDoor.X
end
section
-- Written by a program of this session out of the kit's print of the loaded functions: a plain function of a Go function, and its contract.
namespace Go.Proofs.YtalkmhnlgfncmaaDoor.X
open Go.RowKit Go.Proofs.YtalkmhnlgfncmaaDoorW.PrintWords Go.Proofs.YtalkmhnlgfncmaaDoorW.PrintLast Go.Proofs.YtalkmhnlgfncmaaDoorW.PrintMore
attribute [local go_sem] max2_int min2_int max_two min_two max_three min_three max_four min_four   -- for this text's walks alone
set_option linter.unusedVariables false
set_option linter.unusedSimpArgs false
def impl_isDelay.f (a0 : Int) : Option (Bool) := (impl_within.f a0 0 100).bind fun t470 => (some t470)
set_option maxHeartbeats 8000000 in
set_option maxRecDepth 100000 in
theorem impl_isDelay.calls (a0 : Int) (r : Bool) (w : World) (h : impl_isDelay.f a0 = some r) :
  Calls Tryd.prog 62 #[.int .i64 a0] w fun e w' => e = .returned (.bool r) ∧ Drawn0 w w' := by
 have H : ((impl_within.f a0 0 100).bind fun t470 => (some t470)) = some r := h
 clear h
 replace H := Option.bind_eq_some_iff.mp H
 obtain ⟨t470, A20, H⟩ := H
 replace H : (some t470) = some r := H
 have A2 := Aside0.mk A20
 clear A20
 obtain rfl := Option.some.inj H
 go_enter Tryd.func62, Tryd.ntmps62
 go_wp2_with (first | ((with_reducible refine gate_callee (f := 59) rfl ?_); refine goesL_ (some 4) rfl rfl Tryd.func59 (by kernel_rfl) rfl #[.int .i64 a0, .int .i64 0, .int .i64 100] rfl (by (try simp only [List.map_toArray, List.map_cons, List.map_nil]); first | done | rfl | (simp only [List.length_drop, List.length_take]; rfl)) ?_; (with_reducible refine (impl_within.calls a0 0 100 t470 _ A2.out).mono ?_); rintro e w' ⟨rfl, ⟨nd, rfl⟩⟩; refine ⟨_, rfl, ?_⟩))
 go_ret
 exact ⟨by first | rfl | (simp; done) | (simp [*]; done), by repeat (first | exact Drawn0.refl _ | apply Drawn0.step)⟩
end Go.Proofs.YtalkmhnlgfncmaaDoor.X
end
section
-- Written by a program of this session out of the kit's print of the loaded functions: a plain function of a Go function, and its contract.
namespace Go.Proofs.YtalkmhnlgfncmaaDoor.X
open Go.RowKit Go.Proofs.YtalkmhnlgfncmaaDoorW.PrintWords Go.Proofs.YtalkmhnlgfncmaaDoorW.PrintLast Go.Proofs.YtalkmhnlgfncmaaDoorW.PrintMore
attribute [local go_sem] max2_int min2_int max_two min_two max_three min_three max_four min_four   -- for this text's walks alone
set_option linter.unusedVariables false
set_option linter.unusedSimpArgs false
class C_impl_Wire_80 where
 f : Int → Int → Int → Option Bool
section
variable [C_impl_Wire_80]
def impl_Wire_80.l0 : Nat → List (S43) → Int → Int → Option (Int)
 | 0, _, _, _ => none
 | k + 1, x0, x7, x8 => if x8 < x7 then (if 0 ≤ x8 then (if x8 < (x0.length : Int) then ((C_impl_Wire_80.f ((rd_T43 x0 x8).f0) ((rd_T43 x0 x8).f1) ((rd_T43 x0 x8).f2)).bind fun t224 => (if t224 = true then (some x8) else (impl_Wire_80.l0 k x0 x7 (wrap64 (x8 + 1))))) else (none)) else (none)) else (some (-1))
def impl_Wire_80.f (k : Nat) (l0 : List (S43)) (a1 : Int) : Option (Int) := impl_Wire_80.l0 k l0 (l0.length : Int) 0
set_option maxHeartbeats 8000000 in
set_option maxRecDepth 100000 in
theorem impl_Wire_80.calls (k : Nat) (A0 : Option Addr) (c0 : Nat) (l0 : List (S43)) (a1 : Int) (r : Int) (cf : Nat) (cfn : Func) (caps : Array Value) (hcf : CloIs Tryd.prog cf cfn) (w : World) (hcl : ∀ x0 x1 x2 r W, C_impl_Wire_80.f x0 x1 x2 = some r → Below w.heap.size w W → Calls Tryd.prog cf (#[.agg #[.int .i64 x0, .int .i64 x1, .int .i64 x2]] ++ caps) W fun e w' => e = .returned (.bool r) ∧ Below W.heap.size W w') (hr0 : Kd.C k43 w A0 l0.length l0) (hc0 : l0.length ≤ c0) (h : impl_Wire_80.f k l0 a1 = some r) :
  Calls Tryd.prog 80 #[.slice A0 l0.length c0, .func (.func cf) #[] caps] w fun e w' => e = .returned (.int .i64 r) ∧ Below w.heap.size w w' := by
 have HCF := Aside0.mk hcf
 have HCL := Aside0.mk hcl
 clear hcf hcl
 have hu43 := Tryd.underlying43
 have HR0 := Aside0.mk hr0
 have HC0 := Aside0.mk hc0
 clear hr0 hc0
 have HB := Aside0.mk (Below.refl w.heap.size w)
 have H : (impl_Wire_80.l0 k l0 (l0.length : Int) 0) = some r := h
 clear h
 have H' := Aside0.mk H
 clear H
 go_enter Tryd.func80, Tryd.ntmps80
 go_wp2
 go_loopg [8] k (fun kq v8 w' => ∃ (x8_1 : Int), v8 = .int .i64 x8_1 ∧ Aside0 (impl_Wire_80.l0 kq l0 (l0.length : Int) x8_1 = some r) ∧ Aside0 (kq ≤ k) ∧ Aside0 (Below w.heap.size w w'))
 case atStart => exact ⟨(0), (by first | rfl | (simp; done) | (simp [*]; done)), H', ⟨Nat.le_refl _⟩, ⟨by repeat (first | (with_reducible first | exact HB.out | apply below_alloc | apply pw_below_drewN | apply below_drew1) | exact HB.out)⟩⟩
 case round =>
  clear H'
  try clear p2
  obtain ⟨x8_1, rfl, HA, HK1, HB⟩ := hrel
  cases gk with
  | zero => exact absurd HA.out (by simp [impl_Wire_80.l0])
  | succ k1 =>
   have H := HA.out
   clear HA
   simp only [impl_Wire_80.l0] at H
   by_cases c3 : x8_1 < (l0.length : Int)
   ·rw [if_pos c3] at H
    have c3b0 : decide (x8_1 < (l0.length : Int)) = true := decide_eq_true c3
    clear c3
    by_cases c4 : 0 ≤ x8_1
    ·rw [if_pos c4] at H
     have c4b0 : decide (0 ≤ x8_1) = true := decide_eq_true c4
     clear c4
     by_cases c5 : x8_1 < (l0.length : Int)
     ·rw [if_pos c5] at H
      have c5b0 : decide (x8_1 < (l0.length : Int)) = true := decide_eq_true c5
      clear c5
      replace H := Option.bind_eq_some_iff.mp H
      obtain ⟨t224, A60, H⟩ := H
      replace H : (if t224 = true then (some x8_1) else (impl_Wire_80.l0 k1 l0 (l0.length : Int) (wrap64 (x8_1 + 1)))) = some r := H
      have A6 := Aside0.mk A60
      clear A60
      by_cases c7 : t224 = true
      ·subst c7
       have H1 : (some x8_1) = some r := by rw [if_pos rfl] at H; exact H
       clear H
       have H := H1
       clear H1
       obtain rfl := Option.some.inj H
       have p223 : 0 ≤ (x8_1 : Int) := of_decide_eq_true (by first | (with_reducible assumption) | assumption)
       have q223 : x8_1 < (l0.length : Int) := of_decide_eq_true (by first | (with_reducible assumption) | assumption)
       obtain ⟨ad223, e223, hx223_0, hx223_1, hx223_2⟩ := at_T43 HR0.out x8_1 p223 q223
       cases e223
       replace hx223_0 := (HB.out.cell (World.block_lt_of_cell? w _ hx223_0)).trans hx223_0
       replace hx223_1 := (HB.out.cell (World.block_lt_of_cell? w _ hx223_1)).trans hx223_1
       replace hx223_2 := (HB.out.cell (World.block_lt_of_cell? w _ hx223_2)).trans hx223_2
       replace p223 := eq_true p223
       replace q223 := eq_true q223
       go_wp2_with (first | ((with_reducible refine gate_dst (N := 16) rfl ?_); refine goesV_ (some 16) rfl rfl HCF.out.hf HCF.out.hname HCF.out.hb #[.agg #[.int .i64 ((rd_T43 l0 x8_1).f0), .int .i64 ((rd_T43 l0 x8_1).f1), .int .i64 ((rd_T43 l0 x8_1).f2)]] rfl rfl (by (try simp only [List.map_toArray, List.map_cons, List.map_nil]); first | done | rfl | (simp only [List.length_drop, List.length_take]; rfl)) ?_; (refine (HCL.out ((rd_T43 l0 x8_1).f0) ((rd_T43 l0 x8_1).f1) ((rd_T43 l0 x8_1).f2) true _ A6.out (by repeat (first | (with_reducible first | exact HB.out | apply below_alloc | apply pw_below_drewN | apply below_drew1) | exact HB.out | exact Below.refl _ _))).mono ?_); rintro e w8 ⟨rfl, hb⟩; refine ⟨_, rfl, ?_⟩; have n0_ := Aside0.mk (below_step (by repeat (first | (with_reducible first | exact HB.out | apply below_alloc | apply pw_below_drewN | apply below_drew1) | exact HB.out)) hb); clear HB; have HB := n0_; clear n0_; (try clear hb); (try clear hb2); (try clear hk); (try clear hi)))
       go_ret
       exact ⟨by first | rfl | (simp [errW_none, errW_some] <;> rfl) | (simp [*, errW_none, errW_some] <;> rfl), by repeat (first | (with_reducible first | exact HB.out | apply below_alloc | apply pw_below_drewN | apply below_drew1) | exact HB.out)⟩
      ·replace c7 := Bool.eq_false_iff.mpr c7
       subst c7
       have H1 : (impl_Wire_80.l0 k1 l0 (l0.length : Int) (wrap64 (x8_1 + 1))) = some r := by rw [if_neg (show ¬ (false = true) by decide)] at H; exact H
       clear H
       have H := H1
       clear H1
       have H' := Aside0.mk H
       clear H
       have p223 : 0 ≤ (x8_1 : Int) := of_decide_eq_true (by first | (with_reducible assumption) | assumption)
       have q223 : x8_1 < (l0.length : Int) := of_decide_eq_true (by first | (with_reducible assumption) | assumption)
       obtain ⟨ad223, e223, hx223_0, hx223_1, hx223_2⟩ := at_T43 HR0.out x8_1 p223 q223
       cases e223
       replace hx223_0 := (HB.out.cell (World.block_lt_of_cell? w _ hx223_0)).trans hx223_0
       replace hx223_1 := (HB.out.cell (World.block_lt_of_cell? w _ hx223_1)).trans hx223_1
       replace hx223_2 := (HB.out.cell (World.block_lt_of_cell? w _ hx223_2)).trans hx223_2
       replace p223 := eq_true p223
       replace q223 := eq_true q223
       go_wp2_with (first | ((with_reducible refine gate_dst (N := 16) rfl ?_); refine goesV_ (some 16) rfl rfl HCF.out.hf HCF.out.hname HCF.out.hb #[.agg #[.int .i64 ((rd_T43 l0 x8_1).f0), .int .i64 ((rd_T43 l0 x8_1).f1), .int .i64 ((rd_T43 l0 x8_1).f2)]] rfl rfl (by (try simp only [List.map_toArray, List.map_cons, List.map_nil]); first | done | rfl | (simp only [List.length_drop, List.length_take]; rfl)) ?_; (refine (HCL.out ((rd_T43 l0 x8_1).f0) ((rd_T43 l0 x8_1).f1) ((rd_T43 l0 x8_1).f2) false _ A6.out (by repeat (first | (with_reducible first | exact HB.out | apply below_alloc | apply pw_below_drewN | apply below_drew1) | exact HB.out | exact Below.refl _ _))).mono ?_); rintro e w9 ⟨rfl, hb⟩; refine ⟨_, rfl, ?_⟩; have n0_ := Aside0.mk (below_step (by repeat (first | (with_reducible first | exact HB.out | apply below_alloc | apply pw_below_drewN | apply below_drew1) | exact HB.out)) hb); clear HB; have HB := n0_; clear n0_; (try clear hb); (try clear hb2); (try clear hk); (try clear hi)))
       go_roundg k1
       case measure => have := HK1.out; omega
       case rel => exact ⟨(wrap64 (x8_1 + 1)), (by first | rfl | (simp; done) | (simp [*]; done)), H', ⟨by have := HK1.out; omega⟩, ⟨by repeat (first | (with_reducible first | exact HB.out | apply below_alloc | apply pw_below_drewN | apply below_drew1) | exact HB.out)⟩⟩
     ·rw [if_neg c5] at H
      exact absurd H (by simp)
    ·rw [if_neg c4] at H
     exact absurd H (by simp)
   ·rw [if_neg c3] at H
    have c3b0 : decide (x8_1 < (l0.length : Int)) = false := decide_eq_false c3
    clear c3
    obtain rfl := Option.some.inj H
    go_wp2
    go_ret
    exact ⟨by first | rfl | (simp [errW_none, errW_some] <;> rfl) | (simp [*, errW_none, errW_some] <;> rfl), by repeat (first | (with_reducible first | exact HB.out | apply below_alloc | apply pw_below_drewN | apply below_drew1) | exact HB.out)⟩
end
end Go.Proofs.YtalkmhnlgfncmaaDoor.X
end
section
namespace Go.Proofs.YtalkmhnlgfncmaaDoor.X
open Go.RowKit Go.Proofs.YtalkmhnlgfncmaaDoorW.PrintWords Go.Proofs.YtalkmhnlgfncmaaDoorW.PrintLast Go.Proofs.YtalkmhnlgfncmaaDoorW.PrintMore
set_option linter.unusedVariables false
set_option linter.unusedSimpArgs false
theorem drawn_trans {a b c : World} (h : Drawn0 a b) (k : Drawn0 b c) : Drawn0 a c := by
  obtain ⟨m, rfl⟩ := h
  obtain ⟨n, rfl⟩ := k
  exact ⟨m + n, by simp [World.drewN, Nat.add_assoc]⟩
set_option maxHeartbeats 4000000 in
set_option maxRecDepth 100000 in
theorem has76 [C_slices_IndexFunc_int64_int64] (k : Nat) (A : Option Addr) (c : Nat) (l : List Int) (r : Int) (cf : Nat) (cfn : Func) (caps : Array Value) (hcf : CloIs Tryd.prog cf cfn) (w : World)
    (hcl : ∀ x r W, C_slices_IndexFunc_int64_int64.f x = some r → Below w.heap.size w W → Calls Tryd.prog cf (#[.int .i64 x] ++ caps) W fun e w' => e = .returned (.bool r) ∧ Drawn0 W w')
    (hr : Kd.C (Kd.int .i64) w A l.length l) (hc : l.length ≤ c) (h : slices_IndexFunc_int64_int64.f k l 0 = some r) :
    Calls Tryd.prog 60 #[.slice A l.length c, .func (.func cf) #[] caps] w fun e w' => e = .returned (.bool (decide (r ≥ 0))) ∧ Drawn0 w w' := by
  have H := Aside0.mk h
  have HR := Aside0.mk hr
  have HC := Aside0.mk hc
  have HF := Aside0.mk hcf
  have HL := Aside0.mk hcl
  clear h hr hc hcf hcl
  have HD := Aside0.mk (Drawn0.refl w)
  go_enter Tryd.func60, Tryd.ntmps60
  go_wp2_with (first
    | (go_at_call 79; refine (slices_IndexFunc_int64_int64.calls k A c l 0 r cf cfn caps HF.out _ HL.out HR.out HC.out H.out).mono ?_; rintro e wn ⟨rfl, hb⟩; have n0_ := Aside0.mk (drawn_trans HD.out hb); clear HD hb; have HD := n0_; clear n0_))
  go_ret
  exact ⟨rfl, HD.out⟩
set_option maxHeartbeats 4000000 in
set_option maxRecDepth 100000 in
theorem has83 [C_impl_Wire_80] (k : Nat) (A : Option Addr) (c : Nat) (l : List S43) (r : Int) (cf : Nat) (cfn : Func) (caps : Array Value) (hcf : CloIs Tryd.prog cf cfn) (w : World)
    (hcl : ∀ x0 x1 x2 r W, C_impl_Wire_80.f x0 x1 x2 = some r → Below w.heap.size w W → Calls Tryd.prog cf (#[.agg #[.int .i64 x0, .int .i64 x1, .int .i64 x2]] ++ caps) W fun e w' => e = .returned (.bool r) ∧ Below W.heap.size W w')
    (hr : Kd.C k43 w A l.length l) (hc : l.length ≤ c) (h : impl_Wire_80.f k l 0 = some r) :
    Calls Tryd.prog 63 #[.slice A l.length c, .func (.func cf) #[] caps] w fun e w' => e = .returned (.bool (decide (r ≥ 0))) ∧ Below w.heap.size w w' := by
  have H := Aside0.mk h
  have HR := Aside0.mk hr
  have HC := Aside0.mk hc
  have HF := Aside0.mk hcf
  have HL := Aside0.mk hcl
  clear h hr hc hcf hcl
  have HB := Aside0.mk (Below.refl w.heap.size w)
  go_enter Tryd.func63, Tryd.ntmps63
  go_wp2_with (first
    | (go_at_call 80; refine (impl_Wire_80.calls k A c l 0 r cf cfn caps HF.out _ HL.out HR.out HC.out H.out).mono ?_; rintro e wn ⟨rfl, hb⟩; have n0_ := Aside0.mk (below_step HB.out hb); clear HB hb; have HB := n0_; clear n0_))
  go_ret
  exact ⟨rfl, HB.out⟩
abbrev isDelC : C_slices_IndexFunc_int64_int64 := ⟨fun x => (impl_isDelay.f x).bind fun b => some (!b)⟩
set_option maxHeartbeats 4000000 in
set_option maxRecDepth 100000 in
theorem IsDelClo (x : Int) (b : Bool) (w : World) (h : impl_isDelay.f x = some b) : Calls Tryd.prog 61 #[.int .i64 x] w fun e w' => e = .returned (.bool !b) ∧ Drawn0 w w' := by
  have H := Aside0.mk h
  clear h
  have HD := Aside0.mk (Drawn0.refl w)
  go_enter Tryd.func61, Tryd.ntmps61
  go_wp2_with (first
    | (go_at_call 62; (with_reducible refine (impl_isDelay.calls x b _ H.out).mono ?_); rintro e wn ⟨rfl, hb⟩; have n0_ := Aside0.mk (drawn_trans HD.out hb); clear HD hb; have HD := n0_; clear n0_))
  go_ret
  exact ⟨rfl, HD.out⟩
theorem IsDelCl (w : World) : ∀ x r W, isDelC.f x = some r → Below w.heap.size w W → Calls Tryd.prog 61 (#[.int .i64 x] ++ #[]) W fun e w' => e = .returned (.bool r) ∧ Drawn0 W w' := by
  intro x r W hx hW
  obtain ⟨b, hb, hx⟩ := Option.bind_eq_some_iff.mp hx
  obtain rfl := Option.some.inj hx
  exact IsDelClo x b W hb
def badWire (n f t c : Int) : Bool := !(decide (0 ≤ f) && decide (f ≤ n - 1)) || (!(decide (0 ≤ t) && decide (t ≤ n - 1)) || !(decide (0 ≤ c) && decide (c ≤ 20)))
abbrev wireC (n : Int) : C_impl_Wire_80 := ⟨fun f t c => some (badWire n f t c)⟩
theorem within_w (a b c : Int) : impl_within.f a b c = some (decide (b ≤ a) && decide (a ≤ c)) := by
  unfold impl_within.f; by_cases h : a ≥ b <;> simp [h] <;> omega
set_option maxHeartbeats 4000000 in
set_option maxRecDepth 100000 in
theorem WireClo_1 (x0 x1 x2 n : Int) (g1 : Nat) (n0 : 1 ≤ n) (n8 : n ≤ 8) (w : World) (b1 : w.heap[g1]? = some (.cells #[.int .i64 n] 2 (0, 0))) (h1 : impl_within.f x0 0 (n - 1) = some false) :
    Calls Tryd.prog 64 #[.agg #[.int .i64 x0, .int .i64 x1, .int .i64 x2], .pointer (some ⟨g1, 0, none⟩)] w fun e w' => e = .returned (.bool true) ∧ Below w.heap.size w w' := by
  have Hb1 := Aside0.mk b1
  have Hh1 := Aside0.mk h1
  clear b1 h1
  have HB := Aside0.mk (Below.refl w.heap.size w)
  have BK1 := Hb1
  have e1 : IntKind.i64.wrap (n - 1) = n - 1 := IntWalk.i64_in _ ⟨by omega, by omega⟩
  go_enter Tryd.func64, Tryd.ntmps64
  go_wp2_with (first
    | ((with_reducible refine gate_dst (N := 2) rfl ?_); refine box_event ?hg (N := 2) ?hd (cs := #[.int .i64 x0, .int .i64 x1, .int .i64 x2]) (t := 43) ?hr ?_; (case hd => rfl); (case hg => rfl); (case hr => first | (go_simp; done) | (go_simp; rfl)); intro g2 hg wn hbox hb; have GE2 := Aside0.mk (by rw [hg]; exact below_size HB.out : w.heap.size ≤ g2); have hbx := hb; clear hg; have BK20 := Aside0.mk hbox; clear hbox; have n0_ := Aside0.mk (below_step HB.out hb); clear HB  hb; have HB := n0_; clear n0_ ; have BK2 := BK20; clear BK20; have c2_0 : wn.cell? ⟨g2, 0, none⟩ = some (.int .i64 x0) := (blk_cell BK2.out 0).trans rfl; have c2_1 : wn.cell? ⟨g2, 1, none⟩ = some (.int .i64 x1) := (blk_cell BK2.out 1).trans rfl; have c2_2 : wn.cell? ⟨g2, 2, none⟩ = some (.int .i64 x2) := (blk_cell BK2.out 2).trans rfl; have n1_ := Aside0.mk (blk_below BK1.out hbx); clear hbx BK1; have BK1 := n1_; clear n1_; have c1_0 : wn.cell? ⟨g1, 0, none⟩ = some (.int .i64 n) := (blk_cell BK1.out 0).trans rfl)
    | (go_at_call 59; (with_reducible refine (impl_within.calls x0 0 (n - 1) false _ Hh1.out).mono ?_); rintro e wn ⟨rfl, hb0⟩; have hb := to_below_d hb0; have n1_ := Aside0.mk (blk_below BK1.out (hb0.below)); clear hb0; have n0_ := Aside0.mk (below_step HB.out hb); have m2_ := Aside0.mk (blk_below BK2.out hb); clear HB BK2 hb; have HB := n0_; have BK2 := m2_; clear n0_ m2_; have c2_0 : wn.cell? ⟨g2, 0, none⟩ = some (.int .i64 x0) := (blk_cell BK2.out 0).trans rfl; have c2_1 : wn.cell? ⟨g2, 1, none⟩ = some (.int .i64 x1) := (blk_cell BK2.out 1).trans rfl; have c2_2 : wn.cell? ⟨g2, 2, none⟩ = some (.int .i64 x2) := (blk_cell BK2.out 2).trans rfl; clear BK1; have BK1 := n1_; clear n1_; have c1_0 : wn.cell? ⟨g1, 0, none⟩ = some (.int .i64 n) := (blk_cell BK1.out 0).trans rfl))
  go_ret
  exact ⟨rfl, HB.out⟩
set_option maxHeartbeats 4000000 in
set_option maxRecDepth 100000 in
theorem WireClo_2 (x0 x1 x2 n : Int) (g1 : Nat) (n0 : 1 ≤ n) (n8 : n ≤ 8) (w : World) (b1 : w.heap[g1]? = some (.cells #[.int .i64 n] 2 (0, 0))) (h1 : impl_within.f x0 0 (n - 1) = some true) (h2 : impl_within.f x1 0 (n - 1) = some false) :
    Calls Tryd.prog 64 #[.agg #[.int .i64 x0, .int .i64 x1, .int .i64 x2], .pointer (some ⟨g1, 0, none⟩)] w fun e w' => e = .returned (.bool true) ∧ Below w.heap.size w w' := by
  have Hb1 := Aside0.mk b1
  have Hh1 := Aside0.mk h1
  have Hh2 := Aside0.mk h2
  clear b1 h1 h2
  have HB := Aside0.mk (Below.refl w.heap.size w)
  have BK1 := Hb1
  have e1 : IntKind.i64.wrap (n - 1) = n - 1 := IntWalk.i64_in _ ⟨by omega, by omega⟩
  go_enter Tryd.func64, Tryd.ntmps64
  go_wp2_with (first
    | ((with_reducible refine gate_dst (N := 2) rfl ?_); refine box_event ?hg (N := 2) ?hd (cs := #[.int .i64 x0, .int .i64 x1, .int .i64 x2]) (t := 43) ?hr ?_; (case hd => rfl); (case hg => rfl); (case hr => first | (go_simp; done) | (go_simp; rfl)); intro g2 hg wn hbox hb; have GE2 := Aside0.mk (by rw [hg]; exact below_size HB.out : w.heap.size ≤ g2); have hbx := hb; clear hg; have BK20 := Aside0.mk hbox; clear hbox; have n0_ := Aside0.mk (below_step HB.out hb); clear HB  hb; have HB := n0_; clear n0_ ; have BK2 := BK20; clear BK20; have c2_0 : wn.cell? ⟨g2, 0, none⟩ = some (.int .i64 x0) := (blk_cell BK2.out 0).trans rfl; have c2_1 : wn.cell? ⟨g2, 1, none⟩ = some (.int .i64 x1) := (blk_cell BK2.out 1).trans rfl; have c2_2 : wn.cell? ⟨g2, 2, none⟩ = some (.int .i64 x2) := (blk_cell BK2.out 2).trans rfl; have n1_ := Aside0.mk (blk_below BK1.out hbx); clear hbx BK1; have BK1 := n1_; clear n1_; have c1_0 : wn.cell? ⟨g1, 0, none⟩ = some (.int .i64 n) := (blk_cell BK1.out 0).trans rfl)
    | (go_at_call 59; (with_reducible refine (impl_within.calls x0 0 (n - 1) true _ Hh1.out).mono ?_); rintro e wn ⟨rfl, hb0⟩; have hb := to_below_d hb0; have n1_ := Aside0.mk (blk_below BK1.out (hb0.below)); clear hb0; have n0_ := Aside0.mk (below_step HB.out hb); have m2_ := Aside0.mk (blk_below BK2.out hb); clear HB BK2 hb; have HB := n0_; have BK2 := m2_; clear n0_ m2_; have c2_0 : wn.cell? ⟨g2, 0, none⟩ = some (.int .i64 x0) := (blk_cell BK2.out 0).trans rfl; have c2_1 : wn.cell? ⟨g2, 1, none⟩ = some (.int .i64 x1) := (blk_cell BK2.out 1).trans rfl; have c2_2 : wn.cell? ⟨g2, 2, none⟩ = some (.int .i64 x2) := (blk_cell BK2.out 2).trans rfl; clear BK1; have BK1 := n1_; clear n1_; have c1_0 : wn.cell? ⟨g1, 0, none⟩ = some (.int .i64 n) := (blk_cell BK1.out 0).trans rfl)
    | (go_at_call 59; (with_reducible refine (impl_within.calls x1 0 (n - 1) false _ Hh2.out).mono ?_); rintro e wn ⟨rfl, hb0⟩; have hb := to_below_d hb0; have n1_ := Aside0.mk (blk_below BK1.out (hb0.below)); clear hb0; have n0_ := Aside0.mk (below_step HB.out hb); have m2_ := Aside0.mk (blk_below BK2.out hb); clear HB BK2 hb; have HB := n0_; have BK2 := m2_; clear n0_ m2_; have c2_0 : wn.cell? ⟨g2, 0, none⟩ = some (.int .i64 x0) := (blk_cell BK2.out 0).trans rfl; have c2_1 : wn.cell? ⟨g2, 1, none⟩ = some (.int .i64 x1) := (blk_cell BK2.out 1).trans rfl; have c2_2 : wn.cell? ⟨g2, 2, none⟩ = some (.int .i64 x2) := (blk_cell BK2.out 2).trans rfl; clear BK1; have BK1 := n1_; clear n1_; have c1_0 : wn.cell? ⟨g1, 0, none⟩ = some (.int .i64 n) := (blk_cell BK1.out 0).trans rfl))
  go_ret
  exact ⟨rfl, HB.out⟩
set_option maxHeartbeats 4000000 in
set_option maxRecDepth 100000 in
theorem WireClo_3 (x0 x1 x2 n : Int) (g1 : Nat) (n0 : 1 ≤ n) (n8 : n ≤ 8) (b : Bool) (w : World) (b1 : w.heap[g1]? = some (.cells #[.int .i64 n] 2 (0, 0))) (h1 : impl_within.f x0 0 (n - 1) = some true) (h2 : impl_within.f x1 0 (n - 1) = some true) (h3 : impl_within.f x2 0 20 = some b) :
    Calls Tryd.prog 64 #[.agg #[.int .i64 x0, .int .i64 x1, .int .i64 x2], .pointer (some ⟨g1, 0, none⟩)] w fun e w' => e = .returned (.bool (!b)) ∧ Below w.heap.size w w' := by
  have Hb1 := Aside0.mk b1
  have Hh1 := Aside0.mk h1
  have Hh2 := Aside0.mk h2
  have Hh3 := Aside0.mk h3
  clear b1 h1 h2 h3
  have HB := Aside0.mk (Below.refl w.heap.size w)
  have BK1 := Hb1
  have e1 : IntKind.i64.wrap (n - 1) = n - 1 := IntWalk.i64_in _ ⟨by omega, by omega⟩
  go_enter Tryd.func64, Tryd.ntmps64
  go_wp2_with (first
    | ((with_reducible refine gate_dst (N := 2) rfl ?_); refine box_event ?hg (N := 2) ?hd (cs := #[.int .i64 x0, .int .i64 x1, .int .i64 x2]) (t := 43) ?hr ?_; (case hd => rfl); (case hg => rfl); (case hr => first | (go_simp; done) | (go_simp; rfl)); intro g2 hg wn hbox hb; have GE2 := Aside0.mk (by rw [hg]; exact below_size HB.out : w.heap.size ≤ g2); have hbx := hb; clear hg; have BK20 := Aside0.mk hbox; clear hbox; have n0_ := Aside0.mk (below_step HB.out hb); clear HB  hb; have HB := n0_; clear n0_ ; have BK2 := BK20; clear BK20; have c2_0 : wn.cell? ⟨g2, 0, none⟩ = some (.int .i64 x0) := (blk_cell BK2.out 0).trans rfl; have c2_1 : wn.cell? ⟨g2, 1, none⟩ = some (.int .i64 x1) := (blk_cell BK2.out 1).trans rfl; have c2_2 : wn.cell? ⟨g2, 2, none⟩ = some (.int .i64 x2) := (blk_cell BK2.out 2).trans rfl; have n1_ := Aside0.mk (blk_below BK1.out hbx); clear hbx BK1; have BK1 := n1_; clear n1_; have c1_0 : wn.cell? ⟨g1, 0, none⟩ = some (.int .i64 n) := (blk_cell BK1.out 0).trans rfl)
    | (go_at_call 59; (with_reducible refine (impl_within.calls x0 0 (n - 1) true _ Hh1.out).mono ?_); rintro e wn ⟨rfl, hb0⟩; have hb := to_below_d hb0; have n1_ := Aside0.mk (blk_below BK1.out (hb0.below)); clear hb0; have n0_ := Aside0.mk (below_step HB.out hb); have m2_ := Aside0.mk (blk_below BK2.out hb); clear HB BK2 hb; have HB := n0_; have BK2 := m2_; clear n0_ m2_; have c2_0 : wn.cell? ⟨g2, 0, none⟩ = some (.int .i64 x0) := (blk_cell BK2.out 0).trans rfl; have c2_1 : wn.cell? ⟨g2, 1, none⟩ = some (.int .i64 x1) := (blk_cell BK2.out 1).trans rfl; have c2_2 : wn.cell? ⟨g2, 2, none⟩ = some (.int .i64 x2) := (blk_cell BK2.out 2).trans rfl; clear BK1; have BK1 := n1_; clear n1_; have c1_0 : wn.cell? ⟨g1, 0, none⟩ = some (.int .i64 n) := (blk_cell BK1.out 0).trans rfl)
    | (go_at_call 59; (with_reducible refine (impl_within.calls x1 0 (n - 1) true _ Hh2.out).mono ?_); rintro e wn ⟨rfl, hb0⟩; have hb := to_below_d hb0; have n1_ := Aside0.mk (blk_below BK1.out (hb0.below)); clear hb0; have n0_ := Aside0.mk (below_step HB.out hb); have m2_ := Aside0.mk (blk_below BK2.out hb); clear HB BK2 hb; have HB := n0_; have BK2 := m2_; clear n0_ m2_; have c2_0 : wn.cell? ⟨g2, 0, none⟩ = some (.int .i64 x0) := (blk_cell BK2.out 0).trans rfl; have c2_1 : wn.cell? ⟨g2, 1, none⟩ = some (.int .i64 x1) := (blk_cell BK2.out 1).trans rfl; have c2_2 : wn.cell? ⟨g2, 2, none⟩ = some (.int .i64 x2) := (blk_cell BK2.out 2).trans rfl; clear BK1; have BK1 := n1_; clear n1_; have c1_0 : wn.cell? ⟨g1, 0, none⟩ = some (.int .i64 n) := (blk_cell BK1.out 0).trans rfl)
    | (go_at_call 59; (with_reducible refine (impl_within.calls x2 0 20 b _ Hh3.out).mono ?_); rintro e wn ⟨rfl, hb0⟩; have hb := to_below_d hb0; have n1_ := Aside0.mk (blk_below BK1.out (hb0.below)); clear hb0; have n0_ := Aside0.mk (below_step HB.out hb); have m2_ := Aside0.mk (blk_below BK2.out hb); clear HB BK2 hb; have HB := n0_; have BK2 := m2_; clear n0_ m2_; have c2_0 : wn.cell? ⟨g2, 0, none⟩ = some (.int .i64 x0) := (blk_cell BK2.out 0).trans rfl; have c2_1 : wn.cell? ⟨g2, 1, none⟩ = some (.int .i64 x1) := (blk_cell BK2.out 1).trans rfl; have c2_2 : wn.cell? ⟨g2, 2, none⟩ = some (.int .i64 x2) := (blk_cell BK2.out 2).trans rfl; clear BK1; have BK1 := n1_; clear n1_; have c1_0 : wn.cell? ⟨g1, 0, none⟩ = some (.int .i64 n) := (blk_cell BK1.out 0).trans rfl))
  go_ret
  exact ⟨rfl, HB.out⟩
theorem WireCl (n : Int) (g1 : Nat) (w : World) (n0 : 1 ≤ n) (n8 : n ≤ 8) (h1 : w.heap[g1]? = some (.cells #[.int .i64 n] 2 (0, 0))) :
    ∀ x0 x1 x2 r W, (wireC n).f x0 x1 x2 = some r → Below w.heap.size w W → Calls Tryd.prog 64 (#[.agg #[.int .i64 x0, .int .i64 x1, .int .i64 x2]] ++ #[.pointer (some ⟨g1, 0, none⟩)]) W fun e w' => e = .returned (.bool r) ∧ Below W.heap.size W w' := by
  intro x0 x1 x2 r W hx hW
  obtain rfl := Option.some.inj hx
  have hg := blk_below h1 hW
  unfold badWire
  cases q1 : (decide (0 ≤ x0) && decide (x0 ≤ n - 1)) with
  | false => exact WireClo_1 x0 x1 x2 n g1 n0 n8 W hg (by rw [within_w, q1])
  | true =>
    cases q2 : (decide (0 ≤ x1) && decide (x1 ≤ n - 1)) with
    | false => exact WireClo_2 x0 x1 x2 n g1 n0 n8 W hg (by rw [within_w, q1]) (by rw [within_w, q2])
    | true => exact WireClo_3 x0 x1 x2 n g1 n0 n8 _ W hg (by rw [within_w, q1]) (by rw [within_w, q2]) (within_w _ _ _)
set_option maxHeartbeats 4000000 in
set_option maxRecDepth 100000 in
theorem isFlow_1 (k : Nat) (A0 : Option Addr) (c0 : Nat) (l0 : List Int) (A1 : Option Addr) (c1 : Nat) (l1 : List S43) (w : World) (h1 : impl_within.f (l0.length : Int) 1 8 = some false) :
    Calls Tryd.prog 42 #[.agg #[.slice A0 l0.length c0, .slice A1 l1.length c1]] w fun e w' => e = .returned (.bool false) ∧ Below w.heap.size w w' := by
  have Hh1 := Aside0.mk h1
  clear h1
  have HB := Aside0.mk (Below.refl w.heap.size w)
  go_enter Tryd.func42, Tryd.ntmps42
  go_wp2_with (first
    | ((with_reducible refine gate_dst (N := 1) rfl ?_); refine box_event ?hg (N := 1) ?hd (cs := #[.slice A0 l0.length c0, .slice A1 l1.length c1]) (t := 25) ?hr ?_; (case hd => rfl); (case hg => rfl); (case hr => first | (go_simp; done) | (go_simp; rfl)); intro g1 hg wn hbox hb; have GE1 := Aside0.mk (by rw [hg]; exact below_size HB.out : w.heap.size ≤ g1); clear hg; have BK10 := Aside0.mk hbox; clear hbox; have n0_ := Aside0.mk (below_step HB.out hb); clear HB  hb; have HB := n0_; clear n0_ ; have BK1 := BK10; clear BK10; have c1_0 : wn.cell? ⟨g1, 0, none⟩ = some (.slice A0 l0.length c0) := (blk_cell BK1.out 0).trans rfl; have c1_1 : wn.cell? ⟨g1, 1, none⟩ = some (.slice A1 l1.length c1) := (blk_cell BK1.out 1).trans rfl)
    | ((with_reducible refine gate_dst (N := 3) rfl ?_); refine box_event ?hg (N := 3) ?hd (cs := #[.int .i64 0]) (t := 2) ?hr ?_; (case hd => rfl); (case hg => rfl); (case hr => first | (go_simp; done) | (go_simp; rfl)); intro g3 hg wn hbox hb; have GE3 := Aside0.mk (by rw [hg]; exact below_size HB.out : w.heap.size ≤ g3); have NE1_3 := Aside0.mk (show g1 ≠ g3 by have := blk_lt BK1.out; omega); clear hg; have BK30 := Aside0.mk hbox; clear hbox; have n0_ := Aside0.mk (below_step HB.out hb); have m1_ := Aside0.mk (blk_below BK1.out hb); clear HB BK1 hb; have HB := n0_; have BK1 := m1_; clear n0_ m1_; have c1_0 : wn.cell? ⟨g1, 0, none⟩ = some (.slice A0 l0.length c0) := (blk_cell BK1.out 0).trans rfl; have c1_1 : wn.cell? ⟨g1, 1, none⟩ = some (.slice A1 l1.length c1) := (blk_cell BK1.out 1).trans rfl; have BK3 := BK30; clear BK30; have c3_0 : wn.cell? ⟨g3, 0, none⟩ = some (.int .i64 0) := (blk_cell BK3.out 0).trans rfl; have z3_0 := blk_frozen BK3.out 0; have c1s0 : ∀ v, (wn.setCell ⟨g3, 0, none⟩ v).cell? ⟨g1, 0, none⟩ = some (.slice A0 l0.length c0) := fun v => (blk_cell (blk_far BK1.out (p := ⟨g3, 0, none⟩) NE1_3.out v) 0).trans rfl; have c1s1 : ∀ v, (wn.setCell ⟨g3, 0, none⟩ v).cell? ⟨g1, 1, none⟩ = some (.slice A1 l1.length c1) := fun v => (blk_cell (blk_far BK1.out (p := ⟨g3, 0, none⟩) NE1_3.out v) 1).trans rfl)
    | (go_at_call 59; have m1_ := Aside0.mk (blk_far BK1.out (p := ⟨g3, 0, none⟩) NE1_3.out (.int .i64 (l0.length : Int))); have m3_ := Aside0.mk (blk_put BK3.out 0 (.int .i64 (l0.length : Int)) (cs' := #[.int .i64 (l0.length : Int)]) rfl); have n0_ := Aside0.mk (below_set (j := 0) (v := .int .i64 (l0.length : Int)) HB.out GE3.out); clear HB BK1 BK3; have HB := n0_; have BK1 := m1_; have BK3 := m3_; clear n0_ m1_ m3_; (with_reducible refine (impl_within.calls (l0.length : Int) 1 8 false _ Hh1.out).mono ?_); rintro e wn ⟨rfl, hb0⟩; (first | have hb := to_below_d hb0 | have hb := to_below_b hb0); clear hb0; have n0_ := Aside0.mk (below_step HB.out hb); have m1_ := Aside0.mk (blk_below BK1.out hb); have m3_ := Aside0.mk (blk_below BK3.out hb); clear HB BK1 BK3 hb; have HB := n0_; have BK1 := m1_; have BK3 := m3_; clear n0_ m1_ m3_; have c1_0 : wn.cell? ⟨g1, 0, none⟩ = some (.slice A0 l0.length c0) := (blk_cell BK1.out 0).trans rfl; have c1_1 : wn.cell? ⟨g1, 1, none⟩ = some (.slice A1 l1.length c1) := (blk_cell BK1.out 1).trans rfl; have c3_0 : wn.cell? ⟨g3, 0, none⟩ = some (.int .i64 (l0.length : Int)) := (blk_cell BK3.out 0).trans rfl))
  go_ret
  exact ⟨rfl, HB.out⟩
set_option maxHeartbeats 4000000 in
set_option maxRecDepth 100000 in
theorem isFlow_2 (k : Nat) (A0 : Option Addr) (c0 : Nat) (l0 : List Int) (A1 : Option Addr) (c1 : Nat) (l1 : List S43)(f1 : decide (16 < l1.length) = true) (f2 : decide ((16 : Int) < (l1.length : Int)) = true) (w : World) (h1 : impl_within.f (l0.length : Int) 1 8 = some true) :
    Calls Tryd.prog 42 #[.agg #[.slice A0 l0.length c0, .slice A1 l1.length c1]] w fun e w' => e = .returned (.bool false) ∧ Below w.heap.size w w' := by
  have Hh1 := Aside0.mk h1
  clear h1
  have HB := Aside0.mk (Below.refl w.heap.size w)
  go_enter Tryd.func42, Tryd.ntmps42
  go_wp2_with (first
    | ((with_reducible refine gate_dst (N := 1) rfl ?_); refine box_event ?hg (N := 1) ?hd (cs := #[.slice A0 l0.length c0, .slice A1 l1.length c1]) (t := 25) ?hr ?_; (case hd => rfl); (case hg => rfl); (case hr => first | (go_simp; done) | (go_simp; rfl)); intro g1 hg wn hbox hb; have GE1 := Aside0.mk (by rw [hg]; exact below_size HB.out : w.heap.size ≤ g1); clear hg; have BK10 := Aside0.mk hbox; clear hbox; have n0_ := Aside0.mk (below_step HB.out hb); clear HB  hb; have HB := n0_; clear n0_ ; have BK1 := BK10; clear BK10; have c1_0 : wn.cell? ⟨g1, 0, none⟩ = some (.slice A0 l0.length c0) := (blk_cell BK1.out 0).trans rfl; have c1_1 : wn.cell? ⟨g1, 1, none⟩ = some (.slice A1 l1.length c1) := (blk_cell BK1.out 1).trans rfl)
    | ((with_reducible refine gate_dst (N := 3) rfl ?_); refine box_event ?hg (N := 3) ?hd (cs := #[.int .i64 0]) (t := 2) ?hr ?_; (case hd => rfl); (case hg => rfl); (case hr => first | (go_simp; done) | (go_simp; rfl)); intro g3 hg wn hbox hb; have GE3 := Aside0.mk (by rw [hg]; exact below_size HB.out : w.heap.size ≤ g3); have NE1_3 := Aside0.mk (show g1 ≠ g3 by have := blk_lt BK1.out; omega); clear hg; have BK30 := Aside0.mk hbox; clear hbox; have n0_ := Aside0.mk (below_step HB.out hb); have m1_ := Aside0.mk (blk_below BK1.out hb); clear HB BK1 hb; have HB := n0_; have BK1 := m1_; clear n0_ m1_; have c1_0 : wn.cell? ⟨g1, 0, none⟩ = some (.slice A0 l0.length c0) := (blk_cell BK1.out 0).trans rfl; have c1_1 : wn.cell? ⟨g1, 1, none⟩ = some (.slice A1 l1.length c1) := (blk_cell BK1.out 1).trans rfl; have BK3 := BK30; clear BK30; have c3_0 : wn.cell? ⟨g3, 0, none⟩ = some (.int .i64 0) := (blk_cell BK3.out 0).trans rfl; have z3_0 := blk_frozen BK3.out 0; have c1s0 : ∀ v, (wn.setCell ⟨g3, 0, none⟩ v).cell? ⟨g1, 0, none⟩ = some (.slice A0 l0.length c0) := fun v => (blk_cell (blk_far BK1.out (p := ⟨g3, 0, none⟩) NE1_3.out v) 0).trans rfl; have c1s1 : ∀ v, (wn.setCell ⟨g3, 0, none⟩ v).cell? ⟨g1, 1, none⟩ = some (.slice A1 l1.length c1) := fun v => (blk_cell (blk_far BK1.out (p := ⟨g3, 0, none⟩) NE1_3.out v) 1).trans rfl)
    | (go_at_call 59; have m1_ := Aside0.mk (blk_far BK1.out (p := ⟨g3, 0, none⟩) NE1_3.out (.int .i64 (l0.length : Int))); have m3_ := Aside0.mk (blk_put BK3.out 0 (.int .i64 (l0.length : Int)) (cs' := #[.int .i64 (l0.length : Int)]) rfl); have n0_ := Aside0.mk (below_set (j := 0) (v := .int .i64 (l0.length : Int)) HB.out GE3.out); clear HB BK1 BK3; have HB := n0_; have BK1 := m1_; have BK3 := m3_; clear n0_ m1_ m3_; (with_reducible refine (impl_within.calls (l0.length : Int) 1 8 true _ Hh1.out).mono ?_); rintro e wn ⟨rfl, hb0⟩; (first | have hb := to_below_d hb0 | have hb := to_below_b hb0); clear hb0; have n0_ := Aside0.mk (below_step HB.out hb); have m1_ := Aside0.mk (blk_below BK1.out hb); have m3_ := Aside0.mk (blk_below BK3.out hb); clear HB BK1 BK3 hb; have HB := n0_; have BK1 := m1_; have BK3 := m3_; clear n0_ m1_ m3_; have c1_0 : wn.cell? ⟨g1, 0, none⟩ = some (.slice A0 l0.length c0) := (blk_cell BK1.out 0).trans rfl; have c1_1 : wn.cell? ⟨g1, 1, none⟩ = some (.slice A1 l1.length c1) := (blk_cell BK1.out 1).trans rfl; have c3_0 : wn.cell? ⟨g3, 0, none⟩ = some (.int .i64 (l0.length : Int)) := (blk_cell BK3.out 0).trans rfl))
  go_ret
  exact ⟨rfl, HB.out⟩
set_option maxHeartbeats 4000000 in
set_option maxRecDepth 100000 in
theorem isFlow_3 (k : Nat) (A0 : Option Addr) (c0 : Nat) (l0 : List Int) (A1 : Option Addr) (c1 : Nat) (l1 : List S43) (i : Int) (f1 : decide (16 < l1.length) = false) (f2 : decide ((16 : Int) < (l1.length : Int)) = false) (w : World) (hr0 : Kd.C (Kd.int .i64) w A0 l0.length l0) (hc0 : l0.length ≤ c0) (hr1 : Kd.C k43 w A1 l1.length l1) (hc1 : l1.length ≤ c1) (h1 : impl_within.f (l0.length : Int) 1 8 = some true) (hi : @slices_IndexFunc_int64_int64.f isDelC k l0 0 = some i) (hp : decide (i ≥ 0) = true) :
    Calls Tryd.prog 42 #[.agg #[.slice A0 l0.length c0, .slice A1 l1.length c1]] w fun e w' => e = .returned (.bool false) ∧ Below w.heap.size w w' := by
  have Hhr0 := Aside0.mk hr0
  have Hhc0 := Aside0.mk hc0
  have Hhr1 := Aside0.mk hr1
  have Hhc1 := Aside0.mk hc1
  have Hh1 := Aside0.mk h1
  have Hhi := Aside0.mk hi
  have Hhp := Aside0.mk hp
  clear hr0 hc0 hr1 hc1 h1 hi hp
  have HB := Aside0.mk (Below.refl w.heap.size w)
  have F3 := Hhp
  go_enter Tryd.func42, Tryd.ntmps42
  go_wp2_with (first
    | ((with_reducible refine gate_dst (N := 1) rfl ?_); refine box_event ?hg (N := 1) ?hd (cs := #[.slice A0 l0.length c0, .slice A1 l1.length c1]) (t := 25) ?hr ?_; (case hd => rfl); (case hg => rfl); (case hr => first | (go_simp; done) | (go_simp; rfl)); intro g1 hg wn hbox hb; have GE1 := Aside0.mk (by rw [hg]; exact below_size HB.out : w.heap.size ≤ g1); clear hg; have BK10 := Aside0.mk hbox; clear hbox; have n0_ := Aside0.mk (below_step HB.out hb); clear HB  hb; have HB := n0_; clear n0_ ; have BK1 := BK10; clear BK10; have c1_0 : wn.cell? ⟨g1, 0, none⟩ = some (.slice A0 l0.length c0) := (blk_cell BK1.out 0).trans rfl; have c1_1 : wn.cell? ⟨g1, 1, none⟩ = some (.slice A1 l1.length c1) := (blk_cell BK1.out 1).trans rfl)
    | ((with_reducible refine gate_dst (N := 3) rfl ?_); refine box_event ?hg (N := 3) ?hd (cs := #[.int .i64 0]) (t := 2) ?hr ?_; (case hd => rfl); (case hg => rfl); (case hr => first | (go_simp; done) | (go_simp; rfl)); intro g3 hg wn hbox hb; have GE3 := Aside0.mk (by rw [hg]; exact below_size HB.out : w.heap.size ≤ g3); have NE1_3 := Aside0.mk (show g1 ≠ g3 by have := blk_lt BK1.out; omega); clear hg; have BK30 := Aside0.mk hbox; clear hbox; have n0_ := Aside0.mk (below_step HB.out hb); have m1_ := Aside0.mk (blk_below BK1.out hb); clear HB BK1 hb; have HB := n0_; have BK1 := m1_; clear n0_ m1_; have c1_0 : wn.cell? ⟨g1, 0, none⟩ = some (.slice A0 l0.length c0) := (blk_cell BK1.out 0).trans rfl; have c1_1 : wn.cell? ⟨g1, 1, none⟩ = some (.slice A1 l1.length c1) := (blk_cell BK1.out 1).trans rfl; have BK3 := BK30; clear BK30; have c3_0 : wn.cell? ⟨g3, 0, none⟩ = some (.int .i64 0) := (blk_cell BK3.out 0).trans rfl; have z3_0 := blk_frozen BK3.out 0; have c1s0 : ∀ v, (wn.setCell ⟨g3, 0, none⟩ v).cell? ⟨g1, 0, none⟩ = some (.slice A0 l0.length c0) := fun v => (blk_cell (blk_far BK1.out (p := ⟨g3, 0, none⟩) NE1_3.out v) 0).trans rfl; have c1s1 : ∀ v, (wn.setCell ⟨g3, 0, none⟩ v).cell? ⟨g1, 1, none⟩ = some (.slice A1 l1.length c1) := fun v => (blk_cell (blk_far BK1.out (p := ⟨g3, 0, none⟩) NE1_3.out v) 1).trans rfl)
    | (go_at_call 59; have m1_ := Aside0.mk (blk_far BK1.out (p := ⟨g3, 0, none⟩) NE1_3.out (.int .i64 (l0.length : Int))); have m3_ := Aside0.mk (blk_put BK3.out 0 (.int .i64 (l0.length : Int)) (cs' := #[.int .i64 (l0.length : Int)]) rfl); have n0_ := Aside0.mk (below_set (j := 0) (v := .int .i64 (l0.length : Int)) HB.out GE3.out); clear HB BK1 BK3; have HB := n0_; have BK1 := m1_; have BK3 := m3_; clear n0_ m1_ m3_; (with_reducible refine (impl_within.calls (l0.length : Int) 1 8 true _ Hh1.out).mono ?_); rintro e wn ⟨rfl, hb0⟩; (first | have hb := to_below_d hb0 | have hb := to_below_b hb0); clear hb0; have n0_ := Aside0.mk (below_step HB.out hb); have m1_ := Aside0.mk (blk_below BK1.out hb); have m3_ := Aside0.mk (blk_below BK3.out hb); clear HB BK1 BK3 hb; have HB := n0_; have BK1 := m1_; have BK3 := m3_; clear n0_ m1_ m3_; have c1_0 : wn.cell? ⟨g1, 0, none⟩ = some (.slice A0 l0.length c0) := (blk_cell BK1.out 0).trans rfl; have c1_1 : wn.cell? ⟨g1, 1, none⟩ = some (.slice A1 l1.length c1) := (blk_cell BK1.out 1).trans rfl; have c3_0 : wn.cell? ⟨g3, 0, none⟩ = some (.int .i64 (l0.length : Int)) := (blk_cell BK3.out 0).trans rfl)
    | (go_at_call 60; refine (@has76 isDelC k A0 c0 l0 i 61 Tryd.f61 #[] ⟨Tryd.func61, rfl, by kernel_rfl⟩ _ (IsDelCl _) (Kd.C_below Hhr0.out HB.out) Hhc0.out Hhi.out).mono ?_; rintro e wn ⟨he, hb0⟩; rw [F3.out] at he; subst he; have hb := to_below_d hb0; clear hb0; have n0_ := Aside0.mk (below_step HB.out hb); have m1_ := Aside0.mk (blk_below BK1.out hb); have m3_ := Aside0.mk (blk_below BK3.out hb); clear HB BK1 BK3 hb; have HB := n0_; have BK1 := m1_; have BK3 := m3_; clear n0_ m1_ m3_; have c1_0 : wn.cell? ⟨g1, 0, none⟩ = some (.slice A0 l0.length c0) := (blk_cell BK1.out 0).trans rfl; have c1_1 : wn.cell? ⟨g1, 1, none⟩ = some (.slice A1 l1.length c1) := (blk_cell BK1.out 1).trans rfl; have c3_0 : wn.cell? ⟨g3, 0, none⟩ = some (.int .i64 (l0.length : Int)) := (blk_cell BK3.out 0).trans rfl))
  go_ret
  exact ⟨rfl, HB.out⟩
set_option maxHeartbeats 4000000 in
set_option maxRecDepth 100000 in
theorem isFlow_4 (k : Nat) (A0 : Option Addr) (c0 : Nat) (l0 : List Int) (A1 : Option Addr) (c1 : Nat) (l1 : List S43) (i j : Int) (f1 : decide (16 < l1.length) = false) (f2 : decide ((16 : Int) < (l1.length : Int)) = false) (w : World) (hr0 : Kd.C (Kd.int .i64) w A0 l0.length l0) (hc0 : l0.length ≤ c0) (hr1 : Kd.C k43 w A1 l1.length l1) (hc1 : l1.length ≤ c1) (h1 : impl_within.f (l0.length : Int) 1 8 = some true) (hi : @slices_IndexFunc_int64_int64.f isDelC k l0 0 = some i) (hp : decide (i ≥ 0) = false) (hj : @impl_Wire_80.f (wireC l0.length) k l1 0 = some j) (n0 : 1 ≤ (l0.length : Int)) (n8 : (l0.length : Int) ≤ 8) :
    Calls Tryd.prog 42 #[.agg #[.slice A0 l0.length c0, .slice A1 l1.length c1]] w fun e w' => e = .returned (.bool (!decide (j ≥ 0))) ∧ Below w.heap.size w w' := by
  have Hhr0 := Aside0.mk hr0
  have Hhc0 := Aside0.mk hc0
  have Hhr1 := Aside0.mk hr1
  have Hhc1 := Aside0.mk hc1
  have Hh1 := Aside0.mk h1
  have Hhi := Aside0.mk hi
  have Hhp := Aside0.mk hp
  have Hhj := Aside0.mk hj
  have Hn0 := Aside0.mk n0
  have Hn8 := Aside0.mk n8
  clear hr0 hc0 hr1 hc1 h1 hi hp hj n0 n8
  have HB := Aside0.mk (Below.refl w.heap.size w)
  have F3 := Hhp
  go_enter Tryd.func42, Tryd.ntmps42
  go_wp2_with (first
    | ((with_reducible refine gate_dst (N := 1) rfl ?_); refine box_event ?hg (N := 1) ?hd (cs := #[.slice A0 l0.length c0, .slice A1 l1.length c1]) (t := 25) ?hr ?_; (case hd => rfl); (case hg => rfl); (case hr => first | (go_simp; done) | (go_simp; rfl)); intro g1 hg wn hbox hb; have GE1 := Aside0.mk (by rw [hg]; exact below_size HB.out : w.heap.size ≤ g1); clear hg; have BK10 := Aside0.mk hbox; clear hbox; have n0_ := Aside0.mk (below_step HB.out hb); clear HB  hb; have HB := n0_; clear n0_ ; have BK1 := BK10; clear BK10; have c1_0 : wn.cell? ⟨g1, 0, none⟩ = some (.slice A0 l0.length c0) := (blk_cell BK1.out 0).trans rfl; have c1_1 : wn.cell? ⟨g1, 1, none⟩ = some (.slice A1 l1.length c1) := (blk_cell BK1.out 1).trans rfl)
    | ((with_reducible refine gate_dst (N := 3) rfl ?_); refine box_event ?hg (N := 3) ?hd (cs := #[.int .i64 0]) (t := 2) ?hr ?_; (case hd => rfl); (case hg => rfl); (case hr => first | (go_simp; done) | (go_simp; rfl)); intro g3 hg wn hbox hb; have GE3 := Aside0.mk (by rw [hg]; exact below_size HB.out : w.heap.size ≤ g3); have NE1_3 := Aside0.mk (show g1 ≠ g3 by have := blk_lt BK1.out; omega); clear hg; have BK30 := Aside0.mk hbox; clear hbox; have n0_ := Aside0.mk (below_step HB.out hb); have m1_ := Aside0.mk (blk_below BK1.out hb); clear HB BK1 hb; have HB := n0_; have BK1 := m1_; clear n0_ m1_; have c1_0 : wn.cell? ⟨g1, 0, none⟩ = some (.slice A0 l0.length c0) := (blk_cell BK1.out 0).trans rfl; have c1_1 : wn.cell? ⟨g1, 1, none⟩ = some (.slice A1 l1.length c1) := (blk_cell BK1.out 1).trans rfl; have BK3 := BK30; clear BK30; have c3_0 : wn.cell? ⟨g3, 0, none⟩ = some (.int .i64 0) := (blk_cell BK3.out 0).trans rfl; have z3_0 := blk_frozen BK3.out 0; have c1s0 : ∀ v, (wn.setCell ⟨g3, 0, none⟩ v).cell? ⟨g1, 0, none⟩ = some (.slice A0 l0.length c0) := fun v => (blk_cell (blk_far BK1.out (p := ⟨g3, 0, none⟩) NE1_3.out v) 0).trans rfl; have c1s1 : ∀ v, (wn.setCell ⟨g3, 0, none⟩ v).cell? ⟨g1, 1, none⟩ = some (.slice A1 l1.length c1) := fun v => (blk_cell (blk_far BK1.out (p := ⟨g3, 0, none⟩) NE1_3.out v) 1).trans rfl)
    | (go_at_call 59; have m1_ := Aside0.mk (blk_far BK1.out (p := ⟨g3, 0, none⟩) NE1_3.out (.int .i64 (l0.length : Int))); have m3_ := Aside0.mk (blk_put BK3.out 0 (.int .i64 (l0.length : Int)) (cs' := #[.int .i64 (l0.length : Int)]) rfl); have n0_ := Aside0.mk (below_set (j := 0) (v := .int .i64 (l0.length : Int)) HB.out GE3.out); clear HB BK1 BK3; have HB := n0_; have BK1 := m1_; have BK3 := m3_; clear n0_ m1_ m3_; (with_reducible refine (impl_within.calls (l0.length : Int) 1 8 true _ Hh1.out).mono ?_); rintro e wn ⟨rfl, hb0⟩; (first | have hb := to_below_d hb0 | have hb := to_below_b hb0); clear hb0; have n0_ := Aside0.mk (below_step HB.out hb); have m1_ := Aside0.mk (blk_below BK1.out hb); have m3_ := Aside0.mk (blk_below BK3.out hb); clear HB BK1 BK3 hb; have HB := n0_; have BK1 := m1_; have BK3 := m3_; clear n0_ m1_ m3_; have c1_0 : wn.cell? ⟨g1, 0, none⟩ = some (.slice A0 l0.length c0) := (blk_cell BK1.out 0).trans rfl; have c1_1 : wn.cell? ⟨g1, 1, none⟩ = some (.slice A1 l1.length c1) := (blk_cell BK1.out 1).trans rfl; have c3_0 : wn.cell? ⟨g3, 0, none⟩ = some (.int .i64 (l0.length : Int)) := (blk_cell BK3.out 0).trans rfl)
    | (go_at_call 60; refine (@has76 isDelC k A0 c0 l0 i 61 Tryd.f61 #[] ⟨Tryd.func61, rfl, by kernel_rfl⟩ _ (IsDelCl _) (Kd.C_below Hhr0.out HB.out) Hhc0.out Hhi.out).mono ?_; rintro e wn ⟨he, hb0⟩; rw [F3.out] at he; subst he; have hb := to_below_d hb0; clear hb0; have n0_ := Aside0.mk (below_step HB.out hb); have m1_ := Aside0.mk (blk_below BK1.out hb); have m3_ := Aside0.mk (blk_below BK3.out hb); clear HB BK1 BK3 hb; have HB := n0_; have BK1 := m1_; have BK3 := m3_; clear n0_ m1_ m3_; have c1_0 : wn.cell? ⟨g1, 0, none⟩ = some (.slice A0 l0.length c0) := (blk_cell BK1.out 0).trans rfl; have c1_1 : wn.cell? ⟨g1, 1, none⟩ = some (.slice A1 l1.length c1) := (blk_cell BK1.out 1).trans rfl; have c3_0 : wn.cell? ⟨g3, 0, none⟩ = some (.int .i64 (l0.length : Int)) := (blk_cell BK3.out 0).trans rfl)
    | (go_at_call 63; refine (@has83 (wireC l0.length) k A1 c1 l1 j 64 Tryd.f64 #[.pointer (some ⟨g3, 0, none⟩)] ⟨Tryd.func64, rfl, by kernel_rfl⟩ _ (WireCl l0.length g3 _ Hn0.out Hn8.out BK3.out) (Kd.C_below Hhr1.out HB.out) Hhc1.out Hhj.out).mono ?_; rintro e wn ⟨rfl, hb⟩; have n0_ := Aside0.mk (below_step HB.out hb); have m1_ := Aside0.mk (blk_below BK1.out hb); have m3_ := Aside0.mk (blk_below BK3.out hb); clear HB BK1 BK3 hb; have HB := n0_; have BK1 := m1_; have BK3 := m3_; clear n0_ m1_ m3_; have c1_0 : wn.cell? ⟨g1, 0, none⟩ = some (.slice A0 l0.length c0) := (blk_cell BK1.out 0).trans rfl; have c1_1 : wn.cell? ⟨g1, 1, none⟩ = some (.slice A1 l1.length c1) := (blk_cell BK1.out 1).trans rfl; have c3_0 : wn.cell? ⟨g3, 0, none⟩ = some (.int .i64 (l0.length : Int)) := (blk_cell BK3.out 0).trans rfl))
  go_ret
  exact ⟨rfl, HB.out⟩
def impl_isFlow.f (k : Nat) (l0 : List Int) (l1 : List S43) : Option Bool :=
  if 1 ≤ (l0.length : Int) ∧ (l0.length : Int) ≤ 8 then (if 16 < l1.length then some false else (@slices_IndexFunc_int64_int64.f isDelC k l0 0).bind fun i => if i ≥ 0 then some false else (@impl_Wire_80.f (wireC l0.length) k l1 0).bind fun j => some (!decide (j ≥ 0))) else some false
theorem impl_isFlow.calls (k : Nat) (A0_0 : Option Addr) (c0_0 : Nat) (l0_0 : List Int) (A0_1 : Option Addr) (c0_1 : Nat) (l0_1 : List (S43)) (r : Bool) (w : World) (hr0_0 : Kd.C (Kd.int .i64) w A0_0 l0_0.length l0_0) (hc0_0 : l0_0.length ≤ c0_0) (hr0_1 : Kd.C k43 w A0_1 l0_1.length l0_1) (hc0_1 : l0_1.length ≤ c0_1) (h : impl_isFlow.f k l0_0 l0_1 = some r) :
    Calls Tryd.prog 42 #[.agg #[.slice A0_0 l0_0.length c0_0, .slice A0_1 l0_1.length c0_1]] w fun e w' => e = .returned (.bool r) ∧ Below w.heap.size w w' := by
  unfold impl_isFlow.f at h
  by_cases hz : 1 ≤ (l0_0.length : Int) ∧ (l0_0.length : Int) ≤ 8
  · rw [if_pos hz] at h
    have hw : impl_within.f (l0_0.length : Int) 1 8 = some true := by rw [within_w]; simp; omega
    by_cases hm : 16 < l0_1.length
    · rw [if_pos hm] at h
      obtain rfl := Option.some.inj h
      exact isFlow_2 k A0_0 c0_0 l0_0 A0_1 c0_1 l0_1 (decide_eq_true hm) (decide_eq_true (by omega)) w hw
    · rw [if_neg hm] at h
      obtain ⟨i, hi, h⟩ := Option.bind_eq_some_iff.mp h
      by_cases hp : i ≥ 0
      · rw [if_pos hp] at h
        obtain rfl := Option.some.inj h
        exact isFlow_3 k A0_0 c0_0 l0_0 A0_1 c0_1 l0_1 i (decide_eq_false hm) (decide_eq_false (by omega)) w hr0_0 hc0_0 hr0_1 hc0_1 hw hi (decide_eq_true hp)
      · rw [if_neg hp] at h
        obtain ⟨j, hj, h⟩ := Option.bind_eq_some_iff.mp h
        obtain rfl := Option.some.inj h
        exact isFlow_4 k A0_0 c0_0 l0_0 A0_1 c0_1 l0_1 i j (decide_eq_false hm) (decide_eq_false (by omega)) w hr0_0 hc0_0 hr0_1 hc0_1 hw hi (decide_eq_false hp) hj hz.1 hz.2
  · rw [if_neg hz] at h
    have hw : impl_within.f (l0_0.length : Int) 1 8 = some false := by rw [within_w]; simp; omega
    obtain rfl := Option.some.inj h
    exact isFlow_1 k A0_0 c0_0 l0_0 A0_1 c0_1 l0_1 w hw
end Go.Proofs.YtalkmhnlgfncmaaDoor.X
end
section
-- Written by a program of this session out of the kit's print of the loaded functions: a plain function of a Go function, and its contract.
namespace Go.Proofs.YtalkmhnlgfncmaaDoor.X
open Go.RowKit Go.Proofs.YtalkmhnlgfncmaaDoorW.PrintWords Go.Proofs.YtalkmhnlgfncmaaDoorW.PrintLast Go.Proofs.YtalkmhnlgfncmaaDoorW.PrintMore
attribute [local go_sem] max2_int min2_int max_two min_two max_three min_three max_four min_four   -- for this text's walks alone
set_option linter.unusedVariables false
set_option linter.unusedSimpArgs false
def slices_Index_bool_bool.l0 : Nat → List Bool → Bool → Int → Int → Option (Int)
 | 0, _, _, _, _ => none
 | k + 1, x0, x1, x7, x8 => if x8 < x7 then (if 0 ≤ x8 then (if x8 < (x0.length : Int) then (if (x1 == (rdOf false x0 x8)) = true then (some x8) else (slices_Index_bool_bool.l0 k x0 x1 x7 (wrap64 (x8 + 1)))) else (none)) else (none)) else (some (-1))
def slices_Index_bool_bool.f (k : Nat) (l0 : List Bool) (a1 : Bool) : Option (Int) := slices_Index_bool_bool.l0 k l0 a1 (l0.length : Int) 0
set_option maxHeartbeats 8000000 in
set_option maxRecDepth 100000 in
theorem slices_Index_bool_bool.calls (k : Nat) (A0 : Option Addr) (c0 : Nat) (l0 : List Bool) (a1 : Bool) (r : Int) (w : World) (hr0 : Kd.C Kd.bool w A0 l0.length l0) (hc0 : l0.length ≤ c0) (h : slices_Index_bool_bool.f k l0 a1 = some r) :
  Calls Tryd.prog 81 #[.slice A0 l0.length c0, .bool a1] w fun e w' => e = .returned (.int .i64 r) ∧ Drawn0 w w' := by
 have HR0 := Aside0.mk hr0
 have HC0 := Aside0.mk hc0
 clear hr0 hc0
 have H : (slices_Index_bool_bool.l0 k l0 a1 (l0.length : Int) 0) = some r := h
 clear h
 have H' := Aside0.mk H
 clear H
 go_enter Tryd.func81, Tryd.ntmps81
 go_wp2
 go_loopg [8] k (fun kq v8 w' => ∃ (x8_1 : Int), v8 = .int .i64 x8_1 ∧ Aside0 (slices_Index_bool_bool.l0 kq l0 a1 (l0.length : Int) x8_1 = some r) ∧ Aside0 (kq ≤ k) ∧ Drawn0 w w')
 case atStart => exact ⟨(0), (by first | rfl | (simp; done) | (simp [*]; done)), H', ⟨Nat.le_refl _⟩, by repeat (first | exact Drawn0.refl _ | apply Drawn0.step)⟩
 case round =>
  clear H'
  try clear p2
  obtain ⟨x8_1, rfl, HA, HK1, ⟨m1, rfl⟩⟩ := hrel
  cases gk with
  | zero => exact absurd HA.out (by simp [slices_Index_bool_bool.l0])
  | succ k1 =>
   have H := HA.out
   clear HA
   simp only [slices_Index_bool_bool.l0] at H
   by_cases c3 : x8_1 < (l0.length : Int)
   ·rw [if_pos c3] at H
    have c3b0 : decide (x8_1 < (l0.length : Int)) = true := decide_eq_true c3
    clear c3
    by_cases c4 : 0 ≤ x8_1
    ·rw [if_pos c4] at H
     have c4b0 : decide (0 ≤ x8_1) = true := decide_eq_true c4
     clear c4
     by_cases c5 : x8_1 < (l0.length : Int)
     ·rw [if_pos c5] at H
      have c5b0 : decide (x8_1 < (l0.length : Int)) = true := decide_eq_true c5
      clear c5
      by_cases c6 : (a1 == (rdOf false l0 x8_1)) = true
      ·rw [if_pos c6] at H
       have c6b0 : (a1 == (rdOf false l0 x8_1)) = true := c6
       (try (have c6b1 : decide (a1 = (rdOf false l0 x8_1)) = true := by simpa using c6))
       (try (have c6b2 : (a1 == (rdOf false l0 x8_1)) = true := by simpa using c6))
       clear c6
       obtain rfl := Option.some.inj H
       have p225 : 0 ≤ (x8_1 : Int) := of_decide_eq_true (by first | (with_reducible assumption) | assumption)
       have q225 : x8_1 < (l0.length : Int) := of_decide_eq_true (by first | (with_reducible assumption) | assumption)
       obtain ⟨ad225, e225, hx225_0⟩ := Kd.at_bool HR0.out x8_1 p225 q225
       cases e225
       replace p225 := eq_true p225
       replace q225 := eq_true q225
       go_wp2
       go_ret
       exact ⟨by first | rfl | (simp; done) | (simp [*]; done), by repeat (first | exact Drawn0.refl _ | apply Drawn0.step)⟩
      ·rw [if_neg c6] at H
       have c6b0 : (a1 == (rdOf false l0 x8_1)) = false := by simpa using c6
       (try (have c6b1 : decide (a1 = (rdOf false l0 x8_1)) = false := by simpa using c6))
       (try (have c6b2 : (a1 == (rdOf false l0 x8_1)) = false := by simpa using c6))
       (try (have c6b3 : ¬ (a1 = (rdOf false l0 x8_1)) := by simpa using c6))
       clear c6
       have H' := Aside0.mk H
       clear H
       have p225 : 0 ≤ (x8_1 : Int) := of_decide_eq_true (by first | (with_reducible assumption) | assumption)
       have q225 : x8_1 < (l0.length : Int) := of_decide_eq_true (by first | (with_reducible assumption) | assumption)
       obtain ⟨ad225, e225, hx225_0⟩ := Kd.at_bool HR0.out x8_1 p225 q225
       cases e225
       replace p225 := eq_true p225
       replace q225 := eq_true q225
       go_wp2
       go_roundg k1
       case measure => have := HK1.out; omega
       case rel => exact ⟨(wrap64 (x8_1 + 1)), (by first | rfl | (simp; done) | (simp [*]; done)), H', ⟨by have := HK1.out; omega⟩, by repeat (first | exact Drawn0.refl _ | apply Drawn0.step)⟩
     ·rw [if_neg c5] at H
      exact absurd H (by simp)
    ·rw [if_neg c4] at H
     exact absurd H (by simp)
   ·rw [if_neg c3] at H
    have c3b0 : decide (x8_1 < (l0.length : Int)) = false := decide_eq_false c3
    clear c3
    obtain rfl := Option.some.inj H
    go_wp2
    go_ret
    exact ⟨by first | rfl | (simp; done) | (simp [*]; done), by repeat (first | exact Drawn0.refl _ | apply Drawn0.step)⟩
end Go.Proofs.YtalkmhnlgfncmaaDoor.X
end
section
-- Written by a program of this session out of the kit's print of the loaded functions: a plain function of a Go function, and its contract.
namespace Go.Proofs.YtalkmhnlgfncmaaDoor.X
open Go.RowKit Go.Proofs.YtalkmhnlgfncmaaDoorW.PrintWords Go.Proofs.YtalkmhnlgfncmaaDoorW.PrintLast Go.Proofs.YtalkmhnlgfncmaaDoorW.PrintMore
attribute [local go_sem] max2_int min2_int max_two min_two max_three min_three max_four min_four   -- for this text's walks alone
set_option linter.unusedVariables false
set_option linter.unusedSimpArgs false
def slices_Contains_bool_bool.f (k : Nat) (l0 : List Bool) (a1 : Bool) : Option (Bool) := (slices_Index_bool_bool.f k l0 a1).bind fun t226 => (some (decide (t226 ≥ 0)))
set_option maxHeartbeats 8000000 in
set_option maxRecDepth 100000 in
theorem slices_Contains_bool_bool.calls (k : Nat) (A0 : Option Addr) (c0 : Nat) (l0 : List Bool) (a1 : Bool) (r : Bool) (w : World) (hr0 : Kd.C Kd.bool w A0 l0.length l0) (hc0 : l0.length ≤ c0) (h : slices_Contains_bool_bool.f k l0 a1 = some r) :
  Calls Tryd.prog 66 #[.slice A0 l0.length c0, .bool a1] w fun e w' => e = .returned (.bool r) ∧ Drawn0 w w' := by
 have HR0 := Aside0.mk hr0
 have HC0 := Aside0.mk hc0
 clear hr0 hc0
 have H : ((slices_Index_bool_bool.f k l0 a1).bind fun t226 => (some (decide (t226 ≥ 0)))) = some r := h
 clear h
 replace H := Option.bind_eq_some_iff.mp H
 obtain ⟨t226, A30, H⟩ := H
 replace H : (some (decide (t226 ≥ 0))) = some r := H
 have A3 := Aside0.mk A30
 clear A30
 obtain rfl := Option.some.inj H
 go_enter Tryd.func66, Tryd.ntmps66
 go_wp2_with (first | ((with_reducible refine gate_callee (f := 81) rfl ?_); refine goesL_ (some 7) rfl rfl Tryd.func81 (by kernel_rfl) rfl #[.slice A0 l0.length c0, .bool a1] rfl (by (try simp only [List.map_toArray, List.map_cons, List.map_nil]); first | done | rfl | (simp only [List.length_drop, List.length_take]; rfl)) ?_; (with_reducible refine (slices_Index_bool_bool.calls k _ _ l0 a1 t226 _ ?side1 ?side2 A3.out).mono ?_); (case side1 => repeat (first | exact HR0.out | (with_reducible refine Kd.C_alloc ?_ _) | (with_reducible refine Kd.C_drewN ?_ _) | (with_reducible refine Kd.C_drew ?_))); (case side2 => first | exact trivial | (exact HC0.out)); rintro e w' ⟨rfl, ⟨nd, rfl⟩⟩; refine ⟨_, rfl, ?_⟩))
 go_ret
 exact ⟨by first | rfl | (simp; done) | (simp [*]; done), by repeat (first | exact Drawn0.refl _ | apply Drawn0.step)⟩
end Go.Proofs.YtalkmhnlgfncmaaDoor.X
end
section
namespace Go.Proofs.YtalkmhnlgfncmaaDoor.X
open Go.RowKit Go.Proofs.YtalkmhnlgfncmaaDoorW.PrintWords Go.Proofs.YtalkmhnlgfncmaaDoorW.PrintLast Go.Proofs.YtalkmhnlgfncmaaDoorW.PrintMore
set_option linter.unusedVariables false
set_option linter.unusedSimpArgs false
def Bools (w : World) (g : Nat) (l : List Bool) : Prop := w.heap[g]? = some (.cells (l.map Value.bool).toArray 4 (0, 0))
theorem Bools.cell {w : World} {g : Nat} {l : List Bool} (h : Bools w g l) (i : Nat) (hi : i < l.length) : w.cell? ⟨g, i, none⟩ = some (.bool (l.getD i false)) := by
  rw [blk_cell h i]
  simp [hi, List.getD_eq_getElem?_getD]
theorem Bools.frozen {w : World} {g : Nat} {l : List Bool} (h : Bools w g l) (i : Nat) : w.frozen? ⟨g, i, none⟩ = false := blk_frozen h i
theorem Bools.put {w : World} {g : Nat} {l : List Bool} (h : Bools w g l) (i : Nat) (b : Bool) : Bools (w.setCell ⟨g, i, none⟩ (.bool b)) g (l.set i b) :=
  blk_put h i (.bool b) (by simp [List.map_set])
theorem Bools.below {w w' : World} {g : Nat} {l : List Bool} (h : Bools w g l) (hb : Below w.heap.size w w') : Bools w' g l := blk_below h hb
theorem info4b : (Tryd.prog.info? 4).map (fun i => (i.zero, i.size, i.bytes)) = some (some (.bool false), 1, 1) := by kernel_rfl
section
variable {P : Program} {ops : Array Oper} {Q : Exit → Act → World → Prop}
theorem make_bools {rest : List Oper} {o : Oper} {a : Act} {W : World} (hgd : o.guard = none) {N : Tmp} (hd : o.dst = some N) (t e : TypeId) (x y : Operand) (ho : o.op = .makeSlice t x y) (n : Nat) (hx : a.eval x = .int .i64 n) (hy : a.eval y = .int .i64 n)
    (ht : P.underlying t = some (.slice e)) (hinfo : (P.info? e).map (fun i => (i.zero, i.size, i.bytes)) = some (some (.bool false), 1, 1)) (he : e = 4) (hl : n ≤ 1000000)
    (h : ∀ g wn, g = W.heap.size → Bools wn g (List.replicate n false) → Below W.heap.size W wn → wpList P ops Q rest (a.put o.dst (.slice (some ⟨g, 0, none⟩) n n)) wn) : wpList P ops Q (o :: rest) a W := by
  obtain ⟨i0, hi, hzz⟩ := Option.map_eq_some_iff.1 hinfo
  simp only [Prod.mk.injEq] at hzz
  obtain ⟨hz0, hz1, hz2⟩ := hzz
  have hr := run_make (P := P) W t e i0 (.bool false) ht hi hz0 .i64 .i64 (n : Int) (n : Int) (by omega) (by omega)
    (by
      have h3 : ((i0.bytes * n : Nat) : Int) ≤ 281474976710656 := by rw [hz2]; omega
      rwa [Int.natCast_mul] at h3) (by omega)
  simp only [Int.toNat_natCast] at hr
  rw [hz1] at hr
  refine Kd.event_run hgd (?_ : (execOp a.eval o).run P W = .ok (.value (.slice (some ⟨W.heap.size, 0, none⟩) n n)) (W.alloc (.cells (madeCells (Value.bool false).cells (n * 1)) e))) (h _ _ rfl ?_ (below_alloc (Below.refl _ _) _))
  · simp [execOp, ho, hx, hy, hr]
  · subst he
    unfold Bools
    have e1 : madeCells (Value.bool false).cells (n * 1) = ((List.replicate n false).map Value.bool).toArray := by
      apply Array.ext
      · simp [size_madeCells]
      · intro i h1 h2
        simp [madeCells, Value.cells, Nat.mod_one]
    rw [← e1]
    simp [World.alloc, -World.alloc_eq]
end
def leads (left : List Bool) (i f t c : Int) : Option Bool := if (c == 0) = true then (if (t == i) = true then (if 0 ≤ f ∧ f < left.length then some (left.getD f.toNat false) else none) else some false) else some false
abbrev leadC (left : List Bool) (i : Int) : C_impl_Wire_80 := ⟨fun f t c => leads left i f t c⟩
set_option maxHeartbeats 4000000 in
set_option maxRecDepth 100000 in
theorem OpenClo_1 (x0 x1 x2 : Int) (i n g1 g2 gL : Nat) (L : List Bool) (f1 : (x2 == 0) = false) (w : World) (b1 : w.heap[g1]? = some (.cells #[.int .i64 (i : Int)] 3 (0, 0))) (b2 : w.heap[g2]? = some (.cells #[.slice (some ⟨gL, 0, none⟩) n n] 93 (0, 0))) (bl : Bools w gL L) :
    Calls Tryd.prog 65 #[.agg #[.int .i64 x0, .int .i64 x1, .int .i64 x2], .pointer (some ⟨g1, 0, none⟩), .pointer (some ⟨g2, 0, none⟩)] w fun e w' => e = .returned (.bool false) ∧ Below w.heap.size w w' := by
  have Hb1 := Aside0.mk b1
  have Hb2 := Aside0.mk b2
  have Hbl := Aside0.mk bl
  clear b1 b2 bl
  have HB := Aside0.mk (Below.refl w.heap.size w)
  have BK1 := Hb1
  have BK2 := Hb2
  have BL := Hbl
  go_enter Tryd.func65, Tryd.ntmps65
  go_wp2_with (first
    | ((with_reducible refine gate_dst (N := 3) rfl ?_); refine box_event ?hg (N := 3) ?hd (cs := #[.int .i64 x0, .int .i64 x1, .int .i64 x2]) (t := 43) ?hr ?_; (case hd => rfl); (case hg => rfl); (case hr => first | (go_simp; done) | (go_simp; rfl)); intro g3 hg wn hbox hb; have GE3 := Aside0.mk (by rw [hg]; exact below_size HB.out : w.heap.size ≤ g3); have hbx := hb; clear hg; have BK30 := Aside0.mk hbox; clear hbox; have n0_ := Aside0.mk (below_step HB.out hb); clear HB  hb; have HB := n0_; clear n0_ ; have BK3 := BK30; clear BK30; have c3_0 : wn.cell? ⟨g3, 0, none⟩ = some (.int .i64 x0) := (blk_cell BK3.out 0).trans rfl; have c3_1 : wn.cell? ⟨g3, 1, none⟩ = some (.int .i64 x1) := (blk_cell BK3.out 1).trans rfl; have c3_2 : wn.cell? ⟨g3, 2, none⟩ = some (.int .i64 x2) := (blk_cell BK3.out 2).trans rfl; have n1_ := Aside0.mk (blk_below BK1.out hbx); have n2_ := Aside0.mk (blk_below BK2.out hbx); have n3_ := Aside0.mk (BL.out.below hbx); clear hbx BK1 BK2 BL; have BK1 := n1_; have BK2 := n2_; have BL := n3_; clear n1_ n2_ n3_; have c1_0 : wn.cell? ⟨g1, 0, none⟩ = some (.int .i64 (i : Int)) := (blk_cell BK1.out 0).trans rfl; have c2_0 : wn.cell? ⟨g2, 0, none⟩ = some (.slice (some ⟨gL, 0, none⟩) n n) := (blk_cell BK2.out 0).trans rfl))
  go_ret
  exact ⟨rfl, HB.out⟩
set_option maxHeartbeats 4000000 in
set_option maxRecDepth 100000 in
theorem OpenClo_2 (x0 x1 x2 : Int) (i n g1 g2 gL : Nat) (L : List Bool) (f1 : (x2 == 0) = true) (f2 : (x1 == (i : Int)) = false) (w : World) (b1 : w.heap[g1]? = some (.cells #[.int .i64 (i : Int)] 3 (0, 0))) (b2 : w.heap[g2]? = some (.cells #[.slice (some ⟨gL, 0, none⟩) n n] 93 (0, 0))) (bl : Bools w gL L) :
    Calls Tryd.prog 65 #[.agg #[.int .i64 x0, .int .i64 x1, .int .i64 x2], .pointer (some ⟨g1, 0, none⟩), .pointer (some ⟨g2, 0, none⟩)] w fun e w' => e = .returned (.bool false) ∧ Below w.heap.size w w' := by
  have Hb1 := Aside0.mk b1
  have Hb2 := Aside0.mk b2
  have Hbl := Aside0.mk bl
  clear b1 b2 bl
  have HB := Aside0.mk (Below.refl w.heap.size w)
  have BK1 := Hb1
  have BK2 := Hb2
  have BL := Hbl
  go_enter Tryd.func65, Tryd.ntmps65
  go_wp2_with (first
    | ((with_reducible refine gate_dst (N := 3) rfl ?_); refine box_event ?hg (N := 3) ?hd (cs := #[.int .i64 x0, .int .i64 x1, .int .i64 x2]) (t := 43) ?hr ?_; (case hd => rfl); (case hg => rfl); (case hr => first | (go_simp; done) | (go_simp; rfl)); intro g3 hg wn hbox hb; have GE3 := Aside0.mk (by rw [hg]; exact below_size HB.out : w.heap.size ≤ g3); have hbx := hb; clear hg; have BK30 := Aside0.mk hbox; clear hbox; have n0_ := Aside0.mk (below_step HB.out hb); clear HB  hb; have HB := n0_; clear n0_ ; have BK3 := BK30; clear BK30; have c3_0 : wn.cell? ⟨g3, 0, none⟩ = some (.int .i64 x0) := (blk_cell BK3.out 0).trans rfl; have c3_1 : wn.cell? ⟨g3, 1, none⟩ = some (.int .i64 x1) := (blk_cell BK3.out 1).trans rfl; have c3_2 : wn.cell? ⟨g3, 2, none⟩ = some (.int .i64 x2) := (blk_cell BK3.out 2).trans rfl; have n1_ := Aside0.mk (blk_below BK1.out hbx); have n2_ := Aside0.mk (blk_below BK2.out hbx); have n3_ := Aside0.mk (BL.out.below hbx); clear hbx BK1 BK2 BL; have BK1 := n1_; have BK2 := n2_; have BL := n3_; clear n1_ n2_ n3_; have c1_0 : wn.cell? ⟨g1, 0, none⟩ = some (.int .i64 (i : Int)) := (blk_cell BK1.out 0).trans rfl; have c2_0 : wn.cell? ⟨g2, 0, none⟩ = some (.slice (some ⟨gL, 0, none⟩) n n) := (blk_cell BK2.out 0).trans rfl))
  go_ret
  exact ⟨rfl, HB.out⟩
set_option maxHeartbeats 4000000 in
set_option maxRecDepth 100000 in
theorem OpenClo_3 (x1 x2 : Int) (p i n g1 g2 gL : Nat) (L : List Bool) (f1 : (x2 == 0) = true) (f2 : (x1 == (i : Int)) = true) (hp : p < n) (hn : n ≤ 1000000) (w : World) (b1 : w.heap[g1]? = some (.cells #[.int .i64 (i : Int)] 3 (0, 0))) (b2 : w.heap[g2]? = some (.cells #[.slice (some ⟨gL, 0, none⟩) n n] 93 (0, 0))) (bl : Bools w gL L) (hL : L.length = n) :
    Calls Tryd.prog 65 #[.agg #[.int .i64 (p : Int), .int .i64 x1, .int .i64 x2], .pointer (some ⟨g1, 0, none⟩), .pointer (some ⟨g2, 0, none⟩)] w fun e w' => e = .returned (.bool (L.getD p false)) ∧ Below w.heap.size w w' := by
  have Hb1 := Aside0.mk b1
  have Hb2 := Aside0.mk b2
  have Hbl := Aside0.mk bl
  have HhL := Aside0.mk hL
  clear b1 b2 bl hL
  have HB := Aside0.mk (Below.refl w.heap.size w)
  have BK1 := Hb1
  have BK2 := Hb2
  have BL := Hbl
  go_enter Tryd.func65, Tryd.ntmps65
  go_wp2_with (first
    | ((with_reducible refine gate_dst (N := 3) rfl ?_); refine box_event ?hg (N := 3) ?hd (cs := #[.int .i64 (p : Int), .int .i64 x1, .int .i64 x2]) (t := 43) ?hr ?_; (case hd => rfl); (case hg => rfl); (case hr => first | (go_simp; done) | (go_simp; rfl)); intro g3 hg wn hbox hb; have GE3 := Aside0.mk (by rw [hg]; exact below_size HB.out : w.heap.size ≤ g3); have hbx := hb; clear hg; have BK30 := Aside0.mk hbox; clear hbox; have n0_ := Aside0.mk (below_step HB.out hb); clear HB  hb; have HB := n0_; clear n0_ ; have BK3 := BK30; clear BK30; have c3_0 : wn.cell? ⟨g3, 0, none⟩ = some (.int .i64 (p : Int)) := (blk_cell BK3.out 0).trans rfl; have c3_1 : wn.cell? ⟨g3, 1, none⟩ = some (.int .i64 x1) := (blk_cell BK3.out 1).trans rfl; have c3_2 : wn.cell? ⟨g3, 2, none⟩ = some (.int .i64 x2) := (blk_cell BK3.out 2).trans rfl; have n1_ := Aside0.mk (blk_below BK1.out hbx); have n2_ := Aside0.mk (blk_below BK2.out hbx); have n3_ := Aside0.mk (BL.out.below hbx); clear hbx BK1 BK2 BL; have BK1 := n1_; have BK2 := n2_; have BL := n3_; clear n1_ n2_ n3_; have c1_0 : wn.cell? ⟨g1, 0, none⟩ = some (.int .i64 (i : Int)) := (blk_cell BK1.out 0).trans rfl; have c2_0 : wn.cell? ⟨g2, 0, none⟩ = some (.slice (some ⟨gL, 0, none⟩) n n) := (blk_cell BK2.out 0).trans rfl; have cL : wn.cell? ⟨gL, p, none⟩ = some (.bool (L.getD p false)) := BL.out.cell p (by rw [HhL.out]; exact hp)))
  go_ret
  exact ⟨rfl, HB.out⟩
theorem OpenCl (i n g1 g2 gL : Nat) (L : List Bool) (w : World) (hn : n ≤ 1000000) (hL : L.length = n) (h1 : w.heap[g1]? = some (.cells #[.int .i64 (i : Int)] 3 (0, 0))) (h2 : w.heap[g2]? = some (.cells #[.slice (some ⟨gL, 0, none⟩) n n] 93 (0, 0))) (h3 : Bools w gL L) :
    ∀ x0 x1 x2 r W, (leadC L i).f x0 x1 x2 = some r → Below w.heap.size w W → Calls Tryd.prog 65 (#[.agg #[.int .i64 x0, .int .i64 x1, .int .i64 x2]] ++ #[.pointer (some ⟨g1, 0, none⟩), .pointer (some ⟨g2, 0, none⟩)]) W fun e w' => e = .returned (.bool r) ∧ Below W.heap.size W w' := by
  intro x0 x1 x2 r W hx hW
  have q1 := blk_below h1 hW
  have q2 := blk_below h2 hW
  have q3 := h3.below hW
  have hx : leads L i x0 x1 x2 = some r := hx
  unfold leads at hx
  cases f1 : (x2 == 0) with
  | false =>
    rw [f1, if_neg (by simp)] at hx
    obtain rfl := Option.some.inj hx
    exact OpenClo_1 x0 x1 x2 i n g1 g2 gL L f1 W q1 q2 q3
  | true =>
    rw [f1, if_pos rfl] at hx
    cases f2 : (x1 == (i : Int)) with
    | false =>
      rw [f2, if_neg (by simp)] at hx
      obtain rfl := Option.some.inj hx
      exact OpenClo_2 x0 x1 x2 i n g1 g2 gL L f1 f2 W q1 q2 q3
    | true =>
      rw [f2, if_pos rfl] at hx
      by_cases hp : 0 ≤ x0 ∧ x0 < L.length
      · rw [if_pos hp] at hx
        obtain rfl := Option.some.inj hx
        obtain ⟨p, rfl⟩ := Int.eq_ofNat_of_zero_le hp.1
        rw [Int.toNat_natCast]
        exact OpenClo_3 x1 x2 p i n g1 g2 gL L f1 f2 (by omega) hn W q1 q2 q3 hL
      · rw [if_neg hp] at hx
        exact absurd hx (by simp)
end Go.Proofs.YtalkmhnlgfncmaaDoor.X
end
section
namespace Go.Proofs.YtalkmhnlgfncmaaDoor.X
open Go.RowKit Go.Proofs.YtalkmhnlgfncmaaDoorW.PrintWords Go.Proofs.YtalkmhnlgfncmaaDoorW.PrintLast Go.Proofs.YtalkmhnlgfncmaaDoorW.PrintMore
set_option linter.unusedVariables false
set_option linter.unusedSimpArgs false
def openStep (k : Nat) (ws : List S43) (i : Nat) (L : List Bool) : Option (List Bool) := (@impl_Wire_80.f (leadC L i) k ws 0).bind fun r => some (L.set i (L.getD i false && decide (r ≥ 0)))
def openRound (k : Nat) (ws : List S43) : Nat → List Bool → Option (List Bool)
  | 0, L => some L
  | i + 1, L => (openRound k ws i L).bind fun M => openStep k ws i M
def openRounds (k : Nat) (ws : List S43) (n : Nat) : Nat → Option (List Bool)
  | 0 => some (List.replicate n true)
  | m + 1 => (openRounds k ws n m).bind fun M => openRound k ws n M
theorem openStep_len {k : Nat} {ws : List S43} {i : Nat} {L M : List Bool} (h : openStep k ws i L = some M) : M.length = L.length := by
  obtain ⟨r, _, h⟩ := Option.bind_eq_some_iff.mp h
  obtain rfl := Option.some.inj h
  simp
theorem openRound_len {k : Nat} {ws : List S43} : ∀ {i : Nat} {L M : List Bool}, openRound k ws i L = some M → M.length = L.length
  | 0, L, M, h => by obtain rfl := Option.some.inj h; rfl
  | i + 1, L, M, h => by
    obtain ⟨X, hX, h⟩ := Option.bind_eq_some_iff.mp h
    rw [openStep_len h, openRound_len hX]
theorem openRound_pre {k : Nat} {ws : List S43} {L : List Bool} : ∀ {n : Nat} {M : List Bool}, openRound k ws n L = some M → ∀ i, i ≤ n → ∃ X, openRound k ws i L = some X
  | 0, M, h, i, hi => by obtain rfl : i = 0 := by omega
                         exact ⟨M, h⟩
  | n + 1, M, h, i, hi => by
    by_cases e : i = n + 1
    · subst e; exact ⟨M, h⟩
    · obtain ⟨X, hX, _⟩ := Option.bind_eq_some_iff.mp h
      exact openRound_pre hX i (by omega)
theorem openRounds_pre {k : Nat} {ws : List S43} {n : Nat} : ∀ {m : Nat} {M : List Bool}, openRounds k ws n m = some M → ∀ i, i ≤ m → ∃ X, openRounds k ws n i = some X
  | 0, M, h, i, hi => by obtain rfl : i = 0 := by omega
                         exact ⟨M, h⟩
  | m + 1, M, h, i, hi => by
    by_cases e : i = m + 1
    · subst e; exact ⟨M, h⟩
    · obtain ⟨X, hX, _⟩ := Option.bind_eq_some_iff.mp h
      exact openRounds_pre hX i (by omega)
theorem openRounds_len {k : Nat} {ws : List S43} {n : Nat} : ∀ {m : Nat} {M : List Bool}, openRounds k ws n m = some M → M.length = n
  | 0, M, h => by obtain rfl := Option.some.inj h; simp
  | m + 1, M, h => by
    obtain ⟨X, hX, h⟩ := Option.bind_eq_some_iff.mp h
    rw [openRound_len h, openRounds_len hX]
theorem bools_C {w : World} {g : Nat} {l : List Bool} (h : Bools w g l) (hm : l.length ≤ 1000000) : Kd.C Kd.bool w (some ⟨g, 0, none⟩) l.length l := by
  refine ⟨rfl, by omega, fun _ => ⟨_, rfl, fun j p hj => ⟨[.bool p], rfl, rfl, fun i u hu => ?_⟩⟩⟩
  obtain ⟨hl, hp⟩ := List.getElem?_eq_some_iff.1 hj
  have h0 : i = 0 := by
    rcases i with _ | i
    · rfl
    · simp at hu
  subst h0
  have hu' : Value.bool p = u := by simpa using hu
  have hc := h.cell j hl
  rw [List.getD_eq_getElem?_getD, hj] at hc
  have e : (⟨g, 0, none⟩ : Addr).add (j * Kd.bool.sz + 0) = ⟨g, j, none⟩ := by
    show (⟨g, 0, none⟩ : Addr).add (j * 1 + 0) = ⟨g, j, none⟩
    rw [Nat.mul_one, Nat.add_zero]
    unfold Addr.add; split <;> simp_all
  rw [e, ← hu']
  exact hc
def marked (n i : Nat) : List Bool := List.replicate i true ++ List.replicate (n - i) false
theorem marked_len {n i : Nat} (h : i ≤ n) : (marked n i).length = n := by simp [marked]; omega
theorem marked_set {n i : Nat} (h : i < n) : (marked n i).set i true = marked n (i + 1) := by
  unfold marked
  apply List.ext_getElem
  · simp; omega
  · intro j h1 h2
    simp only [List.length_set, List.length_append, List.length_replicate] at h1
    rw [List.getElem_set]
    by_cases e : i = j
    · subst e; simp
    · rw [if_neg e]
      simp only [List.getElem_append, List.length_replicate, List.getElem_replicate]
      split <;> split <;> first | rfl | omega
set_option maxHeartbeats 4000000 in
set_option maxRecDepth 100000 in
theorem isOpen_walk (k : Nat) (A0 : Option Addr) (c0 : Nat) (l0 : List Int) (A1 : Option Addr) (c1 : Nat) (l1 : List S43) (n : Nat) (hn0 : l0.length = n) (hn : n ≤ 1000000) (M : List Bool) (b : Bool) (w : World)
    (hr1 : Kd.C k43 w A1 l1.length l1) (hc1 : l1.length ≤ c1) (hM : openRounds k l1 n n = some M) (hb : slices_Contains_bool_bool.f k M true = some b) :
    Calls Tryd.prog 43 #[.agg #[.slice A0 l0.length c0, .slice A1 l1.length c1]] w fun e w' => e = .returned (.bool (!b)) ∧ Below w.heap.size w w' := by
  have HR1 := Aside0.mk hr1
  have HC1 := Aside0.mk hc1
  have HM := Aside0.mk hM
  have Hb := Aside0.mk hb
  clear hr1 hc1 hM hb
  have HB := Aside0.mk (Below.refl w.heap.size w)
  rw [hn0]
  clear hn0
  go_enter Tryd.func43, Tryd.ntmps43
  go_wp2_with (first
    | ((with_reducible refine gate_dst (N := 1) rfl ?_); refine box_event ?hg (N := 1) ?hd (cs := #[.slice A0 n c0, .slice A1 l1.length c1]) (t := 25) ?hr ?_; (case hd => rfl); (case hg => rfl); (case hr => first | (go_simp; done) | (go_simp; rfl)); intro g1 hg wn hbox hb; have GE1 := Aside0.mk (by rw [hg]; exact below_size HB.out : w.heap.size ≤ g1); clear hg; have BK10 := Aside0.mk hbox; clear hbox; have n0_ := Aside0.mk (below_step HB.out hb); clear HB  hb; have HB := n0_; clear n0_ ; have BK1 := BK10; clear BK10; have c1_0 : wn.cell? ⟨g1, 0, none⟩ = some (.slice A0 n c0) := (blk_cell BK1.out 0).trans rfl; have c1_1 : wn.cell? ⟨g1, 1, none⟩ = some (.slice A1 l1.length c1) := (blk_cell BK1.out 1).trans rfl)
    | ((with_reducible refine gate_dst (N := 10) rfl ?_); refine make_bools ?hg (N := 10) ?hd 93 4 (.tmp 9) (.tmp 9) ?ho n rfl rfl Tryd.underlying93 info4b rfl (by omega) ?_; (case hd => rfl); (case hg => rfl); (case ho => rfl); intro gL wn hgL hL hb; have GL := Aside0.mk (by rw [hgL]; exact below_size HB.out : w.heap.size ≤ gL); have NE1_L := Aside0.mk (show g1 ≠ gL by have := blk_lt BK1.out; omega); clear hgL; have BL0 := Aside0.mk hL; clear hL; have n0_ := Aside0.mk (below_step HB.out hb); have m1_ := Aside0.mk (blk_below BK1.out hb); clear HB BK1 hb; have HB := n0_; have BK1 := m1_; clear n0_ m1_; have c1_0 : wn.cell? ⟨g1, 0, none⟩ = some (.slice A0 n c0) := (blk_cell BK1.out 0).trans rfl; have c1_1 : wn.cell? ⟨g1, 1, none⟩ = some (.slice A1 l1.length c1) := (blk_cell BK1.out 1).trans rfl; have BL := BL0; clear BL0)
    | ((with_reducible refine gate_dst (N := 3) rfl ?_); refine box_event ?hg (N := 3) ?hd (cs := #[.slice none 0 0]) (t := 93) ?hr ?_; (case hd => rfl); (case hg => rfl); (case hr => first | (go_simp; done) | (go_simp; rfl)); intro g3 hg wn hbox hb; have GE3 := Aside0.mk (by rw [hg]; exact below_size HB.out : w.heap.size ≤ g3); have NE1_3 := Aside0.mk (show g1 ≠ g3 by have := blk_lt BK1.out; omega); have NEL_3 := Aside0.mk (show gL ≠ g3 by have := blk_lt BL.out; omega); clear hg; have BK30 := Aside0.mk hbox; clear hbox; have nL_ := Aside0.mk (BL.out.below hb); clear BL; have BL := nL_; clear nL_; have n0_ := Aside0.mk (below_step HB.out hb); have m1_ := Aside0.mk (blk_below BK1.out hb); clear HB BK1 hb; have HB := n0_; have BK1 := m1_; clear n0_ m1_; have c1_0 : wn.cell? ⟨g1, 0, none⟩ = some (.slice A0 n c0) := (blk_cell BK1.out 0).trans rfl; have c1_1 : wn.cell? ⟨g1, 1, none⟩ = some (.slice A1 l1.length c1) := (blk_cell BK1.out 1).trans rfl; have BK3 := BK30; clear BK30; have z3_0 := blk_frozen BK3.out 0; have c3_0 : wn.cell? ⟨g3, 0, none⟩ = some (.slice none 0 0) := (blk_cell BK3.out 0).trans rfl))
  have p1 := Aside0.mk (blk_far BK1.out (p := ⟨g3, 0, none⟩) NE1_3.out (.slice (some ⟨gL, 0, none⟩) n n))
  have pL : Aside0 (Bools _ gL (List.replicate n false)) := ⟨blk_far BL.out (p := ⟨g3, 0, none⟩) NEL_3.out (.slice (some ⟨gL, 0, none⟩) n n)⟩
  have p3 := Aside0.mk (blk_put BK3.out 0 (.slice (some ⟨gL, 0, none⟩) n n) (cs' := #[.slice (some ⟨gL, 0, none⟩) n n]) rfl)
  have pb := Aside0.mk (below_set (j := 0) (v := .slice (some ⟨gL, 0, none⟩) n n) HB.out GE3.out)
  clear HB BK1 BK3 BL
  generalize wn.setCell ⟨g3, 0, none⟩ (.slice (some ⟨gL, 0, none⟩) n n) = W1 at p1 pL p3 pb ⊢
  clear z3_0 c3_0 c1_0 c1_1
  go_loopg [13] n (fun kq v13 w' => ∃ i : Nat, v13 = .int .i64 i ∧ Aside0 (i + kq = n) ∧ Aside0 (w'.heap[g1]? = some (.cells #[.slice A0 n c0, .slice A1 l1.length c1] 25 (0, 0))) ∧ Aside0 (w'.heap[g3]? = some (.cells #[.slice (some ⟨gL, 0, none⟩) n n] 93 (0, 0))) ∧ Aside0 (Bools w' gL (marked n i)) ∧ Aside0 (Below w.heap.size w w'))
  case atStart => exact ⟨0, by first | rfl | simp, ⟨by omega⟩, p1, p3, ⟨by simpa [marked] using pL.out⟩, pb⟩
  case round =>
    clear p1 pL p3 pb
    obtain ⟨i, rfl, HE, Q1, Q3, QL, QB⟩ := hrel
    have c3 : wr.cell? ⟨g3, 0, none⟩ = some (.slice (some ⟨gL, 0, none⟩) n n) := (blk_cell Q3.out 0).trans rfl
    by_cases hlt : i < n
    · cases gk with
      | zero => have := HE.out; omega
      | succ gq =>
      have zL := QL.out.frozen i
      have cL := QL.out.cell i (by rw [marked_len]; omega; omega)
      go_wp2
      go_roundg gq
      case measure => omega
      case rel => exact ⟨i + 1, by go_num, ⟨by have := HE.out; omega⟩, ⟨blk_far Q1.out (p := ⟨gL, i, none⟩) NE1_L.out _⟩, ⟨blk_far Q3.out (p := ⟨gL, i, none⟩) (Ne.symm NEL_3.out) _⟩, ⟨by rw [← marked_set hlt]; exact QL.out.put i true⟩, ⟨QB.out.setCell GL.out _⟩⟩
    · have e : i = n := by have := HE.out; omega
      subst e
      clear hlt HE
      go_wp2
      obtain ⟨wo, rfl⟩ : ∃ wo : World, wo = wr := ⟨_, rfl⟩
      go_loopg [22] i (fun kq v22 w' => ∃ (m : Nat) (X : List Bool), v22 = .int .i64 m ∧ Aside0 (m + kq = i) ∧ Aside0 (openRounds k l1 i m = some X) ∧ Aside0 (w'.heap[g1]? = some (.cells #[.slice A0 i c0, .slice A1 l1.length c1] 25 (0, 0))) ∧ Aside0 (w'.heap[g3]? = some (.cells #[.slice (some ⟨gL, 0, none⟩) i i] 93 (0, 0))) ∧ Aside0 (Bools w' gL X) ∧ Aside0 (Below w.heap.size w w'))
      case atStart => exact ⟨0, _, by first | rfl | simp, ⟨by omega⟩, ⟨rfl⟩, Q1, Q3, ⟨by simpa [marked] using QL.out⟩, QB⟩
      case round =>
        clear Q1 Q3 QL QB c3
        obtain ⟨m, X, rfl, HE, HX, Q1, Q3, QL, QB⟩ := hrel
        have c3 : wr.cell? ⟨g3, 0, none⟩ = some (.slice (some ⟨gL, 0, none⟩) i i) := (blk_cell Q3.out 0).trans rfl
        by_cases hlt : m < i
        · cases gk with
          | zero => have := HE.out; omega
          | succ gq =>
          obtain ⟨X', hX'⟩ := openRounds_pre HM.out (m + 1) (by omega)
          obtain ⟨X0, hX0, hXr⟩ := Option.bind_eq_some_iff.mp hX'
          obtain rfl := Option.some.inj (HX.out.symm.trans hX0)
          have HX' := Aside0.mk hX'
          have HXr := Aside0.mk hXr
          have HXl := Aside0.mk (openRounds_len HX.out)
          clear hX' hX0 hXr
          go_wp2
          obtain ⟨wo2, rfl⟩ : ∃ wo2 : World, wo2 = wr := ⟨_, rfl⟩
          go_loopg [26] i (fun kq v26 w' => ∃ (j : Nat) (Y : List Bool), v26 = .int .i64 j ∧ Aside0 (j + kq = i) ∧ Aside0 (openRound k l1 j X = some Y) ∧ Aside0 (w'.heap[g1]? = some (.cells #[.slice A0 i c0, .slice A1 l1.length c1] 25 (0, 0))) ∧ Aside0 (w'.heap[g3]? = some (.cells #[.slice (some ⟨gL, 0, none⟩) i i] 93 (0, 0))) ∧ Aside0 (Bools w' gL Y) ∧ Aside0 (Below w.heap.size w w'))
          case atStart => exact ⟨0, X, by first | rfl | simp, ⟨by omega⟩, ⟨rfl⟩, Q1, Q3, QL, QB⟩
          case round =>
            clear Q1 Q3 QL QB c3
            obtain ⟨j, Y, rfl, HJ, HY, Q1, Q3, QL, QB⟩ := hrel
            have c1_0 : wr.cell? ⟨g1, 0, none⟩ = some (.slice A0 i c0) := (blk_cell Q1.out 0).trans rfl
            have c1_1 : wr.cell? ⟨g1, 1, none⟩ = some (.slice A1 l1.length c1) := (blk_cell Q1.out 1).trans rfl
            have c3 : wr.cell? ⟨g3, 0, none⟩ = some (.slice (some ⟨gL, 0, none⟩) i i) := (blk_cell Q3.out 0).trans rfl
            by_cases hlj : j < i
            · cases gk with
              | zero => have := HJ.out; omega
              | succ gq2 =>
              obtain ⟨Y', hY'⟩ := openRound_pre HXr.out (j + 1) (by omega)
              obtain ⟨Y0, hY0, hYs⟩ := Option.bind_eq_some_iff.mp hY'
              obtain rfl := Option.some.inj (HY.out.symm.trans hY0)
              have HYl := Aside0.mk ((openRound_len HY.out).trans HXl.out)
              have hYs' := hYs
              obtain ⟨r, hr, hYe⟩ := Option.bind_eq_some_iff.mp hYs'
              have HYe := Aside0.mk (Option.some.inj hYe)
              have HR := Aside0.mk hr
              have HY' := Aside0.mk hY'
              clear hY0 hYs hYs' hr hYe hY'
              go_wp2_with (first
                | ((with_reducible refine gate_dst (N := 5) rfl ?_); refine box_event ?hg (N := 5) ?hd (cs := #[.int .i64 0]) (t := 3) ?hr ?_; (case hd => rfl); (case hg => rfl); (case hr => first | (go_simp; done) | (go_simp; rfl)); intro g5 hg wn hbox hb; have GE5 := Aside0.mk (by rw [hg]; exact below_size QB.out : w.heap.size ≤ g5); have NE1_5 := Aside0.mk (show g1 ≠ g5 by have := blk_lt Q1.out; omega); have NE3_5 := Aside0.mk (show g3 ≠ g5 by have := blk_lt Q3.out; omega); have NEL_5 := Aside0.mk (show gL ≠ g5 by have := blk_lt QL.out; omega); clear hg; have B5 := Aside0.mk hbox; clear hbox; have n0_ := Aside0.mk (below_step QB.out hb); have n1_ := Aside0.mk (blk_below Q1.out hb); have n3_ := Aside0.mk (blk_below Q3.out hb); have nL_ := Aside0.mk (QL.out.below hb); clear QB Q1 Q3 QL hb c3 c1_0 c1_1; have QB := n0_; have Q1 := n1_; have Q3 := n3_; have QL := nL_; clear n0_ n1_ n3_ nL_; have z5 := blk_frozen B5.out 0; have c5 : wn.cell? ⟨g5, 0, none⟩ = some (.int .i64 0) := (blk_cell B5.out 0).trans rfl; have c1s0 : ∀ v, (wn.setCell ⟨g5, 0, none⟩ v).cell? ⟨g1, 0, none⟩ = some (.slice A0 i c0) := fun v => (blk_cell (blk_far Q1.out (p := ⟨g5, 0, none⟩) NE1_5.out v) 0).trans rfl; have c1s1 : ∀ v, (wn.setCell ⟨g5, 0, none⟩ v).cell? ⟨g1, 1, none⟩ = some (.slice A1 l1.length c1) := fun v => (blk_cell (blk_far Q1.out (p := ⟨g5, 0, none⟩) NE1_5.out v) 1).trans rfl)
                | (go_at_call 63; have q1 := Aside0.mk (blk_far Q1.out (p := ⟨g5, 0, none⟩) NE1_5.out (.int .i64 (j : Int))); have q3 := Aside0.mk (blk_far Q3.out (p := ⟨g5, 0, none⟩) NE3_5.out (.int .i64 (j : Int))); have qL : Aside0 (Bools _ gL Y) := ⟨blk_far QL.out (p := ⟨g5, 0, none⟩) NEL_5.out (.int .i64 (j : Int))⟩; have q5 := Aside0.mk (blk_put B5.out 0 (.int .i64 (j : Int)) (cs' := #[.int .i64 (j : Int)]) rfl); have qb := Aside0.mk (below_set (j := 0) (v := .int .i64 (j : Int)) QB.out GE5.out); clear QB Q1 Q3 QL B5 c5 z5 c1s0 c1s1; refine (@has83 (leadC Y j) k A1 c1 l1 r 65 Tryd.f65 #[.pointer (some ⟨g5, 0, none⟩), .pointer (some ⟨g3, 0, none⟩)] ⟨Tryd.func65, rfl, by kernel_rfl⟩ _ (OpenCl j i g5 g3 gL Y _ hn HYl.out q5.out q3.out qL.out) (Kd.C_below HR1.out qb.out) HC1.out HR.out).mono ?_; rintro e wz ⟨rfl, hb⟩; have n0_ := Aside0.mk (below_step qb.out hb); have n1_ := Aside0.mk (blk_below q1.out hb); have n3_ := Aside0.mk (blk_below q3.out hb); have n5_ := Aside0.mk (blk_below q5.out hb); have nL_ := Aside0.mk (qL.out.below hb); clear qb q1 q3 q5 qL hb; have QB := n0_; have Q1 := n1_; have Q3 := n3_; have B5 := n5_; have QL := nL_; clear n0_ n1_ n3_ n5_ nL_; have c3 : wz.cell? ⟨g3, 0, none⟩ = some (.slice (some ⟨gL, 0, none⟩) i i) := (blk_cell Q3.out 0).trans rfl; have c5 : wz.cell? ⟨g5, 0, none⟩ = some (.int .i64 (j : Int)) := (blk_cell B5.out 0).trans rfl; have zL := QL.out.frozen j))
              have cL := QL.out.cell j (by rw [HYl.out]; exact hlj)
              have HYe2 := HYe
              cases hy : Y.getD j false with
              | false =>
                rw [hy] at cL HYe2
                have HYe3 : Aside0 (Y.set j false = Y') := ⟨by simpa using HYe2.out⟩
                clear hy HYe HYe2
                go_region
                go_wp2
                go_roundg gq2
                case measure => omega
                case rel => exact ⟨j + 1, Y', by go_num, ⟨by have := HJ.out; omega⟩, HY', ⟨blk_far Q1.out (p := ⟨gL, j, none⟩) NE1_L.out _⟩, ⟨blk_far Q3.out (p := ⟨gL, j, none⟩) (Ne.symm NEL_3.out) _⟩, ⟨by rw [← HYe3.out]; exact QL.out.put j false⟩, ⟨by first | exact below_drew1 (QB.out.setCell GL.out _) | exact QB.out.setCell GL.out _⟩⟩
              | true =>
                rw [hy] at cL HYe2
                have HYe3 : Aside0 (Y.set j (decide (r ≥ 0)) = Y') := ⟨by simpa using HYe2.out⟩
                clear hy HYe HYe2
                go_region
                go_wp2
                go_roundg gq2
                case measure => omega
                case rel => exact ⟨j + 1, Y', by go_num, ⟨by have := HJ.out; omega⟩, HY', ⟨blk_far Q1.out (p := ⟨gL, j, none⟩) NE1_L.out _⟩, ⟨blk_far Q3.out (p := ⟨gL, j, none⟩) (Ne.symm NEL_3.out) _⟩, ⟨by rw [← HYe3.out]; exact QL.out.put j (decide (r ≥ 0))⟩, ⟨by first | exact below_drew1 (QB.out.setCell GL.out _) | exact QB.out.setCell GL.out _⟩⟩
            · have e : j = i := by have := HJ.out; omega
              have HYY : Aside0 (Y = X') := ⟨by have h1 := HY.out; rw [e] at h1; exact Option.some.inj (h1.symm.trans HXr.out)⟩
              have f1 : decide ((j : Int) < (i : Int)) = false := decide_eq_false (by omega)
              have f2 : decide (j < i) = false := decide_eq_false hlj
              clear hlj e
              go_wp2
              go_roundg gq
              case measure => omega
              case rel => exact ⟨m + 1, X', by go_num, ⟨by have := HE.out; omega⟩, HX', Q1, Q3, ⟨by rw [← HYY.out]; exact QL.out⟩, QB⟩
        · have e : m = i := by have := HE.out; omega
          have HXM : Aside0 (X = M) := ⟨by have h1 := HX.out; rw [e] at h1; exact Option.some.inj (h1.symm.trans HM.out)⟩
          have HML : Aside0 (M.length = i) := ⟨openRounds_len HM.out⟩
          have f1 : decide ((m : Int) < (i : Int)) = false := decide_eq_false (by omega)
          have f2 : decide (m < i) = false := decide_eq_false hlt
          clear hlt e
          have QM : Aside0 (Bools wr gL M) := ⟨by rw [← HXM.out]; exact QL.out⟩
          have T := Aside0.mk (slices_Contains_bool_bool.calls k (some ⟨gL, 0, none⟩) i M true b wr (bools_C QM.out (by rw [HML.out]; exact hn)) (by rw [HML.out]; exact Nat.le_refl _) Hb.out)
          rw [HML.out] at T
          go_wp2_with (first | (go_at_call 66; refine T.out.mono ?_; rintro e wz ⟨rfl, hb0⟩))
          go_ret
          exact ⟨rfl, by obtain ⟨m0, rfl⟩ := hb0; exact pw_below_drewN QB.out _⟩
def impl_Flow_isOpen.f (k : Nat) (l0 : List Int) (l1 : List S43) : Option Bool :=
  if l0.length ≤ 1000000 then (openRounds k l1 l0.length l0.length).bind fun M => (slices_Contains_bool_bool.f k M true).bind fun b => some (!b) else none
theorem impl_Flow_isOpen.calls (k : Nat) (A0_0 : Option Addr) (c0_0 : Nat) (l0_0 : List Int) (A0_1 : Option Addr) (c0_1 : Nat) (l0_1 : List (S43)) (r : Bool) (w : World) (hr0_0 : Kd.C (Kd.int .i64) w A0_0 l0_0.length l0_0) (hc0_0 : l0_0.length ≤ c0_0) (hr0_1 : Kd.C k43 w A0_1 l0_1.length l0_1) (hc0_1 : l0_1.length ≤ c0_1) (h : impl_Flow_isOpen.f k l0_0 l0_1 = some r) :
    Calls Tryd.prog 43 #[.agg #[.slice A0_0 l0_0.length c0_0, .slice A0_1 l0_1.length c0_1]] w fun e w' => e = .returned (.bool r) ∧ Below w.heap.size w w' := by
  unfold impl_Flow_isOpen.f at h
  by_cases hn : l0_0.length ≤ 1000000
  · rw [if_pos hn] at h
    obtain ⟨M, hM, h⟩ := Option.bind_eq_some_iff.mp h
    obtain ⟨b, hb, h⟩ := Option.bind_eq_some_iff.mp h
    obtain rfl := Option.some.inj h
    exact isOpen_walk k A0_0 c0_0 l0_0 A0_1 c0_1 l0_1 l0_0.length rfl hn M b w hr0_1 hc0_1 hM hb
  · rw [if_neg hn] at h
    exact absurd h (by simp)
end Go.Proofs.YtalkmhnlgfncmaaDoor.X
end
section
-- Written by a program of this session out of the kit's print of the loaded functions: a plain function of a Go function, and its contract.
namespace Go.Proofs.YtalkmhnlgfncmaaDoor.X
open Go.RowKit Go.Proofs.YtalkmhnlgfncmaaDoorW.PrintWords Go.Proofs.YtalkmhnlgfncmaaDoorW.PrintLast Go.Proofs.YtalkmhnlgfncmaaDoorW.PrintMore
attribute [local go_sem] max2_int min2_int max_two min_two max_three min_three max_four min_four   -- for this text's walks alone
set_option linter.unusedVariables false
set_option linter.unusedSimpArgs false
def impl_ValidFlow.f (k : Nat) (l0_0 : List Int) (l0_1 : List (S43)) : Option (Bool) := (impl_isFlow.f k l0_0 l0_1).bind fun t228 => (if t228 = true then ((impl_Flow_isOpen.f k l0_0 l0_1).bind fun t229 => (some t229)) else (some false))
set_option maxHeartbeats 8000000 in
set_option maxRecDepth 100000 in
theorem impl_ValidFlow.calls (k : Nat) (A0_0 : Option Addr) (c0_0 : Nat) (l0_0 : List Int) (A0_1 : Option Addr) (c0_1 : Nat) (l0_1 : List (S43)) (r : Bool) (w : World) (hr0_0 : Kd.C (Kd.int .i64) w A0_0 l0_0.length l0_0) (hc0_0 : l0_0.length ≤ c0_0) (hr0_1 : Kd.C k43 w A0_1 l0_1.length l0_1) (hc0_1 : l0_1.length ≤ c0_1) (h : impl_ValidFlow.f k l0_0 l0_1 = some r) :
  Calls Tryd.prog 22 #[.agg #[.slice A0_0 l0_0.length c0_0, .slice A0_1 l0_1.length c0_1]] w fun e w' => e = .returned (.bool r) ∧ Below w.heap.size w w' := by
 have hu25 := Tryd.underlying25
 have HR0_0 := Aside0.mk hr0_0
 have HC0_0 := Aside0.mk hc0_0
 clear hr0_0 hc0_0
 have HR0_1 := Aside0.mk hr0_1
 have HC0_1 := Aside0.mk hc0_1
 clear hr0_1 hc0_1
 have HB := Aside0.mk (Below.refl w.heap.size w)
 have H : ((impl_isFlow.f k l0_0 l0_1).bind fun t228 => (if t228 = true then ((impl_Flow_isOpen.f k l0_0 l0_1).bind fun t229 => (some t229)) else (some false))) = some r := h
 clear h
 replace H := Option.bind_eq_some_iff.mp H
 obtain ⟨t228, A20, H⟩ := H
 replace H : (if t228 = true then ((impl_Flow_isOpen.f k l0_0 l0_1).bind fun t229 => (some t229)) else (some false)) = some r := H
 have A2 := Aside0.mk A20
 clear A20
 by_cases c3 : t228 = true
 ·subst c3
  have H1 : ((impl_Flow_isOpen.f k l0_0 l0_1).bind fun t229 => (some t229)) = some r := by rw [if_pos rfl] at H; exact H
  clear H
  have H := H1
  clear H1
  replace H := Option.bind_eq_some_iff.mp H
  obtain ⟨t229, A40, H⟩ := H
  replace H : (some t229) = some r := H
  have A4 := Aside0.mk A40
  clear A40
  obtain rfl := Option.some.inj H
  go_enter Tryd.func22, Tryd.ntmps22
  go_wp2_with (first | ((with_reducible refine gate_dst (N := 1) rfl ?_); refine box_event ?hg (N := 1) ?hd (cs := #[.slice A0_0 l0_0.length c0_0, .slice A0_1 l0_1.length c0_1]) (t := 25) ?hr ?_; (case hd => rfl); (case hg => rfl); (case hr => first | (go_simp; done) | (go_simp; rfl)); intro gb227 hg w5 hbox hb; have n0_ := Aside0.mk (below_step (by repeat (first | (with_reducible first | exact HB.out | apply below_alloc | apply pw_below_drewN | apply below_drew1) | exact HB.out)) hb); have n1_ := Aside0.mk (hbox); have n2_ := Aside0.mk ((by rw [hg]; exact (below_size (by repeat (first | (with_reducible first | exact HB.out | apply below_alloc | apply pw_below_drewN | apply below_drew1) | exact HB.out))) : w.heap.size ≤ gb227)); have n3_ := Aside0.mk ((by rw [hg]; exact (below_size (by repeat (first | (with_reducible first | exact HB.out | apply below_alloc | apply pw_below_drewN | apply below_drew1) | exact HB.out))) : w.heap.size ≤ gb227)); clear HB; have HB := n0_; have BK227 := n1_; have GW227 := n2_; have GE227 := n3_; clear n0_ n1_ n2_ n3_; clear hb hbox hg; have hcz6_0 : w5.cell? ⟨gb227, 0, none⟩ = some (.slice A0_0 l0_0.length c0_0) := (blk_cell BK227.out 0).trans rfl; have hcz6_1 : w5.cell? ⟨gb227, 1, none⟩ = some (.slice A0_1 l0_1.length c0_1) := (blk_cell BK227.out 1).trans rfl; have hfz6_0 := blk_frozen BK227.out 0; have hfz6_1 := blk_frozen BK227.out 1) | ((with_reducible refine gate_callee (f := 42) rfl ?_); refine goesL_ (some 4) rfl rfl Tryd.func42 (by kernel_rfl) rfl #[.agg #[.slice A0_0 l0_0.length c0_0, .slice A0_1 l0_1.length c0_1]] rfl (by (try simp only [List.map_toArray, List.map_cons, List.map_nil]); first | done | rfl | (simp only [List.length_drop, List.length_take]; rfl)) ?_; (with_reducible refine (impl_isFlow.calls k _ _ l0_0 _ _ l0_1 true _ ?side1 ?side2 ?side3 ?side4 A2.out).mono ?_); (case side1 => repeat (first | exact (Kd.C_below HR0_0.out HB.out) | (with_reducible refine Kd.C_alloc ?_ _) | (with_reducible refine Kd.C_drewN ?_ _) | (with_reducible refine Kd.C_drew ?_))); (case side2 => first | exact trivial | (exact HC0_0.out)); (case side3 => repeat (first | exact (Kd.C_below HR0_1.out HB.out) | (with_reducible refine Kd.C_alloc ?_ _) | (with_reducible refine Kd.C_drewN ?_ _) | (with_reducible refine Kd.C_drew ?_))); (case side4 => first | exact trivial | (exact HC0_1.out)); rintro e w7 ⟨rfl, hb⟩; refine ⟨_, rfl, ?_⟩; have n0_ := Aside0.mk (blk_below (g := gb227) (o := .cells #[.slice A0_0 l0_0.length c0_0, .slice A0_1 l0_1.length c0_1] 25 (0, 0)) (by (with_reducible repeat (first | refine blk_drewN ?_ _ | refine blk_drew ?_ | refine blk_alloc ?_ _)); exact BK227.out) hb); have n1_ := Aside0.mk (below_step (by repeat (first | (with_reducible first | exact HB.out | apply below_alloc | apply pw_below_drewN | apply below_drew1 | refine below_set ?_ GE227.out) | exact HB.out)) hb); clear BK227; clear HB; have BK227 := n0_; have HB := n1_; clear n0_ n1_; (try clear hb); (try clear hb2); (try clear hk); (try clear hi); have hcz8_0 : w7.cell? ⟨gb227, 0, none⟩ = some (.slice A0_0 l0_0.length c0_0) := (blk_cell BK227.out 0).trans rfl; have hcz8_1 : w7.cell? ⟨gb227, 1, none⟩ = some (.slice A0_1 l0_1.length c0_1) := (blk_cell BK227.out 1).trans rfl; have hfz8_0 := blk_frozen BK227.out 0; have hfz8_1 := blk_frozen BK227.out 1) | (go_at_call 43; (with_reducible refine (impl_Flow_isOpen.calls k _ _ l0_0 _ _ l0_1 t229 _ ?side1 ?side2 ?side3 ?side4 A4.out).mono ?_); (case side1 => repeat (first | exact (Kd.C_below HR0_0.out HB.out) | (with_reducible refine Kd.C_alloc ?_ _) | (with_reducible refine Kd.C_drewN ?_ _) | (with_reducible refine Kd.C_drew ?_))); (case side2 => first | exact trivial | (exact HC0_0.out)); (case side3 => repeat (first | exact (Kd.C_below HR0_1.out HB.out) | (with_reducible refine Kd.C_alloc ?_ _) | (with_reducible refine Kd.C_drewN ?_ _) | (with_reducible refine Kd.C_drew ?_))); (case side4 => first | exact trivial | (exact HC0_1.out)); rintro e w9 ⟨rfl, hb⟩; have n0_ := Aside0.mk (blk_below (g := gb227) (o := .cells #[.slice A0_0 l0_0.length c0_0, .slice A0_1 l0_1.length c0_1] 25 (0, 0)) (by (with_reducible repeat (first | refine blk_drewN ?_ _ | refine blk_drew ?_ | refine blk_alloc ?_ _)); exact BK227.out) hb); have n1_ := Aside0.mk (below_step (by repeat (first | (with_reducible first | exact HB.out | apply below_alloc | apply pw_below_drewN | apply below_drew1 | refine below_set ?_ GE227.out) | exact HB.out)) hb); clear BK227; clear HB; have BK227 := n0_; have HB := n1_; clear n0_ n1_; (try clear hb); (try clear hb2); (try clear hk); (try clear hi)))
  go_ret
  exact ⟨by first | rfl | (simp [errW_none, errW_some] <;> rfl) | (simp [*, errW_none, errW_some] <;> rfl), by repeat (first | (with_reducible first | exact HB.out | apply below_alloc | apply pw_below_drewN | apply below_drew1 | refine below_set ?_ GE227.out) | exact HB.out)⟩
 ·replace c3 := Bool.eq_false_iff.mpr c3
  subst c3
  have H1 : (some false) = some r := by rw [if_neg (show ¬ (false = true) by decide)] at H; exact H
  clear H
  have H := H1
  clear H1
  obtain rfl := Option.some.inj H
  go_enter Tryd.func22, Tryd.ntmps22
  go_wp2_with (first | ((with_reducible refine gate_dst (N := 1) rfl ?_); refine box_event ?hg (N := 1) ?hd (cs := #[.slice A0_0 l0_0.length c0_0, .slice A0_1 l0_1.length c0_1]) (t := 25) ?hr ?_; (case hd => rfl); (case hg => rfl); (case hr => first | (go_simp; done) | (go_simp; rfl)); intro gb227 hg w10 hbox hb; have n0_ := Aside0.mk (below_step (by repeat (first | (with_reducible first | exact HB.out | apply below_alloc | apply pw_below_drewN | apply below_drew1) | exact HB.out)) hb); have n1_ := Aside0.mk (hbox); have n2_ := Aside0.mk ((by rw [hg]; exact (below_size (by repeat (first | (with_reducible first | exact HB.out | apply below_alloc | apply pw_below_drewN | apply below_drew1) | exact HB.out))) : w.heap.size ≤ gb227)); have n3_ := Aside0.mk ((by rw [hg]; exact (below_size (by repeat (first | (with_reducible first | exact HB.out | apply below_alloc | apply pw_below_drewN | apply below_drew1) | exact HB.out))) : w.heap.size ≤ gb227)); clear HB; have HB := n0_; have BK227 := n1_; have GW227 := n2_; have GE227 := n3_; clear n0_ n1_ n2_ n3_; clear hb hbox hg; have hcz11_0 : w10.cell? ⟨gb227, 0, none⟩ = some (.slice A0_0 l0_0.length c0_0) := (blk_cell BK227.out 0).trans rfl; have hcz11_1 : w10.cell? ⟨gb227, 1, none⟩ = some (.slice A0_1 l0_1.length c0_1) := (blk_cell BK227.out 1).trans rfl; have hfz11_0 := blk_frozen BK227.out 0; have hfz11_1 := blk_frozen BK227.out 1) | ((with_reducible refine gate_callee (f := 42) rfl ?_); refine goesL_ (some 4) rfl rfl Tryd.func42 (by kernel_rfl) rfl #[.agg #[.slice A0_0 l0_0.length c0_0, .slice A0_1 l0_1.length c0_1]] rfl (by (try simp only [List.map_toArray, List.map_cons, List.map_nil]); first | done | rfl | (simp only [List.length_drop, List.length_take]; rfl)) ?_; (with_reducible refine (impl_isFlow.calls k _ _ l0_0 _ _ l0_1 false _ ?side1 ?side2 ?side3 ?side4 A2.out).mono ?_); (case side1 => repeat (first | exact (Kd.C_below HR0_0.out HB.out) | (with_reducible refine Kd.C_alloc ?_ _) | (with_reducible refine Kd.C_drewN ?_ _) | (with_reducible refine Kd.C_drew ?_))); (case side2 => first | exact trivial | (exact HC0_0.out)); (case side3 => repeat (first | exact (Kd.C_below HR0_1.out HB.out) | (with_reducible refine Kd.C_alloc ?_ _) | (with_reducible refine Kd.C_drewN ?_ _) | (with_reducible refine Kd.C_drew ?_))); (case side4 => first | exact trivial | (exact HC0_1.out)); rintro e w12 ⟨rfl, hb⟩; refine ⟨_, rfl, ?_⟩; have n0_ := Aside0.mk (blk_below (g := gb227) (o := .cells #[.slice A0_0 l0_0.length c0_0, .slice A0_1 l0_1.length c0_1] 25 (0, 0)) (by (with_reducible repeat (first | refine blk_drewN ?_ _ | refine blk_drew ?_ | refine blk_alloc ?_ _)); exact BK227.out) hb); have n1_ := Aside0.mk (below_step (by repeat (first | (with_reducible first | exact HB.out | apply below_alloc | apply pw_below_drewN | apply below_drew1 | refine below_set ?_ GE227.out) | exact HB.out)) hb); clear BK227; clear HB; have BK227 := n0_; have HB := n1_; clear n0_ n1_; (try clear hb); (try clear hb2); (try clear hk); (try clear hi)))
  go_ret
  exact ⟨by first | rfl | (simp [errW_none, errW_some] <;> rfl) | (simp [*, errW_none, errW_some] <;> rfl), by repeat (first | (with_reducible first | exact HB.out | apply below_alloc | apply pw_below_drewN | apply below_drew1 | refine below_set ?_ GE227.out) | exact HB.out)⟩
end Go.Proofs.YtalkmhnlgfncmaaDoor.X
end
section
-- Written by a program of this session out of the kit's print of the loaded functions: a plain function of a Go function, and its contract.
namespace Go.Proofs.YtalkmhnlgfncmaaDoor.X
open Go.RowKit Go.Proofs.YtalkmhnlgfncmaaDoorW.PrintWords Go.Proofs.YtalkmhnlgfncmaaDoorW.PrintLast Go.Proofs.YtalkmhnlgfncmaaDoorW.PrintMore
attribute [local go_sem] max2_int min2_int max_two min_two max_three min_three max_four min_four   -- for this text's walks alone
set_option linter.unusedVariables false
set_option linter.unusedSimpArgs false
end Go.Proofs.YtalkmhnlgfncmaaDoor.X
end
section
-- Written by a program of this session out of the kit's print of the loaded functions: a plain function of a Go function, and its contract.
namespace Go.Proofs.YtalkmhnlgfncmaaDoor.X
open Go.RowKit Go.Proofs.YtalkmhnlgfncmaaDoorW.PrintWords Go.Proofs.YtalkmhnlgfncmaaDoorW.PrintLast Go.Proofs.YtalkmhnlgfncmaaDoorW.PrintMore
attribute [local go_sem] max2_int min2_int max_two min_two max_three min_three max_four min_four   -- for this text's walks alone
set_option linter.unusedVariables false
set_option linter.unusedSimpArgs false
def spec_l00In.f (a0 : Int) (a1 : Int) (a2 : Int) : Option (Bool) := if a0 ≥ a1 then (some (decide (a0 ≤ a2))) else (some false)
set_option maxHeartbeats 8000000 in
set_option maxRecDepth 100000 in
theorem spec_l00In.calls (a0 : Int) (a1 : Int) (a2 : Int) (r : Bool) (w : World) (h : spec_l00In.f a0 a1 a2 = some r) :
  Calls Tryd.prog 51 #[.int .i64 a0, .int .i64 a1, .int .i64 a2] w fun e w' => e = .returned (.bool r) ∧ Drawn0 w w' := by
 have H : (if a0 ≥ a1 then (some (decide (a0 ≤ a2))) else (some false)) = some r := h
 clear h
 by_cases c4 : a0 ≥ a1
 ·rw [if_pos c4] at H
  have c4b0 : decide (a1 ≤ a0) = true := decide_eq_true c4
  clear c4
  obtain rfl := Option.some.inj H
  go_enter Tryd.func51, Tryd.ntmps51
  go_wp2
  go_ret
  exact ⟨by first | rfl | (simp; done) | (simp [*]; done), by repeat (first | exact Drawn0.refl _ | apply Drawn0.step)⟩
 ·rw [if_neg c4] at H
  have c4b0 : decide (a1 ≤ a0) = false := decide_eq_false c4
  clear c4
  obtain rfl := Option.some.inj H
  go_enter Tryd.func51, Tryd.ntmps51
  go_wp2
  go_ret
  exact ⟨by first | rfl | (simp; done) | (simp [*]; done), by repeat (first | exact Drawn0.refl _ | apply Drawn0.step)⟩
end Go.Proofs.YtalkmhnlgfncmaaDoor.X
end
