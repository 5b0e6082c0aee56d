/- My own texts of this seat and its words, merged: XFun, Xp0, XClone, Xp17, Xp18, Xp19, XMarks, Xp92, XMat, XAppRow, XInvReg, XDrawReg, Xp71, Xp106, Xp96, Xp45, Xp78, Xp100, Xp101, Xp79, Xp51. Conditions: as each lemma says. -/
import Derived.Test.YtojpibpjieanhaaProg
import Derived.Below
import Derived.Deep.Draws
import Derived.Deep.AppendLies
import Derived.OwnWalk
import Derived.Laws.OwnMore
import Derived.Deep.OwnRows
import Derived.Tactics
import Derived.Lib.ConvBytes
import Derived.Laws.Slices
import Derived.WalkKit
import Derived.KernelRfl
import Derived.RowKit3
import Derived.Deep.LoopGhost
import Derived.Deep.QuietTactic
import Derived.BigQuiet
import Derived.Deep.DeepCutAuto
import Derived.Deep.CutBlock
import Derived.OrdersHeld
import Derived.RowKit
import Derived.Test.YtojpibpjieanhaaO0
import Derived.Test.YtojpibpjieanhaaO1
import Derived.Test.YtojpibpjieanhaaO5
import Derived.Test.YtojpibpjieanhaaO11
import Derived.Maps.AppendAt
import Derived.Laws.BytesArg
import Derived.Laws.MakeOwn
import Derived.WideLaws
import Derived.Deep.RegionHeld3
import Derived.Laws.Rows
import Derived.Lib.AppendStr
import Derived.ArgAppend
import Derived.Laws.IdiomCopy
import Derived.Laws.BitsLemmas
import Derived.Test.YtojpibpjieanhaaO12
import Derived.Test.YtojpibpjieanhaaO13
import Derived.Test.YtojpibpjieanhaaO6
import Derived.Test.YtojpibpjieanhaaO2
import Derived.Test.YtojpibpjieanhaaO3
import Derived.Test.YtojpibpjieanhaaO7
import Derived.Test.YtojpibpjieanhaaO4
import Derived.Test.YtojpibpjieanhaaO8
import Derived.Test.YtojpibpjieanhaaO9
import Derived.Test.YtojpibpjieanhaaO14
import Derived.Test.YtojpibpjieanhaaO15
import Derived.Test.YtojpibpjieanhaaO16
import Derived.Test.YtojpibpjieanhaaO17
import Derived.Test.YtojpibpjieanhaaO18
import Derived.Test.YtojpibpjieanhaaO19
import Derived.Test.YtojpibpjieanhaaO20
import Derived.Test.YtojpibpjieanhaaO10
import Derived.WalkSpells
import Derived.RegionTactic
import Derived.BigRegion
import Derived.Deep.RegionLaw
import Derived.StillTailTactics
import Derived.StillTail
section
namespace Go.Proofs.Ytojpibpjieanhaa.X
open Go.RowKit Go.Proofs.YtojpibpjieanhaaW.PrintWords Go.Proofs.YtojpibpjieanhaaW.PrintLast Go.Proofs.YtojpibpjieanhaaW.PrintMore
theorem to_below_d {w w' : World} (h : Drawn0 w w') : Below w.heap.size w w' := h.below
theorem to_below_b {w w' : World} (h : Below w.heap.size w w') : Below w.heap.size w w' := h
section
variable {P : Program} {ops : Array Oper} {Q : Exit → Act → World → Prop}
theorem goesV_ {rest : List Oper} {oi : Oper} {a : Act} {w : World} (N : Option Tmp) (hd : oi.dst = N) (hg : oi.guard = none) {f : FuncId} {fn : Func} {caps : Array Value} {x : Operand} {zs : Array Operand} {ts : Array TypeId} (hf : P.funcs[f]? = some fn) (hname : (fn.name == "runtime.NumGoroutine") = false) (hb : fn.body.isSome = true) (args : Array Value)
    (hop : oi.op = .call { callee := .value x, args := zs, argTypes := ts }) (hx : a.eval x = .func (.func f) #[] caps) (hargs : zs.map a.eval = args)
    (h : Calls P f (args ++ caps) w fun e w' => ∃ v, e = .returned v ∧ wpList P ops Q rest (a.put N v) w') : wpList P ops Q (oi :: rest) a w := by
  refine wpList_plain hg fun K hK => ?_
  have he := enters_ hf hname hb (args ++ caps) w
  have hrun : (execOp a.eval oi).run P w = .ok (.enter f (args ++ caps)) w := by
    unfold execOp
    simp [hop, resolve, Deferred.ofValue, invoke, hx, hargs, he]
  unfold Oper.wp
  rw [hrun, Oper.upon_enter]
  refine h.mono fun e w'' hh => ?_
  obtain ⟨v, rfl, hk⟩ := hh
  subst hd
  exact hK _ _ hk
end
structure CloIs (P : Program) (f : Nat) (fn : Func) : Prop where
  hf : P.funcs[f]? = some fn
  hname : (fn.name == "runtime.NumGoroutine") = false
  hb : fn.body.isSome = true
end Go.Proofs.Ytojpibpjieanhaa.X
end
section
-- Written by a program of this session out of the kit's print of the loaded functions: a plain function of a Go function, and its contract.
namespace Go.Proofs.Ytojpibpjieanhaa.X
open Go.RowKit Go.Proofs.YtojpibpjieanhaaW.PrintWords Go.Proofs.YtojpibpjieanhaaW.PrintLast Go.Proofs.YtojpibpjieanhaaW.PrintMore
attribute [local go_sem] max2_int min2_int max_two min_two max_three min_three max_four min_four   -- for this text's walks alone
set_option linter.unusedVariables false
set_option linter.unusedSimpArgs false
def errW : Option Int → Value
 | none => .nilIface
 | some c => .iface 0 (.int .i64 c)
theorem errW_none : errW none = .nilIface := rfl
theorem errW_some (c : Int) : errW (some c) = .iface 0 (.int .i64 c) := rfl
theorem info2 : (Try.prog.info? 2).map (fun i => (i.zero, i.size, i.bytes)) = some (some (.int .i64 0), 1, 8) := by kernel_rfl
theorem info55 : (Try.prog.info? 55).map (fun i => (i.zero, i.size, i.bytes)) = some (some (.agg #[(.int .i64 0), (.int .i64 0), (.int .i64 0)]), 3, 24) := by kernel_rfl
-- the values' own types
structure S96 where
 f0 : Int
 f1 : Int
 f2 : Int
structure S55 where
 f0 : Int
 f1 : Int
 f2 : Int
def z55 : S55 := ⟨(0 : Int), (0 : Int), (0 : Int)⟩
def k55 : Kd S55 := Kd.iso (Kd.pair (Kd.int .i64) (Kd.pair (Kd.int .i64) (Kd.int .i64))) (fun x : S55 => (x.f0, x.f1, x.f2))
theorem k55_open {w : World} {x : S55} {cs : List Value} (h : k55.K w x cs) : cs = [.int .i64 x.f0, .int .i64 x.f1, .int .i64 x.f2] := by
 obtain ⟨_, _, rfl, rfl, ⟨_, _, rfl, rfl, rfl⟩⟩ := h
 exact rfl
theorem k55_mk (w : World) (x : S55)  : k55.K w x [.int .i64 x.f0, .int .i64 x.f1, .int .i64 x.f2] := ⟨[.int .i64 x.f0], [.int .i64 x.f1, .int .i64 x.f2], rfl, rfl, ⟨[.int .i64 x.f1], [.int .i64 x.f2], rfl, rfl, rfl⟩⟩
theorem k55_mkM (w : World) (base : Nat) (ok : Nat → Prop) (x : S55)  : k55.M w base ok x [.int .i64 x.f0, .int .i64 x.f1, .int .i64 x.f2] := ⟨[.int .i64 x.f0], [.int .i64 x.f1, .int .i64 x.f2], rfl, rfl, ⟨[.int .i64 x.f1], [.int .i64 x.f2], rfl, rfl, rfl⟩⟩
def rd_T55 (xs : List S55) (i : Int) : S55 := xs.getD i.toNat z55
theorem at_T55 {w : World} {A : Option Addr} {n : Nat} {xs : List S55} (h : Kd.C k55 w A n xs) (i : Int) (h0 : 0 ≤ i) (h1 : i < n) : ∃ ad , A = some ad ∧ w.cell? (ad.add (i.toNat * 3)) = some (.int .i64 (rd_T55 xs i).f0) ∧ w.cell? ⟨(ad.add (i.toNat * 3)).block, (ad.add (i.toNat * 3)).off + 1, none⟩ = some (.int .i64 (rd_T55 xs i).f1) ∧ w.cell? ⟨(ad.add (i.toNat * 3)).block, (ad.add (i.toNat * 3)).off + 2, none⟩ = some (.int .i64 (rd_T55 xs i).f2) := by
 obtain ⟨ad, c, e, _, hK, hc0⟩ := Kd.C_get h z55 i h0 h1
 have hc : ∀ j u, c[j]? = some u → w.cell? (ad.add (i.toNat * 3 + j)) = some u := hc0
 obtain rfl := k55_open hK
 exact ⟨ad, e, hc 0 _ rfl, by rw [← add_field _ _ 1 (by omega)]; exact hc 1 _ rfl, by rw [← add_field _ _ 2 (by omega)]; exact hc 2 _ rfl⟩
structure S77 where
 f0 : Int
 f1 : Int
 f2 : Bool
end Go.Proofs.Ytojpibpjieanhaa.X
end
section
namespace Go.Proofs.Ytojpibpjieanhaa.X
open Go.RowKit Go.Proofs.YtojpibpjieanhaaW.PrintWords Go.Proofs.YtojpibpjieanhaaW.PrintLast Go.Proofs.YtojpibpjieanhaaW.PrintMore
set_option linter.unusedVariables false
set_option linter.unusedSimpArgs false
def slices_Clone_int64_int64.f (l0 : List Int) : Option (List Int) := if l0.length < 17592186044416 then some l0 else none
set_option maxHeartbeats 8000000 in
set_option maxRecDepth 100000 in
theorem Clone_some (ad : Addr) (c0 : Nat) (l0 r : List Int) (w : World) (hr0 : Kd.C (Kd.int .i64) w (some ad) l0.length l0) (hlen : l0.length < 17592186044416) (hr : r = l0) :
    Calls Try.prog 69 #[.slice (some ad) l0.length c0] w fun e w' => ∃ v0_ : Value, e = .returned (v0_) ∧ Kd.R (Kd.int .i64) 2 w' w.heap.size (fun _ => True) v0_ r ∧ Below w.heap.size w w' := by
  have HR0 := Aside0.mk hr0
  clear hr0
  have HB := Aside0.mk (Below.refl w.heap.size w)
  obtain ⟨y313, hy313⟩ : ∃ y_ : List Int, y_ = (([] : List Int)) := ⟨_, rfl⟩
  have Ny313 := Aside0.mk hy313
  have LMc2 : Aside0 (y313.length + l0.length < 17592186044416) := ⟨by rw [hy313]; simpa using hlen⟩
  obtain ⟨y316, hy316⟩ : ∃ y_ : List Int, y_ = (y313 ++ l0) := ⟨_, rfl⟩
  have Ny316 := Aside0.mk hy316
  have HE : Aside0 (y316 = r) := ⟨by rw [hy316, hy313, hr]; rfl⟩
  clear hy313 hy316 hr hlen
  have e1 := fun (W : World) => Lib.run_eql_slice_nil (P := Try.prog) W 22 2 (some ad) l0.length c0 0 0 Try.underlying22
  go_enter Try.func69, Try.ntmps69
  go_wp2_with (first | ((with_reducible refine gate_dst (N := 5) rfl ?_); refine Kd.R_lit (Kd.int .i64) _ 2 ?hg (N := 5) ?hd (xs := ([] : List Int)) (inner := []) (ok := fun _ => True) (okp := fun _ => True) ?hr ?hp (fun _ hk => hk) trivial (Below.refl _ _) (Nat.le_refl _) (by simp) ?_; (case hd => rfl); (case hg => rfl); (case hr => first | (go_simp; done) | (go_simp; rfl)); (case hp => exact (Reps.none _ _)); intro v314 w3 ho4 hb hg_ hnew_; clear hg_ hnew_; (first | rw [← Ny313.out] at ho4 | (simp only [Int.reduceToNat] at ho4; rw [← Ny313.out] at ho4)); have n0_ := Aside0.mk (Kd.R_lower ho4 (below_size (by repeat (first | (with_reducible first | exact HB.out | apply below_alloc | apply pw_below_drewN | apply below_drew1) | exact HB.out)))); have n1_ := Aside0.mk (below_step (by repeat (first | (with_reducible first | exact HB.out | apply below_alloc | apply pw_below_drewN | apply below_drew1) | exact HB.out)) hb); clear HB; have HO315 := n0_; have HB := n1_; clear n0_ n1_; clear hb ho4) | ((with_reducible refine gate_builtin (b := .append) (xs := #[.tmp 5, .tmp 6]) rfl ?_); at_builtin; refine Kd.R_append_rows (Kd.int .i64) (w0 := w) w.heap.size rfl (.tmp 5) (.tmp 6) 22 2 (.int .i64 0) 8 rfl Try.underlying22 info2 rfl (by decide) (by omega) v314 y313 l0 _ _ _ (fun _ => True) (fun _ => False) rfl rfl ?aO ?aR (fun _ _ h => h) (fun _ h => h.elim) ?aF ?aB ?aS ?aL ?_; (case aR => repeat (first | exact (Kd.C_below HR0.out HB.out) | (with_reducible refine Kd.C_alloc ?_ _) | (with_reducible refine Kd.C_drewN ?_ _) | (with_reducible refine Kd.C_drew ?_))); (case aB => exact (by repeat (first | (with_reducible first | exact HB.out | apply below_alloc | apply pw_below_drewN | apply below_drew1) | exact HB.out))); (case aF => exact (fun _ _ => trivial)); (case aO => exact (by (with_reducible repeat (first | apply Kd.R_alloc | apply Kd.R_drewN | apply Kd.R_drew)); exact HO315.out)); (case aS => exact (below_size (by repeat (first | (with_reducible first | exact HB.out | apply below_alloc | apply pw_below_drewN | apply below_drew1) | exact HB.out)))); (case aL => have := LMc2.out; omega); intro v317 w5 ho hb hg hat; rw [← Ny316.out] at ho; have n0_ := Aside0.mk (hb); have n1_ := Aside0.mk (ho); clear HB; clear HO315; have HB := n0_; have HO318 := n1_; clear n0_ n1_; clear ho hb hg hat))
  go_ret
  exact ⟨_, rfl, by (with_reducible repeat (first | apply Kd.R_alloc | apply Kd.R_drewN | apply Kd.R_drew)); rw [← HE.out]; exact HO318.out, by repeat (first | (with_reducible first | exact HB.out | apply below_alloc | apply pw_below_drewN | apply below_drew1) | exact HB.out)⟩
set_option maxHeartbeats 8000000 in
set_option maxRecDepth 100000 in
theorem Clone_none (c0 : Nat) (w : World) :
    Calls Try.prog 69 #[.slice none 0 c0] w fun e w' => ∃ v0_ : Value, e = .returned (v0_) ∧ Kd.R (Kd.int .i64) 2 w' w.heap.size (fun _ => True) v0_ [] ∧ Below w.heap.size w w' := by
  have e1 := fun (W : World) => Lib.run_eql_slice_nil (P := Try.prog) W 22 2 none 0 c0 0 0 Try.underlying22
  go_enter Try.func69, Try.ntmps69
  go_wp2
  go_ret
  exact ⟨_, rfl, Kd.R_nil _ _ _ _ _, Below.refl _ _⟩
theorem slices_Clone_int64_int64.calls (A0 : Option Addr) (c0 : Nat) (l0 : List Int) (r : List Int) (w : World) (hr0 : Kd.C (Kd.int .i64) w A0 l0.length l0) (hc0 : True) (h : slices_Clone_int64_int64.f l0 = some r) :
    Calls Try.prog 69 #[.slice A0 l0.length c0] w fun e w' => ∃ v0_ : Value, e = .returned (v0_) ∧ Kd.R (Kd.int .i64) 2 w' w.heap.size (fun _ => True) v0_ r ∧ Below w.heap.size w w' := by
  unfold slices_Clone_int64_int64.f at h
  by_cases hl : l0.length < 17592186044416
  · rw [if_pos hl] at h
    have hr := (Option.some.inj h).symm
    cases A0 with
    | some ad => exact Clone_some ad c0 l0 r w hr0 hl hr
    | none =>
      have e : l0 = [] := by
        rcases l0 with _ | ⟨x, l⟩
        · rfl
        · obtain ⟨ad, h1, _⟩ := hr0.2.2 (by simp)
          cases h1
      subst e
      subst hr
      exact Clone_none c0 w
  · rw [if_neg hl] at h
    exact absurd h (by simp)
end Go.Proofs.Ytojpibpjieanhaa.X
end
section
-- Written by a program of this session out of the kit's print of the loaded functions: a plain function of a Go function, and its contract.
namespace Go.Proofs.Ytojpibpjieanhaa.X
open Go.RowKit Go.Proofs.YtojpibpjieanhaaW.PrintWords Go.Proofs.YtojpibpjieanhaaW.PrintLast Go.Proofs.YtojpibpjieanhaaW.PrintMore
attribute [local go_sem] max2_int min2_int max_two min_two max_three min_three max_four min_four   -- for this text's walks alone
set_option linter.unusedVariables false
set_option linter.unusedSimpArgs false
end Go.Proofs.Ytojpibpjieanhaa.X
end
section
-- Written by a program of this session out of the kit's print of the loaded functions: a plain function of a Go function, and its contract.
namespace Go.Proofs.Ytojpibpjieanhaa.X
open Go.RowKit Go.Proofs.YtojpibpjieanhaaW.PrintWords Go.Proofs.YtojpibpjieanhaaW.PrintLast Go.Proofs.YtojpibpjieanhaaW.PrintMore
attribute [local go_sem] max2_int min2_int max_two min_two max_three min_three max_four min_four   -- for this text's walks alone
set_option linter.unusedVariables false
set_option linter.unusedSimpArgs false
end Go.Proofs.Ytojpibpjieanhaa.X
end
section
-- Written by a program of this session out of the kit's print of the loaded functions: a plain function of a Go function, and its contract.
namespace Go.Proofs.Ytojpibpjieanhaa.X
open Go.RowKit Go.Proofs.YtojpibpjieanhaaW.PrintWords Go.Proofs.YtojpibpjieanhaaW.PrintLast Go.Proofs.YtojpibpjieanhaaW.PrintMore
attribute [local go_sem] max2_int min2_int max_two min_two max_three min_three max_four min_four   -- for this text's walks alone
set_option linter.unusedVariables false
set_option linter.unusedSimpArgs false
end Go.Proofs.Ytojpibpjieanhaa.X
end
section
namespace Go.Proofs.Ytojpibpjieanhaa.X
open Go.RowKit Go.Proofs.YtojpibpjieanhaaW.PrintWords Go.Proofs.YtojpibpjieanhaaW.PrintLast Go.Proofs.YtojpibpjieanhaaW.PrintMore
theorem w64 {n : Int} (h0 : -9223372036854775808 ≤ n) (h1 : n ≤ 9223372036854775807) : wrap64 n = n := by unfold wrap64; omega
theorem mx_eq (a b : Int) : mx a b = max a b := by unfold mx; split <;> omega
theorem tmodp {a b : Int} (h : 0 ≤ a) : Int.tmod a b = a % b := Int.tmod_eq_emod_of_nonneg h
theorem rd_nat (l : List Int) (i : Nat) (h : i < l.length) : rd l (i : Int) = l[i] := by
  unfold rd
  simp [h]
end Go.Proofs.Ytojpibpjieanhaa.X
end
section
-- Written by a program of this session out of the kit's print of the loaded functions: a plain function of a Go function, and its contract.
namespace Go.Proofs.Ytojpibpjieanhaa.X
open Go.RowKit Go.Proofs.YtojpibpjieanhaaW.PrintWords Go.Proofs.YtojpibpjieanhaaW.PrintLast Go.Proofs.YtojpibpjieanhaaW.PrintMore
attribute [local go_sem] max2_int min2_int max_two min_two max_three min_three max_four min_four   -- for this text's walks alone
set_option linter.unusedVariables false
set_option linter.unusedSimpArgs false
end Go.Proofs.Ytojpibpjieanhaa.X
end
section
namespace Go.Proofs.Ytojpibpjieanhaa.X
open Go.RowKit Go.Proofs.YtojpibpjieanhaaW.PrintWords Go.Proofs.YtojpibpjieanhaaW.PrintLast Go.Proofs.YtojpibpjieanhaaW.PrintMore
set_option linter.unusedVariables false
set_option linter.unusedSimpArgs false
structure Bt where
  r : Int
  d : Int
  f : Bool
def upd (M : Nat → Nat → Bt) (i j : Nat) (x : Bt) : Nat → Nat → Bt := fun a b => if a = i ∧ b = j then x else M a b
structure MatW (B n : Nat) (w : World) (g3 GR : Nat) (Gs : Nat → Nat) (cR : Nat) (M : Nat → Nat → Bt) : Prop where
  b3 : w.heap[g3]? = some (.cells #[.slice (some ⟨GR, 0, none⟩) n cR] 79 (0, 0))
  row : ∃ cells, w.heap[GR]? = some (.cells cells 78 (0, 0)) ∧ (cells.size = cR ∧ n ≤ cR ∧ cR ≤ maxLen) ∧ ∀ i, i < n → cells[i]? = some (.slice (some ⟨Gs i, 0, none⟩) n n)
  blk : ∀ i, i < n → ∃ cells, w.heap[Gs i]? = some (.cells cells 77 (0, 0)) ∧ cells.size = n * 3 ∧ ∀ j, j < n → cells[j * 3]? = some (.int .i64 (M i j).r) ∧ cells[j * 3 + 1]? = some (.int .i64 (M i j).d) ∧ cells[j * 3 + 2]? = some (.bool (M i j).f)
  inj : ∀ i j, i < n → j < n → Gs i = Gs j → i = j
  h3 : B ≤ g3
  hR : B ≤ GR
  hs : ∀ i, i < n → B ≤ Gs i
variable {B n : Nat} {w : World} {g3 GR : Nat} {Gs : Nat → Nat} {cR : Nat} {M : Nat → Nat → Bt}
theorem MatW.keep (h : MatW B n w g3 GR Gs cR M) {w1 : World} (hk : ∀ k o, w.heap[k]? = some o → (k = g3 ∨ k = GR ∨ ∃ i, i < n ∧ k = Gs i) → w1.heap[k]? = some o) : MatW B n w1 g3 GR Gs cR M :=
  { h with
    b3 := hk _ _ h.b3 (.inl rfl)
    row := by obtain ⟨cells, h1, h2⟩ := h.row; exact ⟨cells, hk _ _ h1 (.inr (.inl rfl)), h2⟩
    blk := fun i hi => by obtain ⟨cells, h1, h2⟩ := h.blk i hi; exact ⟨cells, hk _ _ h1 (.inr (.inr ⟨i, hi, rfl⟩)), h2⟩ }
theorem MatW.move (h : MatW B n w g3 GR Gs cR M) {w1 : World} (hb : Below w.heap.size w w1) : MatW B n w1 g3 GR Gs cR M :=
  h.keep fun k o ho _ => (hb.block k (blk_lt ho)).trans ho
theorem MatW.drew (h : MatW B n w g3 GR Gs cR M) : MatW B n w.drew g3 GR Gs cR M := h.move (below_drew1 (Below.refl _ _))
theorem MatW.alloc (h : MatW B n w g3 GR Gs cR M) (o : Obj) : MatW B n (w.alloc o) g3 GR Gs cR M := h.move (below_alloc (Below.refl _ _) _)
theorem MatW.far (h : MatW B n w g3 GR Gs cR M) {g : Nat} {cs : Array Value} {t : TypeId} (hg : w.heap[g]? = some (.cells cs t (0, 0))) (h1 : 79 ≠ t) (h2 : 78 ≠ t) (h3 : 77 ≠ t) (j : Nat) (u : Value) : MatW B n (w.setCell ⟨g, j, none⟩ u) g3 GR Gs cR M :=
  h.keep fun k o ho hk => by
    refine (Below.heap_setCell w ⟨g, j, none⟩ u k ?_).trans ho
    rcases hk with rfl | rfl | ⟨i, hi, rfl⟩
    · exact blk_ne h.b3 hg h1
    · obtain ⟨cells, q1, _⟩ := h.row; exact blk_ne q1 hg h2
    · obtain ⟨cells, q1, _⟩ := h.blk i hi; exact blk_ne q1 hg h3
theorem MatW.c3 (h : MatW B n w g3 GR Gs cR M) : w.cell? ⟨g3, 0, none⟩ = some (.slice (some ⟨GR, 0, none⟩) n cR) := (blk_cell h.b3 0).trans rfl
theorem set_get (cs : Array Value) (p q : Nat) (u : Value) : (cs.setIfInBounds p u)[q]? = if p = q then (if p < cs.size then some u else none) else cs[q]? := Array.getElem?_setIfInBounds
theorem MatW.put (h : MatW B n w g3 GR Gs cR M) (i j : Nat) (hi : i < n) (hj : j < n) (x : Bt) :
    MatW B n (((w.setCell ⟨Gs i, j * 3, none⟩ (.int .i64 x.r)).setCell ⟨Gs i, j * 3 + 1, none⟩ (.int .i64 x.d)).setCell ⟨Gs i, j * 3 + 2, none⟩ (.bool x.f)) g3 GR Gs cR (upd M i j x) := by
  obtain ⟨ci, q1, qz, q2⟩ := h.blk i hi
  have p1 := blk_put q1 (j * 3) (.int .i64 x.r) rfl
  have p2 := blk_put p1 (j * 3 + 1) (.int .i64 x.d) rfl
  have p3 := blk_put p2 (j * 3 + 2) (.bool x.f) rfl
  have far : ∀ (k : Nat) (o : Obj), w.heap[k]? = some o → k ≠ Gs i → (((w.setCell ⟨Gs i, j * 3, none⟩ (.int .i64 x.r)).setCell ⟨Gs i, j * 3 + 1, none⟩ (.int .i64 x.d)).setCell ⟨Gs i, j * 3 + 2, none⟩ (.bool x.f)).heap[k]? = some o := fun k o ho hk =>
    (Below.heap_setCell _ ⟨Gs i, j * 3 + 2, none⟩ _ k hk).trans ((Below.heap_setCell _ ⟨Gs i, j * 3 + 1, none⟩ _ k hk).trans ((Below.heap_setCell w ⟨Gs i, j * 3, none⟩ _ k hk).trans ho))
  exact { h with
    b3 := far _ _ h.b3 (blk_ne h.b3 q1 (by decide))
    row := by obtain ⟨cells, r1, r2⟩ := h.row; exact ⟨cells, far _ _ r1 (blk_ne r1 q1 (by decide)), r2⟩
    blk := fun a ha => by
      by_cases e : a = i
      · subst e
        refine ⟨_, p3, by simpa only [Array.size_setIfInBounds] using qz, fun b hb => ?_⟩
        obtain ⟨k1, k2, k3⟩ := q2 b hb
        obtain ⟨l1, l2, l3⟩ := q2 j hj
        have s1 := (Array.getElem?_eq_some_iff.1 l1).1
        have s2 := (Array.getElem?_eq_some_iff.1 l2).1
        have s3 := (Array.getElem?_eq_some_iff.1 l3).1
        simp only [set_get, Array.size_setIfInBounds]
        unfold upd
        by_cases eb : b = j
        · subst eb
          simp [s1, s2, s3]
        · rw [if_neg (show ¬ (a = a ∧ b = j) from fun hh => eb hh.2), if_neg (by omega), if_neg (by omega), if_neg (by omega), if_neg (by omega), if_neg (by omega), if_neg (by omega), if_neg (by omega), if_neg (by omega), if_neg (by omega)]
          exact ⟨k1, k2, k3⟩
      · obtain ⟨cells, r1, rz, r2⟩ := h.blk a ha
        refine ⟨cells, far _ _ r1 (fun hh => e (h.inj a i ha hi hh)), rz, fun b hb => ?_⟩
        unfold upd
        rw [if_neg (show ¬ (a = i ∧ b = j) from fun hh => e hh.1)]
        exact r2 b hb }
theorem step_append_own {P : Program} {ops : Array Oper} {o : Oper} {a : Act} {w : World} {K : Act → World → Prop} {Q : Exit → Act → World → Prop} {E : Prop} (hgd : o.guard = none) (s x : Operand) (t : TypeId)
    (ho : o.op = Op.call { callee := Callee.builtin Builtin.append, args := #[s, x], argTypes := #[t, t] }) (e : TypeId) (z : Value) (bytes : Nat)
    (ht : P.underlying t = some (.slice e)) (hinfo : (P.info? e).map (fun i => (i.zero, i.size, i.bytes)) = some (some z, 1, bytes)) (hz : z.cells.size = 1) (hb0 : 0 < bytes)
    (base : Nat) (v : Value) (n : Nat) (xs : List Value) (hs : a.eval s = v) (ad : Addr) (c : Nat) (y : Value) (hx : a.eval x = .slice (some ad) 1 c) (hc : w.cell? ad = some y) (h1 : y.oneCell' = true)
    (HO : w.ownsRow base e 1 v n xs) (hbase : base ≤ w.heap.size) (hl : (n + 1) * bytes ≤ 140737488355328)
    (hK : ∀ v' w', w'.ownsRow base e 1 v' (n + 1) (xs ++ [y]) → w.grownBy w' v.ownBlock → (v'.ownBlock = v.ownBlock ∨ ∃ b, v'.ownBlock = some b ∧ w.heap.size ≤ b) → K (a.put o.dst v') w') :
    if Region.wanted o (yielded ops a.tmps) = true then Oper.wp P o a w K Q else E := by
  have hw : Region.wanted o (yielded ops a.tmps) = true := by simp [Region.wanted, hgd]
  rw [if_pos hw]
  obtain ⟨i0, hi, hzz⟩ := Option.map_eq_some_iff.1 hinfo
  simp only [Prod.mk.injEq] at hzz
  obtain ⟨hz0, hz1, hz2⟩ := hzz
  have hlen : n + 1 ≤ 140737488355328 := Nat.le_trans (Nat.le_mul_of_pos_right _ hb0) hl
  obtain ⟨v1, w1, hr, h2, h3, _, h5⟩ := run_append_own_at (P := P) (w := w) base t o.type e i0 z 1 bytes ht hi hz0 hz1 hz2 hz (by omega) v n xs HO ad 1 c [y] rfl
    (fun j u hj => by
      cases j with
      | zero => rw [← Option.some.inj hj]; simpa [Addr.add] using hc
      | succ j => simp at hj)
    (by intro u hu; obtain rfl := List.mem_singleton.1 hu; exact h1) (by simp only [maxLen]; omega) hl hbase
  unfold Oper.wp
  simp [execOp, ho, resolve, invoke, builtin, hs, hx, hr, Result.andThen]
  refine hK v1 w1 h2 h3 ?_
  rcases h5 with h5 | h5
  · exact .inl h5
  · exact .inr ⟨_, h5, Nat.le_refl _⟩
end Go.Proofs.Ytojpibpjieanhaa.X
end
section
namespace Go.Proofs.Ytojpibpjieanhaa.X
open Go.RowKit Go.Proofs.YtojpibpjieanhaaW.PrintWords Go.Proofs.YtojpibpjieanhaaW.PrintLast Go.Proofs.YtojpibpjieanhaaW.PrintMore
set_option linter.unusedVariables false
set_option linter.unusedSimpArgs false
theorem step_app_row {α : Type} (k : Kd α) {P : Program} {ops : Array Oper} {o : Oper} {a : Act} {W : World} {Kc : Act → World → Prop} {Q : Exit → Act → World → Prop} (hgd : o.guard = none) (s x : Operand) (t : TypeId)
    (ho : o.op = Op.call { callee := Callee.builtin Builtin.append, args := #[s, x], argTypes := #[t, t] }) (e : TypeId) (z : Value) (bytes : Nat)
    (ht : P.underlying t = some (.slice e)) (hinfo : (P.info? e).map (fun i => (i.zero, i.size, i.bytes)) = some (some z, k.sz, bytes)) (hz : z.cells.size = k.sz) (hs0 : 0 < k.sz) (hb0 : 0 < bytes)
    (base : Nat) (w0 : World) (v : Value) (xs ys : List α) (A : Option Addr) (m c : Nat) (ok : Nat → Prop) (hs : a.eval s = v) (hx : a.eval x = .slice A m c)
    (hKM : ∀ (y : α) (cs : List Value), k.K W y cs → k.M W base (fun _ => False) y cs) (HO : k.R e W base ok v xs) (HR : k.C W A m ys) (hfresh : ∀ j, W.heap.size ≤ j → ok j) (HB : Below base w0 W) (hbase : base ≤ W.heap.size) (hl : (xs.length + m) * bytes ≤ 140737488355328)
    (hK : ∀ v' w', k.R e w' base ok v' (xs ++ ys) → Below base w0 w' → W.grownBy w' v.ownBlock → Kc (a.put o.dst v') w') :
    if Region.wanted o (yielded ops a.tmps) = true then Oper.wp P o a W Kc Q else Kc (a.put o.dst undef) W := by
  have hw : Region.wanted o (yielded ops a.tmps) = true := by simp [Region.wanted, hgd]
  exact Kd.R_append_rows_step k (Rr := k.K W) base hw s x t e z bytes ho ht hinfo hz hs0 hb0 v xs ys A m c ok (fun _ => False) hs hx HO HR hKM (fun _ h => h.elim) hfresh HB hbase hl (fun v1 w1 h1 h2 h3 _ => hK v1 w1 h1 h2 h3)
theorem C_blk {α : Type} (k : Kd α) {W : World} {b : Nat} {cs : List Value} {te : TypeId} (y : α) (h : W.heap[b]? = some (.cells cs.toArray te (0, 0))) (hy : k.K W y cs) : k.C W (some ⟨b, 0, none⟩) 1 [y] := by
  refine ⟨rfl, by omega, fun _ => ⟨_, rfl, fun j p hj => ?_⟩⟩
  rcases j with _ | j
  · obtain rfl : y = p := by simpa using hj
    refine ⟨cs, k.K_len hy, hy, fun i u hi => ?_⟩
    rw [Nat.zero_mul, Nat.zero_add, add_plain]
    exact (blk_cell h i).trans (by simpa using hi)
  · simp at hj
theorem step_callV {P : Program} {ops : Array Oper} {o : Oper} {a : Act} {w : World} {K : Act → World → Prop} {Q : Exit → Act → World → Prop} {E : Prop} (hg : o.guard = none) {f : FuncId} {fn : Func} {caps : Array Value} {x : Operand} {zs : Array Operand} {ts : Array TypeId} (hf : P.funcs[f]? = some fn) (hname : (fn.name == "runtime.NumGoroutine") = false) (hb : fn.body.isSome = true) (args : Array Value)
    (hop : o.op = .call { callee := .value x, args := zs, argTypes := ts }) (hx : a.eval x = .func (.func f) #[] caps) (hargs : zs.map a.eval = args) {R : Value → World → Prop}
    (h : Calls P f (args ++ caps) w fun e w' => ∃ v, e = .returned v ∧ R v w') (hK : ∀ v w', R v w' → K (a.put o.dst v) w') :
    if Region.wanted o (yielded ops a.tmps) = true then Oper.wp P o a w K Q else E := by
  have hw : Region.wanted o (yielded ops a.tmps) = true := by simp [Region.wanted, hg]
  rw [if_pos hw]
  have he := enters_ hf hname hb (args ++ caps) w
  have hrun : (execOp a.eval o).run P w = .ok (.enter f (args ++ caps)) w := by
    unfold execOp
    simp [hop, resolve, Deferred.ofValue, invoke, hx, hargs, he]
  unfold Oper.wp
  rw [hrun, Oper.upon_enter]
  refine h.mono ?_
  rintro e w' ⟨v, rfl, hr⟩
  exact hK v w' hr
end Go.Proofs.Ytojpibpjieanhaa.X
end
section
namespace Go.Proofs.Ytojpibpjieanhaa.X
open Go
section
variable {P : Program} {ops : Array Oper} {md : Region.Mode} {Q : Exit → Act → World → Prop}
def unl (n : Nat) (listed : Array Bool) : Nat := (List.range n).countP fun i => !listed.getD i true
theorem countP_less {p q : Nat → Bool} : ∀ (l : List Nat), (∀ x, q x = true → p x = true) → (∃ x, x ∈ l ∧ p x = true ∧ q x = false) → l.countP q < l.countP p
  | [], _, h => by obtain ⟨x, hx, _⟩ := h; cases hx
  | y :: l, h1, h2 => by
    have hle : l.countP q ≤ l.countP p := List.countP_mono_left (fun x _ => h1 x)
    rw [List.countP_cons, List.countP_cons]
    obtain ⟨x, hx, hp, hq⟩ := h2
    rcases List.mem_cons.mp hx with e | hx
    · subst e
      rw [if_pos hp, if_neg (by rw [hq]; decide)]; omega
    · have := countP_less l h1 ⟨x, hx, hp, hq⟩
      by_cases hy : q y = true
      · rw [if_pos hy, if_pos (h1 y hy)]; omega
      · rw [if_neg hy]; omega
theorem wpAny_inv (J : Array Bool → Act → World → Prop)
    (hstep : ∀ listed a w, J listed a w → ∀ i ∈ Region.ready md ops listed, wpOp P ops Q i (J (listed.setIfInBounds i true)) a w)
    (hdone : ∀ listed a w, J listed a w → Region.ready md ops listed = [] → Q .normal a w) :
    ∀ (fuel : Nat) (listed : Array Bool) (a : Act) (w : World), J listed a w → unl ops.size listed ≤ fuel → wpAny P md ops Q fuel listed a w
  | 0, listed, a, w, hJ, hu => by
    have hr : Region.ready md ops listed = [] := by
      cases hr : Region.ready md ops listed with
      | nil => rfl
      | cons i l =>
        have hi : i ∈ Region.ready md ops listed := by rw [hr]; exact List.mem_cons_self
        obtain ⟨hun, oj, hoj, _⟩ := mem_ready.1 hi
        have h0 := List.countP_eq_zero.mp (Nat.le_zero.mp hu) i (by
          rw [List.mem_range]
          rcases Nat.lt_or_ge i ops.size with h | h
          · exact h
          · rw [Array.getElem?_eq_none h] at hoj; cases hoj)
        rw [hun] at h0; exact absurd rfl h0
    exact ⟨hr, hdone listed a w hJ hr⟩
  | fuel + 1, listed, a, w, hJ, hu => by
    refine ⟨fun hr => hdone listed a w hJ hr, fun i hi => wpOp_mono (fun a' w' hJ' => wpAny_inv J hstep hdone fuel _ a' w' hJ' ?_) (hstep listed a w hJ i hi)⟩
    obtain ⟨hun, oj, hoj, _⟩ := mem_ready.1 hi
    have : unl ops.size (listed.setIfInBounds i true) < unl ops.size listed := by
      refine countP_less _ (fun x hx => ?_) ⟨i, ?_, by rw [hun]; rfl, ?_⟩
      · by_cases e : i = x
        · subst e; rw [hun]; rfl
        · rwa [getD_set_ne true e] at hx
      · rw [List.mem_range]
        rcases Nat.lt_or_ge i ops.size with h | h
        · exact h
        · rw [Array.getElem?_eq_none h] at hoj; cases hoj
      · have hlt : i < listed.size := by
          rcases Nat.lt_or_ge i listed.size with h | h
          · exact h
          · rw [Array.getD_eq_getD_getElem?, Array.getElem?_eq_none h] at hun; cases hun
        rw [Array.getD_eq_getD_getElem?, Array.getElem?_setIfInBounds_self_of_lt hlt]; rfl
    omega
theorem region_inv {id : Nat} {a : Act} {w : World} (J : Array Bool → Act → World → Prop) (hm : P.follows .mixedOrders = true)
    (h0 : J (Array.replicate ops.size false) a w.drew)
    (hstep : ∀ listed a w, J listed a w → ∀ i ∈ Region.ready .any ops listed, wpOp P ops Q i (J (listed.setIfInBounds i true)) a w)
    (hdone : ∀ listed a w, J listed a w → Region.ready .any ops listed = [] → Q .normal a w) : (Code.region id ops true).wp P Q a w := by
  refine wp_region_any hm (wpAny_inv J hstep hdone _ _ _ _ h0 ?_)
  unfold unl
  exact Nat.le_trans List.countP_le_length (by rw [List.length_range]; exact Nat.le_refl _)
end
end Go.Proofs.Ytojpibpjieanhaa.X
end
section
namespace Go.Proofs.Ytojpibpjieanhaa.X
open Go.RowKit Go.Proofs.YtojpibpjieanhaaW.PrintWords Go.Proofs.YtojpibpjieanhaaW.PrintLast Go.Proofs.YtojpibpjieanhaaW.PrintMore
set_option linter.unusedVariables false
set_option linter.unusedSimpArgs false
structure RF (W7 : World) (g4 : Nat) (A A1 : Option Addr) (d : List Int) (ws : List S55) (c c1 : Nat) (t : S55) (ℓ : Nat → Bool) (w : World) (u44 u45 u46 u47 u48 u49 u50 u51 u52 u53 u8 : Value) (E V M : Nat) (A9 A2 : Option Addr) (c9 c2 : Nat) : Prop where
  bel : Below W7.heap.size W7 w
  s0 : ℓ 0 = true → u44 = .pointer (some ⟨g4, 0, none⟩)
  s1 : ℓ 1 = true → u45 = .slice A d.length c
  s2 : ℓ 2 = true → u46 = .slice (some ⟨E, 0, none⟩) 0 0
  s2e : ℓ 2 = true → W7.heap.size ≤ E ∧ E < w.heap.size
  s2b : ℓ 2 = true → ℓ 5 = false → w.heap[E]? = some (.cells #[] 55 (0, 0))
  s3 : ℓ 3 = true → u47 = .pointer (some ⟨g4, 1, none⟩)
  s4 : ℓ 4 = true → u48 = .slice A1 ws.length c1
  s5 : ℓ 5 = true → u49 = .slice A9 ws.length c9
  s5r : ℓ 5 = true → ℓ 8 = false → Kd.R k55 55 w W7.heap.size (fun _ => True) (.slice A9 ws.length c9) ws
  s6 : ℓ 6 = true → u50 = .agg #[.int .i64 t.f0, .int .i64 t.f1, .int .i64 t.f2]
  s7 : ℓ 7 = true → u51 = .slice (some ⟨V, 0, none⟩) 1 1
  s7v : ℓ 7 = true → V < w.heap.size
  s7b : ℓ 7 = true → ℓ 8 = false → w.heap[V]? = some (.cells #[.int .i64 t.f0, .int .i64 t.f1, .int .i64 t.f2] 55 (0, 0))
  s27 : ℓ 2 = true → ℓ 7 = true → E ≠ V
  cl : ℓ 8 = true → ℓ 5 = true
  s8 : ℓ 8 = true → u52 = .slice A2 (ws ++ [t]).length c2
  s8r : ℓ 8 = true → Kd.R k55 55 w W7.heap.size (fun _ => True) (.slice A2 (ws ++ [t]).length c2) (ws ++ [t])
  cl9 : ℓ 9 = true → ℓ 8 = true
  cl11 : ℓ 11 = true → ℓ 10 = true ∧ ℓ 8 = true
  s9 : ℓ 9 = true → u53 = .agg #[.slice A d.length c, .slice A2 (ws ++ [t]).length c2]
  s10 : ℓ 10 = true → u8 = .pointer (some ⟨M, 0, none⟩)
  s10e : ℓ 10 = true → W7.heap.size ≤ M
  s10b : ℓ 10 = true → ℓ 11 = false → w.heap[M]? = some (.cells #[.slice none 0 0, .slice none 0 0] 36 (0, 0))
  s11b : ℓ 11 = true → w.heap[M]? = some (.cells #[.slice A d.length c, .slice A2 (ws ++ [t]).length c2] 36 (0, 0))
variable {W7 w w' : World} {g4 : Nat} {A A1 : Option Addr} {d : List Int} {ws : List S55} {c c1 : Nat} {t : S55} {ℓ ℓ' : Nat → Bool} {u44 u45 u46 u47 u48 u49 u50 u51 u52 u53 u8 : Value} {E V M : Nat} {A9 A2 : Option Addr} {c9 c2 : Nat}
theorem rowW_ne {α : Type} {k : Kd α} {W : World} {base Z e t : Nat} {ok : Nat → Prop} {v : Value} {xs : List α} {cs : Array Value} (h : Kd.R k e W base ok v xs) (hz : W.heap[Z]? = some (.cells cs t (0, 0))) (hne : t ≠ e) : some Z ≠ v.ownBlock := by
  intro e0
  obtain ⟨c2, q2⟩ := Kd.R_typed h Z e0.symm
  rw [hz] at q2
  injection q2 with q2
  injection q2 with _ q2
  exact hne q2
theorem RW_two {α : Type} {k : Kd α} {W : World} {base Z e t : Nat} {v : Value} {xs : List α} {cs : Array Value} (h : Kd.R k e W base (fun _ => True) v xs) (hz : W.heap[Z]? = some (.cells cs t (0, 0))) (hne : t ≠ e) (hE : k.E = []) (u0 u1 : Value) : Kd.R k e ((W.setCell ⟨Z, 0, none⟩ u0).setCell ⟨Z, 1, none⟩ u1) base (fun _ => True) v xs :=
  Kd.R_mono (Kd.R_far (p := ⟨Z, 1, none⟩) (Kd.R_far (p := ⟨Z, 0, none⟩) (Kd.R_far1 h hE (rowW_ne h hz hne)) (fun _ hk => hk.2) u0) (fun _ hk => hk.2) u1) (fun _ _ => trivial)
theorem blkW_two {W : World} {Z t : Nat} {a b : Value} (hz : W.heap[Z]? = some (.cells #[a, b] t (0, 0))) (u0 u1 : Value) : ((W.setCell ⟨Z, 0, none⟩ u0).setCell ⟨Z, 1, none⟩ u1).heap[Z]? = some (.cells #[u0, u1] t (0, 0)) :=
  blk_put (cs' := #[u0, u1]) (blk_put (cs' := #[u0, b]) hz 0 u0 rfl) 1 u1 rfl
theorem blkW_ne {W : World} {X Z e t : Nat} {cs cz : Array Value} (hx : W.heap[X]? = some (.cells cs e (0, 0))) (hz : W.heap[Z]? = some (.cells cz t (0, 0))) (hne : t ≠ e) : Z ≠ X := by
  intro e0
  rw [e0, hx] at hz
  injection hz with q
  injection q with _ q
  exact hne q.symm
theorem RW_empty {α : Type} (k : Kd α) {W : World} {base X e : Nat} (hX : W.heap[X]? = some (.cells #[] e (0, 0))) (hb : base ≤ X) : Kd.R k e W base (fun _ => True) (.slice (some ⟨X, 0, none⟩) 0 0) ([] : List α) :=
  ⟨fun _ _ => trivial, [], ⟨by simp, .inr ⟨X, 0, #[], rfl, hb, hX, Nat.le_refl _, by simp [maxLen], by simp, by simp⟩⟩, Reps.none _ _⟩
theorem RF.p0 (F : RF W7 g4 A A1 d ws c c1 t ℓ w u44 u45 u46 u47 u48 u49 u50 u51 u52 u53 u8 E V M A9 A2 c9 c2) (hne : ∀ j, j ≠ 0 → ℓ' j = ℓ j) (hk1 : ℓ' 0 = true) (hk0 : ℓ 0 = false) : RF W7 g4 A A1 d ws c c1 t ℓ' w (.pointer (some ⟨g4, 0, none⟩)) u45 u46 u47 u48 u49 u50 u51 u52 u53 u8 E V M A9 A2 c9 c2 := by
  have e1 := hne 1 (by decide)
  have e2 := hne 2 (by decide)
  have e3 := hne 3 (by decide)
  have e4 := hne 4 (by decide)
  have e5 := hne 5 (by decide)
  have e6 := hne 6 (by decide)
  have e7 := hne 7 (by decide)
  have e8 := hne 8 (by decide)
  have e9 := hne 9 (by decide)
  have e10 := hne 10 (by decide)
  have e11 := hne 11 (by decide)
  constructor
  case bel => exact F.bel
  case s0 => exact fun _ => rfl
  case s1 => rw [e1]; exact F.s1
  case s2 => rw [e2]; exact F.s2
  case s2e => rw [e2]; exact F.s2e
  case s2b => rw [e2, e5]; exact F.s2b
  case s3 => rw [e3]; exact F.s3
  case s4 => rw [e4]; exact F.s4
  case s5 => rw [e5]; exact F.s5
  case s5r => rw [e5, e8]; exact F.s5r
  case s6 => rw [e6]; exact F.s6
  case s7 => rw [e7]; exact F.s7
  case s7v => rw [e7]; exact F.s7v
  case s7b => rw [e7, e8]; exact F.s7b
  case s27 => rw [e2, e7]; exact F.s27
  case cl => rw [e8, e5]; exact F.cl
  case s8 => rw [e8]; exact F.s8
  case s8r => rw [e8]; exact F.s8r
  case cl9 => rw [e9, e8]; exact F.cl9
  case cl11 => rw [e11, e10, e8]; exact F.cl11
  case s9 => rw [e9]; exact F.s9
  case s10 => rw [e10]; exact F.s10
  case s10e => rw [e10]; exact F.s10e
  case s10b => rw [e10, e11]; exact F.s10b
  case s11b => rw [e11]; exact F.s11b
theorem RF.p1 (F : RF W7 g4 A A1 d ws c c1 t ℓ w u44 u45 u46 u47 u48 u49 u50 u51 u52 u53 u8 E V M A9 A2 c9 c2) (hne : ∀ j, j ≠ 1 → ℓ' j = ℓ j) (hk1 : ℓ' 1 = true) (hk0 : ℓ 1 = false) : RF W7 g4 A A1 d ws c c1 t ℓ' w u44 (.slice A d.length c) u46 u47 u48 u49 u50 u51 u52 u53 u8 E V M A9 A2 c9 c2 := by
  have e0 := hne 0 (by decide)
  have e2 := hne 2 (by decide)
  have e3 := hne 3 (by decide)
  have e4 := hne 4 (by decide)
  have e5 := hne 5 (by decide)
  have e6 := hne 6 (by decide)
  have e7 := hne 7 (by decide)
  have e8 := hne 8 (by decide)
  have e9 := hne 9 (by decide)
  have e10 := hne 10 (by decide)
  have e11 := hne 11 (by decide)
  constructor
  case bel => exact F.bel
  case s0 => rw [e0]; exact F.s0
  case s1 => exact fun _ => rfl
  case s2 => rw [e2]; exact F.s2
  case s2e => rw [e2]; exact F.s2e
  case s2b => rw [e2, e5]; exact F.s2b
  case s3 => rw [e3]; exact F.s3
  case s4 => rw [e4]; exact F.s4
  case s5 => rw [e5]; exact F.s5
  case s5r => rw [e5, e8]; exact F.s5r
  case s6 => rw [e6]; exact F.s6
  case s7 => rw [e7]; exact F.s7
  case s7v => rw [e7]; exact F.s7v
  case s7b => rw [e7, e8]; exact F.s7b
  case s27 => rw [e2, e7]; exact F.s27
  case cl => rw [e8, e5]; exact F.cl
  case s8 => rw [e8]; exact F.s8
  case s8r => rw [e8]; exact F.s8r
  case cl9 => rw [e9, e8]; exact F.cl9
  case cl11 => rw [e11, e10, e8]; exact F.cl11
  case s9 => rw [e9]; exact F.s9
  case s10 => rw [e10]; exact F.s10
  case s10e => rw [e10]; exact F.s10e
  case s10b => rw [e10, e11]; exact F.s10b
  case s11b => rw [e11]; exact F.s11b
theorem RF.p3 (F : RF W7 g4 A A1 d ws c c1 t ℓ w u44 u45 u46 u47 u48 u49 u50 u51 u52 u53 u8 E V M A9 A2 c9 c2) (hne : ∀ j, j ≠ 3 → ℓ' j = ℓ j) (hk1 : ℓ' 3 = true) (hk0 : ℓ 3 = false) : RF W7 g4 A A1 d ws c c1 t ℓ' w u44 u45 u46 (.pointer (some ⟨g4, 1, none⟩)) u48 u49 u50 u51 u52 u53 u8 E V M A9 A2 c9 c2 := by
  have e0 := hne 0 (by decide)
  have e1 := hne 1 (by decide)
  have e2 := hne 2 (by decide)
  have e4 := hne 4 (by decide)
  have e5 := hne 5 (by decide)
  have e6 := hne 6 (by decide)
  have e7 := hne 7 (by decide)
  have e8 := hne 8 (by decide)
  have e9 := hne 9 (by decide)
  have e10 := hne 10 (by decide)
  have e11 := hne 11 (by decide)
  constructor
  case bel => exact F.bel
  case s0 => rw [e0]; exact F.s0
  case s1 => rw [e1]; exact F.s1
  case s2 => rw [e2]; exact F.s2
  case s2e => rw [e2]; exact F.s2e
  case s2b => rw [e2, e5]; exact F.s2b
  case s3 => exact fun _ => rfl
  case s4 => rw [e4]; exact F.s4
  case s5 => rw [e5]; exact F.s5
  case s5r => rw [e5, e8]; exact F.s5r
  case s6 => rw [e6]; exact F.s6
  case s7 => rw [e7]; exact F.s7
  case s7v => rw [e7]; exact F.s7v
  case s7b => rw [e7, e8]; exact F.s7b
  case s27 => rw [e2, e7]; exact F.s27
  case cl => rw [e8, e5]; exact F.cl
  case s8 => rw [e8]; exact F.s8
  case s8r => rw [e8]; exact F.s8r
  case cl9 => rw [e9, e8]; exact F.cl9
  case cl11 => rw [e11, e10, e8]; exact F.cl11
  case s9 => rw [e9]; exact F.s9
  case s10 => rw [e10]; exact F.s10
  case s10e => rw [e10]; exact F.s10e
  case s10b => rw [e10, e11]; exact F.s10b
  case s11b => rw [e11]; exact F.s11b
theorem RF.p4 (F : RF W7 g4 A A1 d ws c c1 t ℓ w u44 u45 u46 u47 u48 u49 u50 u51 u52 u53 u8 E V M A9 A2 c9 c2) (hne : ∀ j, j ≠ 4 → ℓ' j = ℓ j) (hk1 : ℓ' 4 = true) (hk0 : ℓ 4 = false) : RF W7 g4 A A1 d ws c c1 t ℓ' w u44 u45 u46 u47 (.slice A1 ws.length c1) u49 u50 u51 u52 u53 u8 E V M A9 A2 c9 c2 := by
  have e0 := hne 0 (by decide)
  have e1 := hne 1 (by decide)
  have e2 := hne 2 (by decide)
  have e3 := hne 3 (by decide)
  have e5 := hne 5 (by decide)
  have e6 := hne 6 (by decide)
  have e7 := hne 7 (by decide)
  have e8 := hne 8 (by decide)
  have e9 := hne 9 (by decide)
  have e10 := hne 10 (by decide)
  have e11 := hne 11 (by decide)
  constructor
  case bel => exact F.bel
  case s0 => rw [e0]; exact F.s0
  case s1 => rw [e1]; exact F.s1
  case s2 => rw [e2]; exact F.s2
  case s2e => rw [e2]; exact F.s2e
  case s2b => rw [e2, e5]; exact F.s2b
  case s3 => rw [e3]; exact F.s3
  case s4 => exact fun _ => rfl
  case s5 => rw [e5]; exact F.s5
  case s5r => rw [e5, e8]; exact F.s5r
  case s6 => rw [e6]; exact F.s6
  case s7 => rw [e7]; exact F.s7
  case s7v => rw [e7]; exact F.s7v
  case s7b => rw [e7, e8]; exact F.s7b
  case s27 => rw [e2, e7]; exact F.s27
  case cl => rw [e8, e5]; exact F.cl
  case s8 => rw [e8]; exact F.s8
  case s8r => rw [e8]; exact F.s8r
  case cl9 => rw [e9, e8]; exact F.cl9
  case cl11 => rw [e11, e10, e8]; exact F.cl11
  case s9 => rw [e9]; exact F.s9
  case s10 => rw [e10]; exact F.s10
  case s10e => rw [e10]; exact F.s10e
  case s10b => rw [e10, e11]; exact F.s10b
  case s11b => rw [e11]; exact F.s11b
theorem RF.p6 (F : RF W7 g4 A A1 d ws c c1 t ℓ w u44 u45 u46 u47 u48 u49 u50 u51 u52 u53 u8 E V M A9 A2 c9 c2) (hne : ∀ j, j ≠ 6 → ℓ' j = ℓ j) (hk1 : ℓ' 6 = true) (hk0 : ℓ 6 = false) : RF W7 g4 A A1 d ws c c1 t ℓ' w u44 u45 u46 u47 u48 u49 (.agg #[.int .i64 t.f0, .int .i64 t.f1, .int .i64 t.f2]) u51 u52 u53 u8 E V M A9 A2 c9 c2 := by
  have e0 := hne 0 (by decide)
  have e1 := hne 1 (by decide)
  have e2 := hne 2 (by decide)
  have e3 := hne 3 (by decide)
  have e4 := hne 4 (by decide)
  have e5 := hne 5 (by decide)
  have e7 := hne 7 (by decide)
  have e8 := hne 8 (by decide)
  have e9 := hne 9 (by decide)
  have e10 := hne 10 (by decide)
  have e11 := hne 11 (by decide)
  constructor
  case bel => exact F.bel
  case s0 => rw [e0]; exact F.s0
  case s1 => rw [e1]; exact F.s1
  case s2 => rw [e2]; exact F.s2
  case s2e => rw [e2]; exact F.s2e
  case s2b => rw [e2, e5]; exact F.s2b
  case s3 => rw [e3]; exact F.s3
  case s4 => rw [e4]; exact F.s4
  case s5 => rw [e5]; exact F.s5
  case s5r => rw [e5, e8]; exact F.s5r
  case s6 => exact fun _ => rfl
  case s7 => rw [e7]; exact F.s7
  case s7v => rw [e7]; exact F.s7v
  case s7b => rw [e7, e8]; exact F.s7b
  case s27 => rw [e2, e7]; exact F.s27
  case cl => rw [e8, e5]; exact F.cl
  case s8 => rw [e8]; exact F.s8
  case s8r => rw [e8]; exact F.s8r
  case cl9 => rw [e9, e8]; exact F.cl9
  case cl11 => rw [e11, e10, e8]; exact F.cl11
  case s9 => rw [e9]; exact F.s9
  case s10 => rw [e10]; exact F.s10
  case s10e => rw [e10]; exact F.s10e
  case s10b => rw [e10, e11]; exact F.s10b
  case s11b => rw [e11]; exact F.s11b
theorem RF.p9 (F : RF W7 g4 A A1 d ws c c1 t ℓ w u44 u45 u46 u47 u48 u49 u50 u51 u52 u53 u8 E V M A9 A2 c9 c2) (hne : ∀ j, j ≠ 9 → ℓ' j = ℓ j) (hk1 : ℓ' 9 = true) (hk0 : ℓ 9 = false) (h8 : ℓ 8 = true) : RF W7 g4 A A1 d ws c c1 t ℓ' w u44 u45 u46 u47 u48 u49 u50 u51 u52 (.agg #[.slice A d.length c, .slice A2 (ws ++ [t]).length c2]) u8 E V M A9 A2 c9 c2 := by
  have e0 := hne 0 (by decide)
  have e1 := hne 1 (by decide)
  have e2 := hne 2 (by decide)
  have e3 := hne 3 (by decide)
  have e4 := hne 4 (by decide)
  have e5 := hne 5 (by decide)
  have e6 := hne 6 (by decide)
  have e7 := hne 7 (by decide)
  have e8 := hne 8 (by decide)
  have e10 := hne 10 (by decide)
  have e11 := hne 11 (by decide)
  constructor
  case bel => exact F.bel
  case s0 => rw [e0]; exact F.s0
  case s1 => rw [e1]; exact F.s1
  case s2 => rw [e2]; exact F.s2
  case s2e => rw [e2]; exact F.s2e
  case s2b => rw [e2, e5]; exact F.s2b
  case s3 => rw [e3]; exact F.s3
  case s4 => rw [e4]; exact F.s4
  case s5 => rw [e5]; exact F.s5
  case s5r => rw [e5, e8]; exact F.s5r
  case s6 => rw [e6]; exact F.s6
  case s7 => rw [e7]; exact F.s7
  case s7v => rw [e7]; exact F.s7v
  case s7b => rw [e7, e8]; exact F.s7b
  case s27 => rw [e2, e7]; exact F.s27
  case cl => rw [e8, e5]; exact F.cl
  case s8 => rw [e8]; exact F.s8
  case s8r => rw [e8]; exact F.s8r
  case cl9 => rw [e8]; exact fun _ => h8
  case cl11 => rw [e11, e10, e8]; exact F.cl11
  case s9 => exact fun _ => rfl
  case s10 => rw [e10]; exact F.s10
  case s10e => rw [e10]; exact F.s10e
  case s10b => rw [e10, e11]; exact F.s10b
  case s11b => rw [e11]; exact F.s11b
theorem RF.m2 (F : RF W7 g4 A A1 d ws c c1 t ℓ w u44 u45 u46 u47 u48 u49 u50 u51 u52 u53 u8 E V M A9 A2 c9 c2) (hne : ∀ j, j ≠ 2 → ℓ' j = ℓ j) (hk1 : ℓ' 2 = true) (hk0 : ℓ 2 = false) : RF W7 g4 A A1 d ws c c1 t ℓ' (w.alloc (.cells #[] 55)) u44 u45 (.slice (some ⟨w.heap.size, 0, none⟩) 0 0) u47 u48 u49 u50 u51 u52 u53 u8 w.heap.size V M A9 A2 c9 c2 := by
  have e0 := hne 0 (by decide)
  have e1 := hne 1 (by decide)
  have e3 := hne 3 (by decide)
  have e4 := hne 4 (by decide)
  have e5 := hne 5 (by decide)
  have e6 := hne 6 (by decide)
  have e7 := hne 7 (by decide)
  have e8 := hne 8 (by decide)
  have e9 := hne 9 (by decide)
  have e10 := hne 10 (by decide)
  have e11 := hne 11 (by decide)
  have hsz : (w.alloc (.cells #[] 55)).heap.size = w.heap.size + 1 := by simp
  have hbs := below_size F.bel
  constructor
  case bel => exact below_alloc F.bel _
  case s0 => rw [e0]; exact F.s0
  case s1 => rw [e1]; exact F.s1
  case s2 => exact fun _ => rfl
  case s2e => exact fun _ => ⟨hbs, by omega⟩
  case s2b => exact fun _ _ => blk_new w _
  case s3 => rw [e3]; exact F.s3
  case s4 => rw [e4]; exact F.s4
  case s5 => rw [e5]; exact F.s5
  case s5r => rw [e5, e8]; exact fun h5 h8 => Kd.R_alloc (F.s5r h5 h8) _
  case s6 => rw [e6]; exact F.s6
  case s7 => rw [e7]; exact F.s7
  case s7v => rw [e7]; exact fun h7 => by have := F.s7v h7; omega
  case s7b => rw [e7, e8]; exact fun h7 h8 => blk_alloc (F.s7b h7 h8) _
  case s27 => rw [e7]; exact fun _ h7 => by have := F.s7v h7; omega
  case cl => rw [e8, e5]; exact F.cl
  case s8 => rw [e8]; exact F.s8
  case s8r => rw [e8]; exact fun h8 => Kd.R_alloc (F.s8r h8) _
  case cl9 => rw [e9, e8]; exact F.cl9
  case cl11 => rw [e11, e10, e8]; exact F.cl11
  case s9 => rw [e9]; exact F.s9
  case s10 => rw [e10]; exact F.s10
  case s10e => rw [e10]; exact F.s10e
  case s10b => rw [e10, e11]; exact fun h10 h11 => blk_alloc (F.s10b h10 h11) _
  case s11b => rw [e11]; exact fun h11 => blk_alloc (F.s11b h11) _
theorem RF.m7 (F : RF W7 g4 A A1 d ws c c1 t ℓ w u44 u45 u46 u47 u48 u49 u50 u51 u52 u53 u8 E V M A9 A2 c9 c2) (hne : ∀ j, j ≠ 7 → ℓ' j = ℓ j) (hk1 : ℓ' 7 = true) (hk0 : ℓ 7 = false) : RF W7 g4 A A1 d ws c c1 t ℓ' (w.alloc (.cells #[.int .i64 t.f0, .int .i64 t.f1, .int .i64 t.f2] 55)) u44 u45 u46 u47 u48 u49 u50 (.slice (some ⟨w.heap.size, 0, none⟩) 1 1) u52 u53 u8 E w.heap.size M A9 A2 c9 c2 := by
  have e0 := hne 0 (by decide)
  have e1 := hne 1 (by decide)
  have e2 := hne 2 (by decide)
  have e3 := hne 3 (by decide)
  have e4 := hne 4 (by decide)
  have e5 := hne 5 (by decide)
  have e6 := hne 6 (by decide)
  have e8 := hne 8 (by decide)
  have e9 := hne 9 (by decide)
  have e10 := hne 10 (by decide)
  have e11 := hne 11 (by decide)
  have hsz : (w.alloc (.cells #[.int .i64 t.f0, .int .i64 t.f1, .int .i64 t.f2] 55)).heap.size = w.heap.size + 1 := by simp
  have hbs := below_size F.bel
  constructor
  case bel => exact below_alloc F.bel _
  case s0 => rw [e0]; exact F.s0
  case s1 => rw [e1]; exact F.s1
  case s2 => rw [e2]; exact F.s2
  case s2e => rw [e2]; exact fun h2 => ⟨(F.s2e h2).1, by have := (F.s2e h2).2; omega⟩
  case s2b => rw [e2, e5]; exact fun h2 h5 => blk_alloc (F.s2b h2 h5) _
  case s3 => rw [e3]; exact F.s3
  case s4 => rw [e4]; exact F.s4
  case s5 => rw [e5]; exact F.s5
  case s5r => rw [e5, e8]; exact fun h5 h8 => Kd.R_alloc (F.s5r h5 h8) _
  case s6 => rw [e6]; exact F.s6
  case s7 => exact fun _ => rfl
  case s7v => exact fun _ => by omega
  case s7b => exact fun _ _ => blk_new w _
  case s27 => rw [e2]; exact fun h2 _ => by have := (F.s2e h2).2; omega
  case cl => rw [e8, e5]; exact F.cl
  case s8 => rw [e8]; exact F.s8
  case s8r => rw [e8]; exact fun h8 => Kd.R_alloc (F.s8r h8) _
  case cl9 => rw [e9, e8]; exact F.cl9
  case cl11 => rw [e11, e10, e8]; exact F.cl11
  case s9 => rw [e9]; exact F.s9
  case s10 => rw [e10]; exact F.s10
  case s10e => rw [e10]; exact F.s10e
  case s10b => rw [e10, e11]; exact fun h10 h11 => blk_alloc (F.s10b h10 h11) _
  case s11b => rw [e11]; exact fun h11 => blk_alloc (F.s11b h11) _
theorem RF.m10 (F : RF W7 g4 A A1 d ws c c1 t ℓ w u44 u45 u46 u47 u48 u49 u50 u51 u52 u53 u8 E V M A9 A2 c9 c2) (hne : ∀ j, j ≠ 10 → ℓ' j = ℓ j) (hk1 : ℓ' 10 = true) (hk0 : ℓ 10 = false) : RF W7 g4 A A1 d ws c c1 t ℓ' (w.alloc (.cells #[.slice none 0 0, .slice none 0 0] 36)) u44 u45 u46 u47 u48 u49 u50 u51 u52 u53 (.pointer (some ⟨w.heap.size, 0, none⟩)) E V w.heap.size A9 A2 c9 c2 := by
  have e0 := hne 0 (by decide)
  have e1 := hne 1 (by decide)
  have e2 := hne 2 (by decide)
  have e3 := hne 3 (by decide)
  have e4 := hne 4 (by decide)
  have e5 := hne 5 (by decide)
  have e6 := hne 6 (by decide)
  have e7 := hne 7 (by decide)
  have e8 := hne 8 (by decide)
  have e9 := hne 9 (by decide)
  have e11 := hne 11 (by decide)
  have hsz : (w.alloc (.cells #[.slice none 0 0, .slice none 0 0] 36)).heap.size = w.heap.size + 1 := by simp
  have hbs := below_size F.bel
  constructor
  case bel => exact below_alloc F.bel _
  case s0 => rw [e0]; exact F.s0
  case s1 => rw [e1]; exact F.s1
  case s2 => rw [e2]; exact F.s2
  case s2e => rw [e2]; exact fun h2 => ⟨(F.s2e h2).1, by have := (F.s2e h2).2; omega⟩
  case s2b => rw [e2, e5]; exact fun h2 h5 => blk_alloc (F.s2b h2 h5) _
  case s3 => rw [e3]; exact F.s3
  case s4 => rw [e4]; exact F.s4
  case s5 => rw [e5]; exact F.s5
  case s5r => rw [e5, e8]; exact fun h5 h8 => Kd.R_alloc (F.s5r h5 h8) _
  case s6 => rw [e6]; exact F.s6
  case s7 => rw [e7]; exact F.s7
  case s7v => rw [e7]; exact fun h7 => by have := F.s7v h7; omega
  case s7b => rw [e7, e8]; exact fun h7 h8 => blk_alloc (F.s7b h7 h8) _
  case s27 => rw [e2, e7]; exact F.s27
  case cl => rw [e8, e5]; exact F.cl
  case s8 => rw [e8]; exact F.s8
  case s8r => rw [e8]; exact fun h8 => Kd.R_alloc (F.s8r h8) _
  case cl9 => rw [e9, e8]; exact F.cl9
  case cl11 => rw [e11, e8]; exact fun h => ⟨hk1, (F.cl11 h).2⟩
  case s9 => rw [e9]; exact F.s9
  case s10 => exact fun _ => rfl
  case s10e => exact fun _ => hbs
  case s10b => exact fun _ _ => blk_new w _
  case s11b => rw [e11]; exact fun h11 => absurd (F.cl11 h11).1 (by rw [hk0]; decide)
theorem RF.a5 (F : RF W7 g4 A A1 d ws c c1 t ℓ w u44 u45 u46 u47 u48 u49 u50 u51 u52 u53 u8 E V M A9 A2 c9 c2) (hne : ∀ j, j ≠ 5 → ℓ' j = ℓ j) (hk1 : ℓ' 5 = true) (hk0 : ℓ 5 = false) (h2 : ℓ 2 = true) {A9' : Option Addr} {c9' : Nat} (hb : Below W7.heap.size W7 w') (hg : w.grownBy w' (some E)) (hsz : w.heap.size ≤ w'.heap.size) (hR : Kd.R k55 55 w' W7.heap.size (fun _ => True) (.slice A9' ws.length c9') ws) : RF W7 g4 A A1 d ws c c1 t ℓ' w' u44 u45 u46 u47 u48 (.slice A9' ws.length c9') u50 u51 u52 u53 u8 E V M A9' A2 c9' c2 := by
  have e0 := hne 0 (by decide)
  have e1 := hne 1 (by decide)
  have e2 := hne 2 (by decide)
  have e3 := hne 3 (by decide)
  have e4 := hne 4 (by decide)
  have e6 := hne 6 (by decide)
  have e7 := hne 7 (by decide)
  have e8 := hne 8 (by decide)
  have e9 := hne 9 (by decide)
  have e10 := hne 10 (by decide)
  have e11 := hne 11 (by decide)
  constructor
  case bel => exact hb
  case s0 => rw [e0]; exact F.s0
  case s1 => rw [e1]; exact F.s1
  case s2 => rw [e2]; exact F.s2
  case s2e => rw [e2]; exact fun h => ⟨(F.s2e h).1, by have := (F.s2e h).2; omega⟩
  case s2b => exact fun _ h5 => absurd h5 (by rw [hk1]; decide)
  case s3 => rw [e3]; exact F.s3
  case s4 => rw [e4]; exact F.s4
  case s5 => exact fun _ => rfl
  case s5r => exact fun _ _ => hR
  case s6 => rw [e6]; exact F.s6
  case s7 => rw [e7]; exact F.s7
  case s7v => rw [e7]; exact fun h7 => by have := F.s7v h7; omega
  case s7b => rw [e7, e8]; exact fun h7 h8 => blk_grown (F.s7b h7 h8) hg (fun e => F.s27 h2 h7 (Option.some.inj e).symm)
  case s27 => rw [e2, e7]; exact F.s27
  case cl => exact fun _ => hk1
  case s8 => rw [e8]; exact F.s8
  case s8r => rw [e8]; exact fun h8 => absurd (F.cl h8) (by rw [hk0]; decide)
  case cl9 => rw [e9, e8]; exact F.cl9
  case cl11 => rw [e11, e10, e8]; exact F.cl11
  case s9 => rw [e9]; exact F.s9
  case s10 => rw [e10]; exact F.s10
  case s10e => rw [e10]; exact F.s10e
  case s10b => rw [e10, e11]; exact fun h10 h11 => blk_grown (F.s10b h10 h11) hg (fun e => blkW_ne (F.s2b h2 hk0) (F.s10b h10 h11) (by decide) (Option.some.inj e))
  case s11b => rw [e11]; exact fun h11 => blk_grown (F.s11b h11) hg (fun e => blkW_ne (F.s2b h2 hk0) (F.s11b h11) (by decide) (Option.some.inj e))
theorem RF.a8 (F : RF W7 g4 A A1 d ws c c1 t ℓ w u44 u45 u46 u47 u48 u49 u50 u51 u52 u53 u8 E V M A9 A2 c9 c2) (hne : ∀ j, j ≠ 8 → ℓ' j = ℓ j) (hk1 : ℓ' 8 = true) (hk0 : ℓ 8 = false) (h5 : ℓ 5 = true) {A2' : Option Addr} {c2' : Nat} (hb : Below W7.heap.size W7 w') (hg : w.grownBy w' (Value.slice A9 ws.length c9).ownBlock) (hsz : w.heap.size ≤ w'.heap.size) (hR : Kd.R k55 55 w' W7.heap.size (fun _ => True) (.slice A2' (ws ++ [t]).length c2') (ws ++ [t])) : RF W7 g4 A A1 d ws c c1 t ℓ' w' u44 u45 u46 u47 u48 u49 u50 u51 (.slice A2' (ws ++ [t]).length c2') u53 u8 E V M A9 A2' c9 c2' := by
  have e0 := hne 0 (by decide)
  have e1 := hne 1 (by decide)
  have e2 := hne 2 (by decide)
  have e3 := hne 3 (by decide)
  have e4 := hne 4 (by decide)
  have e5 := hne 5 (by decide)
  have e6 := hne 6 (by decide)
  have e7 := hne 7 (by decide)
  have e9 := hne 9 (by decide)
  have e10 := hne 10 (by decide)
  have e11 := hne 11 (by decide)
  constructor
  case bel => exact hb
  case s0 => rw [e0]; exact F.s0
  case s1 => rw [e1]; exact F.s1
  case s2 => rw [e2]; exact F.s2
  case s2e => rw [e2]; exact fun h => ⟨(F.s2e h).1, by have := (F.s2e h).2; omega⟩
  case s2b => rw [e5]; exact fun _ q5 => absurd q5 (by rw [h5]; decide)
  case s3 => rw [e3]; exact F.s3
  case s4 => rw [e4]; exact F.s4
  case s5 => rw [e5]; exact F.s5
  case s5r => exact fun _ h8 => absurd h8 (by rw [hk1]; decide)
  case s6 => rw [e6]; exact F.s6
  case s7 => rw [e7]; exact F.s7
  case s7v => rw [e7]; exact fun h7 => by have := F.s7v h7; omega
  case s7b => exact fun _ h8 => absurd h8 (by rw [hk1]; decide)
  case s27 => rw [e2, e7]; exact F.s27
  case cl => exact fun _ => by rw [e5]; exact h5
  case s8 => exact fun _ => rfl
  case s8r => exact fun _ => hR
  case cl9 => exact fun _ => hk1
  case cl11 => rw [e11, e10]; exact fun h => ⟨(F.cl11 h).1, hk1⟩
  case s9 => rw [e9]; exact fun q => absurd (F.cl9 q) (by rw [hk0]; decide)
  case s10 => rw [e10]; exact F.s10
  case s10e => rw [e10]; exact F.s10e
  case s10b => rw [e10, e11]; exact fun q10 q11 => blk_grown (F.s10b q10 q11) hg (rowW_ne (F.s5r h5 hk0) (F.s10b q10 q11) (by decide))
  case s11b => rw [e11]; exact fun q => absurd (F.cl11 q).2 (by rw [hk0]; decide)
theorem RF.t11 (F : RF W7 g4 A A1 d ws c c1 t ℓ w u44 u45 u46 u47 u48 u49 u50 u51 u52 u53 u8 E V M A9 A2 c9 c2) (hne : ∀ j, j ≠ 11 → ℓ' j = ℓ j) (hk1 : ℓ' 11 = true) (hk0 : ℓ 11 = false) (h5 : ℓ 5 = true) (h8 : ℓ 8 = true) (h10 : ℓ 10 = true) : RF W7 g4 A A1 d ws c c1 t ℓ' ((w.setCell ⟨M, 0, none⟩ (.slice A d.length c)).setCell ⟨M, 1, none⟩ (.slice A2 (ws ++ [t]).length c2)) u44 u45 u46 u47 u48 u49 u50 u51 u52 u53 u8 E V M A9 A2 c9 c2 := by
  have e0 := hne 0 (by decide)
  have e1 := hne 1 (by decide)
  have e2 := hne 2 (by decide)
  have e3 := hne 3 (by decide)
  have e4 := hne 4 (by decide)
  have e5 := hne 5 (by decide)
  have e6 := hne 6 (by decide)
  have e7 := hne 7 (by decide)
  have e8 := hne 8 (by decide)
  have e9 := hne 9 (by decide)
  have e10 := hne 10 (by decide)
  constructor
  case bel => exact (F.bel.setCell (p := ⟨M, 0, none⟩) (F.s10e h10) _).setCell (p := ⟨M, 1, none⟩) (F.s10e h10) _
  case s0 => rw [e0]; exact F.s0
  case s1 => rw [e1]; exact F.s1
  case s2 => rw [e2]; exact F.s2
  case s2e => rw [e2]; exact fun h => ⟨(F.s2e h).1, by simpa using (F.s2e h).2⟩
  case s2b => rw [e5]; exact fun _ q => absurd q (by rw [h5]; decide)
  case s3 => rw [e3]; exact F.s3
  case s4 => rw [e4]; exact F.s4
  case s5 => rw [e5]; exact F.s5
  case s5r => rw [e8]; exact fun _ q => absurd q (by rw [h8]; decide)
  case s6 => rw [e6]; exact F.s6
  case s7 => rw [e7]; exact F.s7
  case s7v => rw [e7]; exact fun h7 => by simpa using F.s7v h7
  case s7b => rw [e8]; exact fun _ q => absurd q (by rw [h8]; decide)
  case s27 => rw [e2, e7]; exact F.s27
  case cl => rw [e8, e5]; exact F.cl
  case s8 => rw [e8]; exact F.s8
  case s8r => rw [e8]; exact fun q => RW_two (F.s8r q) (F.s10b h10 hk0) (by decide) rfl _ _
  case cl9 => rw [e9, e8]; exact F.cl9
  case cl11 => rw [e10, e8]; exact fun _ => ⟨h10, h8⟩
  case s9 => rw [e9]; exact F.s9
  case s10 => rw [e10]; exact F.s10
  case s10e => rw [e10]; exact F.s10e
  case s10b => exact fun _ q => absurd q (by rw [hk1]; decide)
  case s11b => exact fun _ => blkW_two (F.s10b h10 hk0) _ _
def put11 (a : Array Value) (u44 u45 u46 u47 u48 u49 u50 u51 u52 u53 u8 : Value) : Array Value := (((((((((((a.setIfInBounds 44 u44).setIfInBounds 45 u45).setIfInBounds 46 u46).setIfInBounds 47 u47).setIfInBounds 48 u48).setIfInBounds 49 u49).setIfInBounds 50 u50).setIfInBounds 51 u51).setIfInBounds 52 u52).setIfInBounds 53 u53).setIfInBounds 8 u8)
theorem put_same (a : Array Value) (i : Nat) : a.setIfInBounds i (a.getD i undef) = a := by
  apply Array.ext_getElem?
  intro j
  rw [Array.getElem?_setIfInBounds]
  by_cases h : i = j
  · subst h
    rw [if_pos rfl]
    by_cases hi : i < a.size
    · rw [if_pos hi, Array.getD_eq_getD_getElem?, Array.getElem?_eq_getElem hi]; rfl
    · rw [if_neg hi, Array.getElem?_eq_none (by omega)]
  · rw [if_neg h]
theorem put11_same (a : Array Value) : put11 a (a.getD 44 undef) (a.getD 45 undef) (a.getD 46 undef) (a.getD 47 undef) (a.getD 48 undef) (a.getD 49 undef) (a.getD 50 undef) (a.getD 51 undef) (a.getD 52 undef) (a.getD 53 undef) (a.getD 8 undef) = a := by
  unfold put11
  simp only [put_same]
def RJ (W7 : World) (g4 : Nat) (A A1 : Option Addr) (d : List Int) (ws : List S55) (c c1 : Nat) (t : S55) (a0 : Act) (L : Array Bool) (a : Act) (w : World) : Prop := L.size = 12 ∧ ∃ (u44 u45 u46 u47 u48 u49 u50 u51 u52 u53 u8 : Value) (E V M : Nat) (A9 A2 : Option Addr) (c9 c2 : Nat), a = { tmps := put11 a0.tmps u44 u45 u46 u47 u48 u49 u50 u51 u52 u53 u8, defers := a0.defers } ∧ RF W7 g4 A A1 d ws c c1 t (fun j => L.getD j false) w u44 u45 u46 u47 u48 u49 u50 u51 u52 u53 u8 E V M A9 A2 c9 c2
theorem RJ_start (a0 : Act) (w : World) (hb : Below W7.heap.size W7 w) : RJ W7 g4 A A1 d ws c c1 t a0 (Array.replicate 12 false) a0 w := by
  refine ⟨by simp, a0.tmps.getD 44 undef, a0.tmps.getD 45 undef, a0.tmps.getD 46 undef, a0.tmps.getD 47 undef, a0.tmps.getD 48 undef, a0.tmps.getD 49 undef, a0.tmps.getD 50 undef, a0.tmps.getD 51 undef, a0.tmps.getD 52 undef, a0.tmps.getD 53 undef, a0.tmps.getD 8 undef, 0, 0, 0, none, none, 0, 0, by rw [put11_same], ?_⟩
  have e : ∀ j, (Array.replicate 12 false).getD j false = false := getD_replicate_false 12
  constructor
  case bel => exact hb
  case s0 => exact fun h => absurd h (by rw [e]; decide)
  case s1 => exact fun h => absurd h (by rw [e]; decide)
  case s2 => exact fun h => absurd h (by rw [e]; decide)
  case s2e => exact fun h => absurd h (by rw [e]; decide)
  case s2b => exact fun h => absurd h (by rw [e]; decide)
  case s3 => exact fun h => absurd h (by rw [e]; decide)
  case s4 => exact fun h => absurd h (by rw [e]; decide)
  case s5 => exact fun h => absurd h (by rw [e]; decide)
  case s5r => exact fun h => absurd h (by rw [e]; decide)
  case s6 => exact fun h => absurd h (by rw [e]; decide)
  case s7 => exact fun h => absurd h (by rw [e]; decide)
  case s7v => exact fun h => absurd h (by rw [e]; decide)
  case s7b => exact fun h => absurd h (by rw [e]; decide)
  case s27 => exact fun h => absurd h (by rw [e]; decide)
  case cl => exact fun h => absurd h (by rw [e]; decide)
  case s8 => exact fun h => absurd h (by rw [e]; decide)
  case s8r => exact fun h => absurd h (by rw [e]; decide)
  case cl9 => exact fun h => absurd h (by rw [e]; decide)
  case cl11 => exact fun h => absurd h (by rw [e]; decide)
  case s9 => exact fun h => absurd h (by rw [e]; decide)
  case s10 => exact fun h => absurd h (by rw [e]; decide)
  case s10e => exact fun h => absurd h (by rw [e]; decide)
  case s10b => exact fun h => absurd h (by rw [e]; decide)
  case s11b => exact fun h => absurd h (by rw [e]; decide)
theorem flag_set {L : Array Bool} {k : Nat} (h : L.getD k true = false) : (∀ j, j ≠ k → (fun j => (L.setIfInBounds k true).getD j false) j = (fun j => L.getD j false) j) ∧ (fun j => (L.setIfInBounds k true).getD j false) k = true ∧ (fun j => L.getD j false) k = false := by
  have hlt : k < L.size := by
    rcases Nat.lt_or_ge k L.size with h' | h'
    · exact h'
    · rw [Array.getD_eq_getD_getElem?, Array.getElem?_eq_none h'] at h; cases h
  refine ⟨fun j hj => getD_set_ne false (Ne.symm hj), ?_, ?_⟩
  · show (L.setIfInBounds k true).getD k false = true
    rw [Array.getD_eq_getD_getElem?, Array.getElem?_setIfInBounds_self_of_lt hlt]; rfl
  · show L.getD k false = false
    rw [Array.getD_eq_getD_getElem?, Array.getElem?_eq_getElem hlt] at h ⊢
    exact h
theorem wpOp_K {P : Program} {ops : Array Oper} {Q : Exit → Act → World → Prop} {i : Nat} {J : Act → World → Prop} {a : Act} {w : World} {o : Oper} (ho : ops[i]? = some o)
    (h : ∀ K : Act → World → Prop, (∀ a w, J a w → K a w) → (if Region.wanted o (yielded ops a.tmps) = true then o.wp P a w K Q else K (a.put o.dst undef) w)) : wpOp P ops Q i J a w := by
  have := h J (fun _ _ h => h)
  unfold wpOp
  rw [ho]
  by_cases hw : Region.wanted o (yielded ops a.tmps) = true
  · rw [if_pos hw] at this
    simp only [hw, if_true]
    exact .inl this
  · rw [if_neg hw] at this
    simp only [hw]
    exact this
theorem all_up {ops : Array Oper} {L : Array Bool} (hs : L.size = ops.size) (hB : ((List.range ops.size).all fun i => match ops[i]? with | some o => o.after.all fun e => !Region.binds .any e || decide (e.on < i) | none => false) = true) (hr : Region.ready .any ops L = []) : ∀ i, i < ops.size → L.getD i false = true := by
  intro i
  induction i using Nat.strongRecOn with
  | _ i ih =>
    intro hi
    cases hL : L.getD i false with
    | true => rfl
    | false =>
      exfalso
      have h1 := List.all_eq_true.mp hB i (List.mem_range.mpr hi)
      have hm : i ∈ Region.ready .any ops L := by
        rw [mem_ready]
        refine ⟨getD_in (by omega) hL, ops[i], Array.getElem?_eq_getElem hi, fun e he hb => ?_⟩
        rw [Array.getElem?_eq_getElem hi] at h1
        have h2 := Array.all_eq_true'.mp h1 e he
        rw [hb] at h2
        have h3 : e.on < i := by simpa using h2
        exact ih e.on h3 (by omega)
      rw [hr] at hm; cases hm
end Go.Proofs.Ytojpibpjieanhaa.X
end
section
-- Written by a program of this session out of the kit's print of the loaded functions: a plain function of a Go function, and its contract.
namespace Go.Proofs.Ytojpibpjieanhaa.X
open Go.RowKit Go.Proofs.YtojpibpjieanhaaW.PrintWords Go.Proofs.YtojpibpjieanhaaW.PrintLast Go.Proofs.YtojpibpjieanhaaW.PrintMore
attribute [local go_sem] max2_int min2_int max_two min_two max_three min_three max_four min_four   -- for this text's walks alone
set_option linter.unusedVariables false
set_option linter.unusedSimpArgs false
def IsS110 (w0 W : World) (g : Nat) (f0 : List Int) (f1 : Int) (f2 : Int) : Prop := ∃ A0 c0, W.heap[g]? = some (.cells #[.slice A0 f0.length c0, .int .i64 f1, .int .u64 f2] 110 (0, 0)) ∧ w0.heap.size ≤ g ∧ Kd.C (Kd.int .u8) w0 A0 f0.length f0
theorem IsS110.grown {w0 W : World} {g : Nat} {f0 : List Int} {f1 : Int} {f2 : Int} {W1 : World} {row : Option Nat} (h : IsS110 w0 W g f0 f1 f2) (hw : W.grownBy W1 row) (hne : some g ≠ row) : IsS110 w0 W1 g f0 f1 f2 := by
 obtain ⟨A0, c0, hb, hg, hr0⟩ := h
 exact ⟨A0, c0, blk_grown hb hw hne, hg, hr0⟩
theorem IsS110.fresh {w0 W : World} {g : Nat} {f0 : List Int} {f1 : Int} {f2 : Int} (h : IsS110 w0 W g f0 f1 f2) : ∀ k, W.heap.size ≤ k → k ≠ g := by
 obtain ⟨A0, c0, hb, hg, hr0⟩ := h
 exact Kd.freshB hb
theorem IsS110.kept {w0 W : World} {g : Nat} {f0 : List Int} {f1 : Int} {f2 : Int} {W1 : World} {S : Nat → Prop} (h : IsS110 w0 W g f0 f1 f2) (hk : Kept W W1 S) (hne : ¬ S g) : IsS110 w0 W1 g f0 f1 f2 := by
 obtain ⟨A0, c0, hb, hg, hr0⟩ := h
 exact ⟨A0, c0, blk_kept hb hk hne, hg, hr0⟩
theorem IsS110.below {w0 W : World} {g : Nat} {f0 : List Int} {f1 : Int} {f2 : Int} {W1 : World} (h : IsS110 w0 W g f0 f1 f2) (hw : Below W.heap.size W W1) : IsS110 w0 W1 g f0 f1 f2 := h.grown (grown_of_below hw none) (by simp)
theorem IsS110.alloc {w0 W : World} {g : Nat} {f0 : List Int} {f1 : Int} {f2 : Int} (h : IsS110 w0 W g f0 f1 f2) (o : Obj) : IsS110 w0 (W.alloc o) g f0 f1 f2 := h.below (below_alloc (Below.refl _ _) o)
theorem IsS110.drewN {w0 W : World} {g : Nat} {f0 : List Int} {f1 : Int} {f2 : Int} (h : IsS110 w0 W g f0 f1 f2) (m : Nat) : IsS110 w0 (W.drewN m) g f0 f1 f2 := h
theorem IsS110.drew {w0 W : World} {g : Nat} {f0 : List Int} {f1 : Int} {f2 : Int} (h : IsS110 w0 W g f0 f1 f2) : IsS110 w0 W.drew g f0 f1 f2 := h
theorem IsS110.at_ {w0 W : World} {g : Nat} {f0 : List Int} {f1 : Int} {f2 : Int} {w' : World} {m : Nat} (hq : W.drewN m = w') (h : IsS110 w0 W g f0 f1 f2) : IsS110 w0 w' g f0 f1 f2 := by subst hq; exact IsS110.drewN h m
theorem IsS110.own_ne {w0 W : World} {g : Nat} {f0 : List Int} {f1 : Int} {f2 : Int} {α : Type} {d : Kd α} {e : Nat} {base : Nat} {ok : Nat → Prop} {v : Value} {xs : List α} (h : IsS110 w0 W g f0 f1 f2) (ho : d.R e W base ok v xs) (ht : e ≠ 110) : some g ≠ v.ownBlock := by
 obtain ⟨A0, c0, hb, hg, hr0⟩ := h
 exact Kd.R_ne ho hb ht
theorem IsS110.lt {w0 W : World} {g : Nat} {f0 : List Int} {f1 : Int} {f2 : Int} (h : IsS110 w0 W g f0 f1 f2) : g < W.heap.size := by
 obtain ⟨A0, c0, hb, hg, hr0⟩ := h
 exact blk_lt hb
theorem IsS110.ge {w0 W : World} {g : Nat} {f0 : List Int} {f1 : Int} {f2 : Int} (h : IsS110 w0 W g f0 f1 f2) : w0.heap.size ≤ g := by
 obtain ⟨A0, c0, hb, hg, hr0⟩ := h
 exact hg
theorem IsS110.ne_blk {w0 W : World} {g : Nat} {f0 : List Int} {f1 : Int} {f2 : Int} {a : Nat} {cs : Array Value} {t : TypeId} {fr : Nat × Nat} (h : IsS110 w0 W g f0 f1 f2) (hb2 : W.heap[a]? = some (.cells cs t fr)) (ht : t ≠ 110) : g ≠ a := by
 obtain ⟨A0, c0, hb, hg, hr0⟩ := h
 rintro rfl
 rw [hb] at hb2
 injection hb2 with hb2
 injection hb2 with _ ht2
 exact ht ht2.symm
theorem IsS110.far {w0 W : World} {g : Nat} {f0 : List Int} {f1 : Int} {f2 : Int} {p : Addr} (h : IsS110 w0 W g f0 f1 f2) (hne : g ≠ p.block) (u : Value) : IsS110 w0 (W.setCell p u) g f0 f1 f2 := by
 obtain ⟨A0, c0, hb, hg, hr0⟩ := h
 exact ⟨A0, c0, blk_far hb hne u, hg, hr0⟩
theorem cellS110_0 {W : World} {g : Nat} {A0 : Option Addr} {c0 : Nat} {f0 : List Int} {f1 : Int} {f2 : Int} (h : W.heap[g]? = some (.cells #[.slice A0 f0.length c0, .int .i64 f1, .int .u64 f2] 110 (0, 0))) : W.cell? ⟨g, 0, none⟩ = some (.slice A0 f0.length c0) := (blk_cell h 0).trans rfl
theorem cellS110_1 {W : World} {g : Nat} {A0 : Option Addr} {c0 : Nat} {f0 : List Int} {f1 : Int} {f2 : Int} (h : W.heap[g]? = some (.cells #[.slice A0 f0.length c0, .int .i64 f1, .int .u64 f2] 110 (0, 0))) : W.cell? ⟨g, 1, none⟩ = some (.int .i64 f1) := (blk_cell h 1).trans rfl
theorem IsS110.set_1 {w0 W : World} {g : Nat} {f0 : List Int} {f1 : Int} {f2 : Int} (h : IsS110 w0 W g f0 f1 f2) (x : Int) : IsS110 w0 (W.setCell ⟨g, 1, none⟩ (.int .i64 x)) g f0 x f2 := by
 obtain ⟨A0, c0, hb, hg, hr0⟩ := h
 exact ⟨A0, c0, by simpa using blk_set hb 1 (.int .i64 x), hg, hr0⟩
theorem cellS110_2 {W : World} {g : Nat} {A0 : Option Addr} {c0 : Nat} {f0 : List Int} {f1 : Int} {f2 : Int} (h : W.heap[g]? = some (.cells #[.slice A0 f0.length c0, .int .i64 f1, .int .u64 f2] 110 (0, 0))) : W.cell? ⟨g, 2, none⟩ = some (.int .u64 f2) := (blk_cell h 2).trans rfl
theorem IsS110.set_2 {w0 W : World} {g : Nat} {f0 : List Int} {f1 : Int} {f2 : Int} (h : IsS110 w0 W g f0 f1 f2) (x : Int) : IsS110 w0 (W.setCell ⟨g, 2, none⟩ (.int .u64 x)) g f0 f1 x := by
 obtain ⟨A0, c0, hb, hg, hr0⟩ := h
 exact ⟨A0, c0, by simpa using blk_set hb 2 (.int .u64 x), hg, hr0⟩
def spec_l00From.f (l0 : List Int) : Option (List Int × Int × Int) := some (l0, 0, 0)
set_option maxHeartbeats 8000000 in
set_option maxRecDepth 100000 in
theorem spec_l00From.calls (A0 : Option Addr) (c0 : Nat) (l0 : List Int) (r1 : List Int) (r2 : Int) (r3 : Int) (w0 w : World) (hB : Below w0.heap.size w0 w) (hr0 : Kd.C (Kd.int .u8) w0 A0 l0.length l0) (hc0 : l0.length ≤ c0) (h : spec_l00From.f l0 = some (r1, r2, r3)) :
  Calls Try.prog 71 #[.slice A0 l0.length c0] w fun e w' => ∃ g_ : Nat, e = .returned (.pointer (some ⟨g_, 0, none⟩)) ∧ IsS110 w0 w' g_ r1 r2 r3 ∧ Below w0.heap.size w0 w' ∧ Below w.heap.size w w' := by
 have hu110 := Try.underlying110
 have HR0 := Aside0.mk hr0
 have HC0 := Aside0.mk hc0
 clear hr0 hc0
 have HBW := Aside0.mk (Below.refl w.heap.size w)
 have HW0 := Aside0.mk hB.size
 have HB := Aside0.mk hB
 clear hB
 have H : (some (l0, 0, 0)) = some (r1, r2, r3) := h
 clear h
 simp only [Option.some.injEq, Prod.mk.injEq] at H
 obtain ⟨rfl, rfl, rfl⟩ := H
 go_enter Try.func71, Try.ntmps71
 go_wp2_with (first | ((with_reducible refine gate_dst (N := 5) rfl ?_); refine box_event ?hg (N := 5) ?hd (cs := #[.slice A0 l0.length c0, .int .i64 0, .int .u64 0]) (t := 110) ?hr ?_; (case hd => rfl); (case hg => rfl); (case hr => first | (go_simp; done) | (go_simp; rfl)); intro gb696 hg w2 hbox hb; have n0_ := Aside0.mk (below_step HBW.out hb); have n1_ := Aside0.mk (below_step (by repeat (first | (with_reducible first | exact HB.out | apply below_alloc | apply pw_below_drewN | apply below_drew1) | exact HB.out)) hb); have n2_ := Aside0.mk (hbox); have n3_ := Aside0.mk ((by rw [hg]; exact (below_size (by repeat (first | (with_reducible first | exact HBW.out | apply below_alloc | apply pw_below_drewN | apply below_drew1) | exact HBW.out))) : w.heap.size ≤ gb696)); have n4_ := Aside0.mk ((Nat.le_trans HW0.out (by rw [hg]; exact (below_size (by repeat (first | (with_reducible first | exact HBW.out | apply below_alloc | apply pw_below_drewN | apply below_drew1) | exact HBW.out))) : w.heap.size ≤ gb696) : w0.heap.size ≤ gb696)); clear HBW; clear HB; have HBW := n0_; have HB := n1_; have BK696 := n2_; have GW696 := n3_; have GE696 := n4_; clear n0_ n1_ n2_ n3_ n4_; clear hb hbox hg))
 go_ret
 exact ⟨_, rfl, (show IsS110 w0 _ gb696 l0 0 0 from ⟨_, _, by (with_reducible repeat (first | refine blk_drewN ?_ _ | refine blk_drew ?_ | refine blk_alloc ?_ _)); exact BK696.out, GE696.out, HR0.out⟩), by repeat (first | (with_reducible first | exact HB.out | apply below_alloc | apply pw_below_drewN | apply below_drew1 | refine below_set ?_ GE696.out) | exact HB.out), by repeat (first | (with_reducible first | exact HBW.out | apply below_alloc | apply pw_below_drewN | apply below_drew1 | refine below_set ?_ GW696.out) | exact HBW.out)⟩
end Go.Proofs.Ytojpibpjieanhaa.X
end
section
-- Written by a program of this session out of the kit's print of the loaded functions: a plain function of a Go function, and its contract.
namespace Go.Proofs.Ytojpibpjieanhaa.X
open Go.RowKit Go.Proofs.YtojpibpjieanhaaW.PrintWords Go.Proofs.YtojpibpjieanhaaW.PrintLast Go.Proofs.YtojpibpjieanhaaW.PrintMore
attribute [local go_sem] max2_int min2_int max_two min_two max_three min_three max_four min_four   -- for this text's walks alone
set_option linter.unusedVariables false
set_option linter.unusedSimpArgs false
def spec_l00Src_next.f (s0_0 : List Int) (s0_1 : Int) (s0_2 : Int) : Option (Int × Int × Int) := if s0_1 < (s0_0.length : Int) then (if 0 ≤ s0_1 then (if (wrap64 (s0_1 + 1)) ≤ (s0_0.length : Int) then (some (wrap64 (rd s0_0 s0_1), wrap64 (s0_1 + 1), IntKind.u64.wrap ((IntKind.u64.wrap ((IntKind.u64.wrap (s0_2 * 6364136223846793005)) + (IntKind.u64.wrap (wrap64 (rd s0_0 s0_1))))) + 1442695040888963407))) else (some (wrap64 (Go.bits .and .u64 ((IntKind.u64.wrap ((IntKind.u64.wrap ((IntKind.u64.wrap (s0_2 * 6364136223846793005)) + (IntKind.u64.wrap (wrap64 (rd s0_0 s0_1))))) + 1442695040888963407)) / 1099511627776) 255), wrap64 (s0_1 + 1), IntKind.u64.wrap ((IntKind.u64.wrap ((IntKind.u64.wrap (s0_2 * 6364136223846793005)) + (IntKind.u64.wrap (wrap64 (rd s0_0 s0_1))))) + 1442695040888963407)))) else (none)) else (if (wrap64 (s0_1 + 1)) ≤ (s0_0.length : Int) then (none) else (some (wrap64 (Go.bits .and .u64 ((IntKind.u64.wrap ((IntKind.u64.wrap (IntKind.u64.wrap (s0_2 * 6364136223846793005))) + 1442695040888963407)) / 1099511627776) 255), wrap64 (s0_1 + 1), IntKind.u64.wrap ((IntKind.u64.wrap (IntKind.u64.wrap (s0_2 * 6364136223846793005))) + 1442695040888963407))))
set_option maxHeartbeats 8000000 in
set_option maxRecDepth 100000 in
theorem spec_l00Src_next.calls (g : Nat) (s0_0 : List Int) (s0_1 : Int) (s0_2 : Int) (r1 : Int) (r2 : Int) (r3 : Int) (w0 w : World) (hI : IsS110 w0 w g s0_0 s0_1 s0_2) (hB : Below w0.heap.size w0 w) (h : spec_l00Src_next.f s0_0 s0_1 s0_2 = some (r1, r2, r3)) :
  Calls Try.prog 106 #[.pointer (some ⟨g, 0, none⟩)] w fun e w' => e = .returned (.int .i64 r1) ∧ IsS110 w0 w' g s0_0 r2 r3 ∧ Below w0.heap.size w0 w' ∧ KeepBut w w' g none := by
 have HI0 := Aside0.mk hI
 have HK := Aside0.mk (KeepBut.refl w g none)
 have HL := Aside0.mk hB.size
 clear hI
 have HW0 := Aside0.mk hB.size
 have HB := Aside0.mk hB
 clear hB
 have H : (if s0_1 < (s0_0.length : Int) then (if 0 ≤ s0_1 then (if (wrap64 (s0_1 + 1)) ≤ (s0_0.length : Int) then (some (wrap64 (rd s0_0 s0_1), wrap64 (s0_1 + 1), IntKind.u64.wrap ((IntKind.u64.wrap ((IntKind.u64.wrap (s0_2 * 6364136223846793005)) + (IntKind.u64.wrap (wrap64 (rd s0_0 s0_1))))) + 1442695040888963407))) else (some (wrap64 (Go.bits .and .u64 ((IntKind.u64.wrap ((IntKind.u64.wrap ((IntKind.u64.wrap (s0_2 * 6364136223846793005)) + (IntKind.u64.wrap (wrap64 (rd s0_0 s0_1))))) + 1442695040888963407)) / 1099511627776) 255), wrap64 (s0_1 + 1), IntKind.u64.wrap ((IntKind.u64.wrap ((IntKind.u64.wrap (s0_2 * 6364136223846793005)) + (IntKind.u64.wrap (wrap64 (rd s0_0 s0_1))))) + 1442695040888963407)))) else (none)) else (if (wrap64 (s0_1 + 1)) ≤ (s0_0.length : Int) then (none) else (some (wrap64 (Go.bits .and .u64 ((IntKind.u64.wrap ((IntKind.u64.wrap (IntKind.u64.wrap (s0_2 * 6364136223846793005))) + 1442695040888963407)) / 1099511627776) 255), wrap64 (s0_1 + 1), IntKind.u64.wrap ((IntKind.u64.wrap (IntKind.u64.wrap (s0_2 * 6364136223846793005))) + 1442695040888963407))))) = some (r1, r2, r3) := h
 clear h
 by_cases c2 : s0_1 < (s0_0.length : Int)
 ·rw [if_pos c2] at H
  have c2b0 : decide (s0_1 < (s0_0.length : Int)) = true := decide_eq_true c2
  clear c2
  by_cases c3 : 0 ≤ s0_1
  ·rw [if_pos c3] at H
   have c3b0 : decide (0 ≤ s0_1) = true := decide_eq_true c3
   clear c3
   by_cases c4 : (wrap64 (s0_1 + 1)) ≤ (s0_0.length : Int)
   ·rw [if_pos c4] at H
    have c4b0 : decide ((wrap64 (s0_1 + 1)) ≤ (s0_0.length : Int)) = true := decide_eq_true c4
    clear c4
    simp only [Option.some.injEq, Prod.mk.injEq] at H
    obtain ⟨rfl, rfl, rfl⟩ := H
    obtain ⟨ASz5_0, cSz5_0, HGz5, hgz5, HSz5_0⟩ := HI0.out
    have hcz5_0 := cellS110_0 HGz5
    have hcz5_1 := cellS110_1 HGz5
    have hcz5_2 := cellS110_2 HGz5
    have hfz5_1 := blk_frozen HGz5 1
    have hfz5_2 := blk_frozen HGz5 2
    clear HGz5 hgz5
    have p661 : 0 ≤ (s0_1 : Int) := of_decide_eq_true (by first | (with_reducible assumption) | assumption)
    have q661 : s0_1 < (s0_0.length : Int) := of_decide_eq_true (by first | (with_reducible assumption) | assumption)
    obtain ⟨ad661, e661, hx661_0⟩ := Kd.at_int HSz5_0 s0_1 p661 q661
    cases e661
    replace hx661_0 := pw_cell_below HB.out hx661_0
    replace p661 := eq_true p661
    replace q661 := eq_true q661
    go_enter Try.func106, Try.ntmps106
    go_wp2
    repeat (go_quiet (fail); try go_wp2)
    go_ret
    exact ⟨by first | rfl | (simp [errW_none, errW_some] <;> rfl) | (simp [*, errW_none, errW_some] <;> rfl), by repeat (first | (with_reducible first | exact HI0.out | apply IsS110.alloc | apply IsS110.drewN | apply IsS110.drew | apply IsS110.set_1 | apply IsS110.set_2) | exact HI0.out), by repeat (first | (with_reducible first | exact HB.out | apply below_alloc | apply pw_below_drewN | apply below_drew1 | refine below_set ?_ (IsS110.ge HI0.out)) | exact HB.out), by repeat (first | (with_reducible first | exact HK.out | apply KeepBut.set_ | apply keep_drewN | apply keep_drew | apply keep_alloc) | exact HK.out)⟩
   ·rw [if_neg c4] at H
    have c4b0 : decide ((wrap64 (s0_1 + 1)) ≤ (s0_0.length : Int)) = false := decide_eq_false c4
    clear c4
    simp only [Option.some.injEq, Prod.mk.injEq] at H
    obtain ⟨rfl, rfl, rfl⟩ := H
    obtain ⟨ASz6_0, cSz6_0, HGz6, hgz6, HSz6_0⟩ := HI0.out
    have hcz6_0 := cellS110_0 HGz6
    have hcz6_1 := cellS110_1 HGz6
    have hcz6_2 := cellS110_2 HGz6
    have hfz6_1 := blk_frozen HGz6 1
    have hfz6_2 := blk_frozen HGz6 2
    clear HGz6 hgz6
    have p661 : 0 ≤ (s0_1 : Int) := of_decide_eq_true (by first | (with_reducible assumption) | assumption)
    have q661 : s0_1 < (s0_0.length : Int) := of_decide_eq_true (by first | (with_reducible assumption) | assumption)
    obtain ⟨ad661, e661, hx661_0⟩ := Kd.at_int HSz6_0 s0_1 p661 q661
    cases e661
    replace hx661_0 := pw_cell_below HB.out hx661_0
    replace p661 := eq_true p661
    replace q661 := eq_true q661
    go_enter Try.func106, Try.ntmps106
    go_wp2
    repeat (go_quiet (fail); try go_wp2)
    go_ret
    exact ⟨by first | rfl | (simp [errW_none, errW_some] <;> rfl) | (simp [*, errW_none, errW_some] <;> rfl), by repeat (first | (with_reducible first | exact HI0.out | apply IsS110.alloc | apply IsS110.drewN | apply IsS110.drew | apply IsS110.set_1 | apply IsS110.set_2) | exact HI0.out), by repeat (first | (with_reducible first | exact HB.out | apply below_alloc | apply pw_below_drewN | apply below_drew1 | refine below_set ?_ (IsS110.ge HI0.out)) | exact HB.out), by repeat (first | (with_reducible first | exact HK.out | apply KeepBut.set_ | apply keep_drewN | apply keep_drew | apply keep_alloc) | exact HK.out)⟩
  ·rw [if_neg c3] at H
   exact absurd H (by simp)
 ·rw [if_neg c2] at H
  have c2b0 : decide (s0_1 < (s0_0.length : Int)) = false := decide_eq_false c2
  clear c2
  by_cases c7 : (wrap64 (s0_1 + 1)) ≤ (s0_0.length : Int)
  ·rw [if_pos c7] at H
   exact absurd H (by simp)
  ·rw [if_neg c7] at H
   have c7b0 : decide ((wrap64 (s0_1 + 1)) ≤ (s0_0.length : Int)) = false := decide_eq_false c7
   clear c7
   simp only [Option.some.injEq, Prod.mk.injEq] at H
   obtain ⟨rfl, rfl, rfl⟩ := H
   obtain ⟨ASz9_0, cSz9_0, HGz9, hgz9, HSz9_0⟩ := HI0.out
   have hcz9_0 := cellS110_0 HGz9
   have hcz9_1 := cellS110_1 HGz9
   have hcz9_2 := cellS110_2 HGz9
   have hfz9_1 := blk_frozen HGz9 1
   have hfz9_2 := blk_frozen HGz9 2
   clear HGz9 hgz9
   go_enter Try.func106, Try.ntmps106
   go_wp2
   repeat (go_quiet (fail); try go_wp2)
   go_ret
   exact ⟨by first | rfl | (simp [errW_none, errW_some] <;> rfl) | (simp [*, errW_none, errW_some] <;> rfl), by repeat (first | (with_reducible first | exact HI0.out | apply IsS110.alloc | apply IsS110.drewN | apply IsS110.drew | apply IsS110.set_1 | apply IsS110.set_2) | exact HI0.out), by repeat (first | (with_reducible first | exact HB.out | apply below_alloc | apply pw_below_drewN | apply below_drew1 | refine below_set ?_ (IsS110.ge HI0.out)) | exact HB.out), by repeat (first | (with_reducible first | exact HK.out | apply KeepBut.set_ | apply keep_drewN | apply keep_drew | apply keep_alloc) | exact HK.out)⟩
end Go.Proofs.Ytojpibpjieanhaa.X
end
section
-- Written by a program of this session out of the kit's print of the loaded functions: a plain function of a Go function, and its contract.
namespace Go.Proofs.Ytojpibpjieanhaa.X
open Go.RowKit Go.Proofs.YtojpibpjieanhaaW.PrintWords Go.Proofs.YtojpibpjieanhaaW.PrintLast Go.Proofs.YtojpibpjieanhaaW.PrintMore
attribute [local go_sem] max2_int min2_int max_two min_two max_three min_three max_four min_four   -- for this text's walks alone
set_option linter.unusedVariables false
set_option linter.unusedSimpArgs false
def spec_l00Src_pick.f (s0_0 : List Int) (s0_1 : Int) (s0_2 : Int) (a1 : Int) : Option (Int × Int × Int) := if a1 ≤ 1 then (some (0, s0_1, s0_2)) else ((spec_l00Src_next.f s0_0 s0_1 s0_2).bind fun bt698 => (if a1 > 200 then ((spec_l00Src_next.f s0_0 bt698.2.1 bt698.2.2).bind fun bt701 => (if a1 = 0 then (none) else (some (Int.tmod (wrap64 ((wrap64 (bt698.1 * 256)) + bt701.1)) a1, bt701.2.1, bt701.2.2)))) else (if a1 = 0 then (none) else (some (Int.tmod bt698.1 a1, bt698.2.1, bt698.2.2)))))
set_option maxHeartbeats 8000000 in
set_option maxRecDepth 100000 in
theorem spec_l00Src_pick.calls (g : Nat) (s0_0 : List Int) (s0_1 : Int) (s0_2 : Int) (a1 : Int) (r1 : Int) (r2 : Int) (r3 : Int) (w0 w : World) (hI : IsS110 w0 w g s0_0 s0_1 s0_2) (hB : Below w0.heap.size w0 w) (h : spec_l00Src_pick.f s0_0 s0_1 s0_2 a1 = some (r1, r2, r3)) :
  Calls Try.prog 96 #[.pointer (some ⟨g, 0, none⟩), .int .i64 a1] w fun e w' => e = .returned (.int .i64 r1) ∧ IsS110 w0 w' g s0_0 r2 r3 ∧ Below w0.heap.size w0 w' ∧ KeepBut w w' g none := by
 have HI0 := Aside0.mk hI
 have HK := Aside0.mk (KeepBut.refl w g none)
 have HL := Aside0.mk hB.size
 clear hI
 have HW0 := Aside0.mk hB.size
 have HB := Aside0.mk hB
 clear hB
 have H : (if a1 ≤ 1 then (some (0, s0_1, s0_2)) else ((spec_l00Src_next.f s0_0 s0_1 s0_2).bind fun bt698 => (if a1 > 200 then ((spec_l00Src_next.f s0_0 bt698.2.1 bt698.2.2).bind fun bt701 => (if a1 = 0 then (none) else (some (Int.tmod (wrap64 ((wrap64 (bt698.1 * 256)) + bt701.1)) a1, bt701.2.1, bt701.2.2)))) else (if a1 = 0 then (none) else (some (Int.tmod bt698.1 a1, bt698.2.1, bt698.2.2)))))) = some (r1, r2, r3) := h
 clear h
 by_cases c3 : a1 ≤ 1
 ·rw [if_pos c3] at H
  have c3b0 : decide (a1 ≤ 1) = true := decide_eq_true c3
  clear c3
  simp only [Option.some.injEq, Prod.mk.injEq] at H
  obtain ⟨rfl, rfl, rfl⟩ := H
  go_enter Try.func96, Try.ntmps96
  go_wp2
  go_ret
  exact ⟨by first | rfl | (simp [errW_none, errW_some] <;> rfl) | (simp [*, errW_none, errW_some] <;> rfl), by repeat (first | (with_reducible first | exact HI0.out | apply IsS110.alloc | apply IsS110.drewN | apply IsS110.drew | apply IsS110.set_1 | apply IsS110.set_2) | exact HI0.out), by repeat (first | (with_reducible first | exact HB.out | apply below_alloc | apply pw_below_drewN | apply below_drew1 | refine below_set ?_ (IsS110.ge HI0.out)) | exact HB.out), by repeat (first | (with_reducible first | exact HK.out | apply KeepBut.set_ | apply keep_drewN | apply keep_drew | apply keep_alloc) | exact HK.out)⟩
 ·rw [if_neg c3] at H
  have c3b0 : decide (a1 ≤ 1) = false := decide_eq_false c3
  clear c3
  replace H := Option.bind_eq_some_iff.mp H
  obtain ⟨⟨t698, t699, t700⟩, A40, H⟩ := H
  replace H : (if a1 > 200 then ((spec_l00Src_next.f s0_0 t699 t700).bind fun bt701 => (if a1 = 0 then (none) else (some (Int.tmod (wrap64 ((wrap64 (t698 * 256)) + bt701.1)) a1, bt701.2.1, bt701.2.2)))) else (if a1 = 0 then (none) else (some (Int.tmod t698 a1, t699, t700)))) = some (r1, r2, r3) := H
  have A4 := Aside0.mk A40
  clear A40
  by_cases c5 : a1 > 200
  ·rw [if_pos c5] at H
   have c5b0 : decide (200 < a1) = true := decide_eq_true c5
   clear c5
   replace H := Option.bind_eq_some_iff.mp H
   obtain ⟨⟨t701, t702, t703⟩, A60, H⟩ := H
   replace H : (if a1 = 0 then (none) else (some (Int.tmod (wrap64 ((wrap64 (t698 * 256)) + t701)) a1, t702, t703))) = some (r1, r2, r3) := H
   have A6 := Aside0.mk A60
   clear A60
   by_cases c7 : a1 = 0
   ·rw [if_pos c7] at H
    exact absurd H (by simp)
   ·rw [if_neg c7] at H
    have c7b0 : (a1 == 0) = false := beq_eq_false_iff_ne.mpr c7
    have c7b1 : (a1 != 0) = true := bne_iff_ne.mpr c7
    simp only [Option.some.injEq, Prod.mk.injEq] at H
    obtain ⟨rfl, rfl, rfl⟩ := H
    go_enter Try.func96, Try.ntmps96
    go_wp2_with (first | ((with_reducible refine gate_callee (f := 106) rfl ?_); refine goesL_ (some 9) rfl rfl Try.func106 (by kernel_rfl) rfl #[.pointer (some ⟨g, 0, none⟩)] rfl (by (try simp only [List.map_toArray, List.map_cons, List.map_nil]); first | done | rfl | (simp only [List.length_drop, List.length_take]; rfl)) ?_; (with_reducible refine (spec_l00Src_next.calls g s0_0 s0_1 s0_2 t698 t699 t700 w0 _ ?side1 ?side2 A4.out).mono ?_); (case side1 => repeat (first | (with_reducible first | exact HI0.out | apply IsS110.alloc | apply IsS110.drewN | apply IsS110.drew | apply IsS110.set_1 | apply IsS110.set_2) | exact HI0.out)); (case side2 => repeat (first | (with_reducible first | exact HB.out | apply below_alloc | apply pw_below_drewN | apply below_drew1 | refine below_set ?_ (IsS110.ge HI0.out)) | exact HB.out)); rintro e w8 ⟨rfl, hi, hb, hk⟩; refine ⟨_, rfl, ?_⟩; have n0_ := Aside0.mk (KeepBut.trans (by repeat (first | (with_reducible first | exact HK.out | apply KeepBut.set_ | apply keep_drewN | apply keep_drew | apply keep_alloc) | exact HK.out)) hk (.inl rfl)); have n1_ := Aside0.mk (hb); have n2_ := Aside0.mk (hi); clear HK; clear HB; clear HI0; have HK := n0_; have HB := n1_; have HI0 := n2_; clear n0_ n1_ n2_; (try clear hb); (try clear hb2); (try clear hk); (try clear hi)) | ((with_reducible refine gate_callee (f := 106) rfl ?_); refine goesL_ (some 15) rfl rfl Try.func106 (by kernel_rfl) rfl #[.pointer (some ⟨g, 0, none⟩)] rfl (by (try simp only [List.map_toArray, List.map_cons, List.map_nil]); first | done | rfl | (simp only [List.length_drop, List.length_take]; rfl)) ?_; (with_reducible refine (spec_l00Src_next.calls g s0_0 t699 t700 t701 t702 t703 w0 _ ?side1 ?side2 A6.out).mono ?_); (case side1 => repeat (first | (with_reducible first | exact HI0.out | apply IsS110.alloc | apply IsS110.drewN | apply IsS110.drew | apply IsS110.set_1 | apply IsS110.set_2) | exact HI0.out)); (case side2 => repeat (first | (with_reducible first | exact HB.out | apply below_alloc | apply pw_below_drewN | apply below_drew1 | refine below_set ?_ (IsS110.ge HI0.out)) | exact HB.out)); rintro e w9 ⟨rfl, hi, hb, hk⟩; refine ⟨_, rfl, ?_⟩; have n0_ := Aside0.mk (KeepBut.trans (by repeat (first | (with_reducible first | exact HK.out | apply KeepBut.set_ | apply keep_drewN | apply keep_drew | apply keep_alloc) | exact HK.out)) hk (.inl rfl)); have n1_ := Aside0.mk (hb); have n2_ := Aside0.mk (hi); clear HK; clear HB; clear HI0; have HK := n0_; have HB := n1_; have HI0 := n2_; clear n0_ n1_ n2_; (try clear hb); (try clear hb2); (try clear hk); (try clear hi)))
    go_ret
    exact ⟨by first | rfl | (simp [errW_none, errW_some] <;> rfl) | (simp [*, errW_none, errW_some] <;> rfl), by repeat (first | (with_reducible first | exact HI0.out | apply IsS110.alloc | apply IsS110.drewN | apply IsS110.drew | apply IsS110.set_1 | apply IsS110.set_2) | exact HI0.out), by repeat (first | (with_reducible first | exact HB.out | apply below_alloc | apply pw_below_drewN | apply below_drew1 | refine below_set ?_ (IsS110.ge HI0.out)) | exact HB.out), by repeat (first | (with_reducible first | exact HK.out | apply KeepBut.set_ | apply keep_drewN | apply keep_drew | apply keep_alloc) | exact HK.out)⟩
  ·rw [if_neg c5] at H
   have c5b0 : decide (200 < a1) = false := decide_eq_false c5
   clear c5
   by_cases c10 : a1 = 0
   ·rw [if_pos c10] at H
    exact absurd H (by simp)
   ·rw [if_neg c10] at H
    have c10b0 : (a1 == 0) = false := beq_eq_false_iff_ne.mpr c10
    have c10b1 : (a1 != 0) = true := bne_iff_ne.mpr c10
    simp only [Option.some.injEq, Prod.mk.injEq] at H
    obtain ⟨rfl, rfl, rfl⟩ := H
    go_enter Try.func96, Try.ntmps96
    go_wp2_with (first | ((with_reducible refine gate_callee (f := 106) rfl ?_); refine goesL_ (some 9) rfl rfl Try.func106 (by kernel_rfl) rfl #[.pointer (some ⟨g, 0, none⟩)] rfl (by (try simp only [List.map_toArray, List.map_cons, List.map_nil]); first | done | rfl | (simp only [List.length_drop, List.length_take]; rfl)) ?_; (with_reducible refine (spec_l00Src_next.calls g s0_0 s0_1 s0_2 t698 t699 t700 w0 _ ?side1 ?side2 A4.out).mono ?_); (case side1 => repeat (first | (with_reducible first | exact HI0.out | apply IsS110.alloc | apply IsS110.drewN | apply IsS110.drew | apply IsS110.set_1 | apply IsS110.set_2) | exact HI0.out)); (case side2 => repeat (first | (with_reducible first | exact HB.out | apply below_alloc | apply pw_below_drewN | apply below_drew1 | refine below_set ?_ (IsS110.ge HI0.out)) | exact HB.out)); rintro e w11 ⟨rfl, hi, hb, hk⟩; refine ⟨_, rfl, ?_⟩; have n0_ := Aside0.mk (KeepBut.trans (by repeat (first | (with_reducible first | exact HK.out | apply KeepBut.set_ | apply keep_drewN | apply keep_drew | apply keep_alloc) | exact HK.out)) hk (.inl rfl)); have n1_ := Aside0.mk (hb); have n2_ := Aside0.mk (hi); clear HK; clear HB; clear HI0; have HK := n0_; have HB := n1_; have HI0 := n2_; clear n0_ n1_ n2_; (try clear hb); (try clear hb2); (try clear hk); (try clear hi)))
    go_ret
    exact ⟨by first | rfl | (simp [errW_none, errW_some] <;> rfl) | (simp [*, errW_none, errW_some] <;> rfl), by repeat (first | (with_reducible first | exact HI0.out | apply IsS110.alloc | apply IsS110.drewN | apply IsS110.drew | apply IsS110.set_1 | apply IsS110.set_2) | exact HI0.out), by repeat (first | (with_reducible first | exact HB.out | apply below_alloc | apply pw_below_drewN | apply below_drew1 | refine below_set ?_ (IsS110.ge HI0.out)) | exact HB.out), by repeat (first | (with_reducible first | exact HK.out | apply KeepBut.set_ | apply keep_drewN | apply keep_drew | apply keep_alloc) | exact HK.out)⟩
end Go.Proofs.Ytojpibpjieanhaa.X
end
section
-- Written by a program of this session out of the kit's print of the loaded functions: a plain function of a Go function, and its contract.
namespace Go.Proofs.Ytojpibpjieanhaa.X
open Go.RowKit Go.Proofs.YtojpibpjieanhaaW.PrintWords Go.Proofs.YtojpibpjieanhaaW.PrintLast Go.Proofs.YtojpibpjieanhaaW.PrintMore
attribute [local go_sem] max2_int min2_int max_two min_two max_three min_three max_four min_four   -- for this text's walks alone
set_option linter.unusedVariables false
set_option linter.unusedSimpArgs false
def spec_l00In.f (a0 : Int) (a1 : Int) (a2 : Int) : Option (Bool) := if a0 ≥ a1 then (some (decide (a0 ≤ a2))) else (some false)
set_option maxHeartbeats 8000000 in
set_option maxRecDepth 100000 in
theorem spec_l00In.calls (a0 : Int) (a1 : Int) (a2 : Int) (r : Bool) (w : World) (h : spec_l00In.f a0 a1 a2 = some r) :
  Calls Try.prog 45 #[.int .i64 a0, .int .i64 a1, .int .i64 a2] w fun e w' => e = .returned (.bool r) ∧ Drawn0 w w' := by
 have H : (if a0 ≥ a1 then (some (decide (a0 ≤ a2))) else (some false)) = some r := h
 clear h
 by_cases c4 : a0 ≥ a1
 ·rw [if_pos c4] at H
  have c4b0 : decide (a1 ≤ a0) = true := decide_eq_true c4
  clear c4
  obtain rfl := Option.some.inj H
  go_enter Try.func45, Try.ntmps45
  go_wp2
  go_ret
  exact ⟨by first | rfl | (simp; done) | (simp [*]; done), by repeat (first | exact Drawn0.refl _ | apply Drawn0.step)⟩
 ·rw [if_neg c4] at H
  have c4b0 : decide (a1 ≤ a0) = false := decide_eq_false c4
  clear c4
  obtain rfl := Option.some.inj H
  go_enter Try.func45, Try.ntmps45
  go_wp2
  go_ret
  exact ⟨by first | rfl | (simp; done) | (simp [*]; done), by repeat (first | exact Drawn0.refl _ | apply Drawn0.step)⟩
end Go.Proofs.Ytojpibpjieanhaa.X
end
section
-- Written by a program of this session out of the kit's print of the loaded functions: a plain function of a Go function, and its contract.
namespace Go.Proofs.Ytojpibpjieanhaa.X
open Go.RowKit Go.Proofs.YtojpibpjieanhaaW.PrintWords Go.Proofs.YtojpibpjieanhaaW.PrintLast Go.Proofs.YtojpibpjieanhaaW.PrintMore
attribute [local go_sem] max2_int min2_int max_two min_two max_three min_three max_four min_four   -- for this text's walks alone
set_option linter.unusedVariables false
set_option linter.unusedSimpArgs false
def IsS36 (w0 W : World) (g : Nat) (f0 : List Int) (f1 : List (S55)) : Prop := ∃ A0 c0, ∃ A1 c1, W.heap[g]? = some (.cells #[.slice A0 f0.length c0, .slice A1 f1.length c1] 36 (0, 0)) ∧ w0.heap.size ≤ g ∧ Kd.C (Kd.int .i64) w0 A0 f0.length f0 ∧ Kd.C k55 w0 A1 f1.length f1
theorem IsS36.grown {w0 W : World} {g : Nat} {f0 : List Int} {f1 : List (S55)} {W1 : World} {row : Option Nat} (h : IsS36 w0 W g f0 f1) (hw : W.grownBy W1 row) (hne : some g ≠ row) : IsS36 w0 W1 g f0 f1 := by
 obtain ⟨A0, c0, A1, c1, hb, hg, hr0, hr1⟩ := h
 exact ⟨A0, c0, A1, c1, blk_grown hb hw hne, hg, hr0, hr1⟩
theorem IsS36.fresh {w0 W : World} {g : Nat} {f0 : List Int} {f1 : List (S55)} (h : IsS36 w0 W g f0 f1) : ∀ k, W.heap.size ≤ k → k ≠ g := by
 obtain ⟨A0, c0, A1, c1, hb, hg, hr0, hr1⟩ := h
 exact Kd.freshB hb
theorem IsS36.kept {w0 W : World} {g : Nat} {f0 : List Int} {f1 : List (S55)} {W1 : World} {S : Nat → Prop} (h : IsS36 w0 W g f0 f1) (hk : Kept W W1 S) (hne : ¬ S g) : IsS36 w0 W1 g f0 f1 := by
 obtain ⟨A0, c0, A1, c1, hb, hg, hr0, hr1⟩ := h
 exact ⟨A0, c0, A1, c1, blk_kept hb hk hne, hg, hr0, hr1⟩
theorem IsS36.below {w0 W : World} {g : Nat} {f0 : List Int} {f1 : List (S55)} {W1 : World} (h : IsS36 w0 W g f0 f1) (hw : Below W.heap.size W W1) : IsS36 w0 W1 g f0 f1 := h.grown (grown_of_below hw none) (by simp)
theorem IsS36.alloc {w0 W : World} {g : Nat} {f0 : List Int} {f1 : List (S55)} (h : IsS36 w0 W g f0 f1) (o : Obj) : IsS36 w0 (W.alloc o) g f0 f1 := h.below (below_alloc (Below.refl _ _) o)
theorem IsS36.drewN {w0 W : World} {g : Nat} {f0 : List Int} {f1 : List (S55)} (h : IsS36 w0 W g f0 f1) (m : Nat) : IsS36 w0 (W.drewN m) g f0 f1 := h
theorem IsS36.drew {w0 W : World} {g : Nat} {f0 : List Int} {f1 : List (S55)} (h : IsS36 w0 W g f0 f1) : IsS36 w0 W.drew g f0 f1 := h
theorem IsS36.at_ {w0 W : World} {g : Nat} {f0 : List Int} {f1 : List (S55)} {w' : World} {m : Nat} (hq : W.drewN m = w') (h : IsS36 w0 W g f0 f1) : IsS36 w0 w' g f0 f1 := by subst hq; exact IsS36.drewN h m
theorem IsS36.own_ne {w0 W : World} {g : Nat} {f0 : List Int} {f1 : List (S55)} {α : Type} {d : Kd α} {e : Nat} {base : Nat} {ok : Nat → Prop} {v : Value} {xs : List α} (h : IsS36 w0 W g f0 f1) (ho : d.R e W base ok v xs) (ht : e ≠ 36) : some g ≠ v.ownBlock := by
 obtain ⟨A0, c0, A1, c1, hb, hg, hr0, hr1⟩ := h
 exact Kd.R_ne ho hb ht
theorem IsS36.lt {w0 W : World} {g : Nat} {f0 : List Int} {f1 : List (S55)} (h : IsS36 w0 W g f0 f1) : g < W.heap.size := by
 obtain ⟨A0, c0, A1, c1, hb, hg, hr0, hr1⟩ := h
 exact blk_lt hb
theorem IsS36.ge {w0 W : World} {g : Nat} {f0 : List Int} {f1 : List (S55)} (h : IsS36 w0 W g f0 f1) : w0.heap.size ≤ g := by
 obtain ⟨A0, c0, A1, c1, hb, hg, hr0, hr1⟩ := h
 exact hg
theorem IsS36.ne_blk {w0 W : World} {g : Nat} {f0 : List Int} {f1 : List (S55)} {a : Nat} {cs : Array Value} {t : TypeId} {fr : Nat × Nat} (h : IsS36 w0 W g f0 f1) (hb2 : W.heap[a]? = some (.cells cs t fr)) (ht : t ≠ 36) : g ≠ a := by
 obtain ⟨A0, c0, A1, c1, hb, hg, hr0, hr1⟩ := h
 rintro rfl
 rw [hb] at hb2
 injection hb2 with hb2
 injection hb2 with _ ht2
 exact ht ht2.symm
theorem IsS36.far {w0 W : World} {g : Nat} {f0 : List Int} {f1 : List (S55)} {p : Addr} (h : IsS36 w0 W g f0 f1) (hne : g ≠ p.block) (u : Value) : IsS36 w0 (W.setCell p u) g f0 f1 := by
 obtain ⟨A0, c0, A1, c1, hb, hg, hr0, hr1⟩ := h
 exact ⟨A0, c0, A1, c1, blk_far hb hne u, hg, hr0, hr1⟩
theorem cellS36_0 {W : World} {g : Nat} {A0 : Option Addr} {c0 : Nat} {A1 : Option Addr} {c1 : Nat} {f0 : List Int} {f1 : List (S55)} (h : W.heap[g]? = some (.cells #[.slice A0 f0.length c0, .slice A1 f1.length c1] 36 (0, 0))) : W.cell? ⟨g, 0, none⟩ = some (.slice A0 f0.length c0) := (blk_cell h 0).trans rfl
theorem cellS36_1 {W : World} {g : Nat} {A0 : Option Addr} {c0 : Nat} {A1 : Option Addr} {c1 : Nat} {f0 : List Int} {f1 : List (S55)} (h : W.heap[g]? = some (.cells #[.slice A0 f0.length c0, .slice A1 f1.length c1] 36 (0, 0))) : W.cell? ⟨g, 1, none⟩ = some (.slice A1 f1.length c1) := (blk_cell h 1).trans rfl
mutual
def spec_l08Form.j0 : Nat → Int → Bool → List Int → List (S55) → Option (Bool)
 | 0, _, _, _, _ => none
 | k + 1, x3, x22, x1000, x1001 => if x22 = true then (some false) else (spec_l08Form.l0 k x3 0 x1000 x1001)
def spec_l08Form.l0 : Nat → Int → Int → List Int → List (S55) → Option (Bool)
 | 0, _, _, _, _ => none
 | k + 1, x3, x4, x1000, x1001 => if x4 < (x1000.length : Int) then (if 0 ≤ x4 then ((spec_l00In.f (rd x1000 x4) 0 100).bind fun t175 => (if t175 = true then (spec_l08Form.l0 k x3 (wrap64 (x4 + 1)) x1000 x1001) else (some false))) else (none)) else (spec_l08Form.l1 k x3 0 x1000 x1001)
def spec_l08Form.l1 : Nat → Int → Int → List Int → List (S55) → Option (Bool)
 | 0, _, _, _, _ => none
 | k + 1, x3, x5, x1000, x1001 => if x5 < (x1001.length : Int) then (if 0 ≤ x5 then ((spec_l00In.f ((rd_T55 x1001 x5).f0) 0 (wrap64 (x3 - 1))).bind fun t178 => (if t178 = true then ((spec_l00In.f ((rd_T55 x1001 x5).f1) 0 (wrap64 (x3 - 1))).bind fun t179 => (if t179 = true then ((spec_l00In.f ((rd_T55 x1001 x5).f2) 0 20).bind fun t180 => (if t180 = true then (spec_l08Form.l1 k x3 (wrap64 (x5 + 1)) x1000 x1001) else (some false))) else (some false))) else (some false))) else (none)) else (some true)
end
def spec_l08Form.f (k : Nat) (s0_0 : List Int) (s0_1 : List (S55)) : Option (Bool) := (spec_l00In.f (s0_0.length : Int) 1 8).bind fun t173 => (if t173 = true then (spec_l08Form.j0 k (s0_0.length : Int) (decide ((s0_1.length : Int) > 16)) s0_0 s0_1) else (spec_l08Form.j0 k (s0_0.length : Int) true s0_0 s0_1))
end Go.Proofs.Ytojpibpjieanhaa.X
end
section
-- Written by a program of this session out of the kit's print of the loaded functions: a plain function of a Go function, and its contract.
namespace Go.Proofs.Ytojpibpjieanhaa.X
open Go.RowKit Go.Proofs.YtojpibpjieanhaaW.PrintWords Go.Proofs.YtojpibpjieanhaaW.PrintLast Go.Proofs.YtojpibpjieanhaaW.PrintMore
attribute [local go_sem] max2_int min2_int max_two min_two max_three min_three max_four min_four   -- for this text's walks alone
set_option linter.unusedVariables false
set_option linter.unusedSimpArgs false
def spec_l00Has.l0 : Nat → List Int → Int → Int → Option (Bool)
 | 0, _, _, _ => none
 | k + 1, x0, x1, x5 => if x5 < (x0.length : Int) then (if 0 ≤ x5 then (if (rd x0 x5) = x1 then (some true) else (spec_l00Has.l0 k x0 x1 (wrap64 (x5 + 1)))) else (none)) else (some false)
def spec_l00Has.f (k : Nat) (l0 : List Int) (a1 : Int) : Option (Bool) := spec_l00Has.l0 k l0 a1 0
set_option maxHeartbeats 8000000 in
set_option maxRecDepth 100000 in
theorem spec_l00Has.calls (k : Nat) (A0 : Option Addr) (c0 : Nat) (l0 : List Int) (a1 : Int) (r : Bool) (w : World) (hr0 : Kd.C (Kd.int .i64) w A0 l0.length l0) (hc0 : l0.length ≤ c0) (h : spec_l00Has.f k l0 a1 = some r) :
  Calls Try.prog 100 #[.slice A0 l0.length c0, .int .i64 a1] w fun e w' => e = .returned (.bool r) ∧ Drawn0 w w' := by
 have HR0 := Aside0.mk hr0
 have HC0 := Aside0.mk hc0
 clear hr0 hc0
 have H : (spec_l00Has.l0 k l0 a1 0) = some r := h
 clear h
 have H' := Aside0.mk H
 clear H
 go_enter Try.func100, Try.ntmps100
 go_wp2
 go_loopg [5] k (fun kq v5 w' => ∃ (x5_1 : Int), v5 = .int .i64 x5_1 ∧ Aside0 (spec_l00Has.l0 kq l0 a1 x5_1 = some r) ∧ Aside0 (kq ≤ k) ∧ Drawn0 w w')
 case atStart => exact ⟨(0), (by first | rfl | (simp; done) | (simp [*]; done)), H', ⟨Nat.le_refl _⟩, by repeat (first | exact Drawn0.refl _ | apply Drawn0.step)⟩
 case round =>
  clear H'
  try clear c1
  try clear p2
  obtain ⟨x5_1, rfl, HA, HK1, ⟨m1, rfl⟩⟩ := hrel
  cases gk with
  | zero => exact absurd HA.out (by simp [spec_l00Has.l0])
  | succ k1 =>
   have H := HA.out
   clear HA
   simp only [spec_l00Has.l0] at H
   by_cases c3 : x5_1 < (l0.length : Int)
   ·rw [if_pos c3] at H
    have c3b0 : decide (x5_1 < (l0.length : Int)) = true := decide_eq_true c3
    clear c3
    by_cases c4 : 0 ≤ x5_1
    ·rw [if_pos c4] at H
     have c4b0 : decide (0 ≤ x5_1) = true := decide_eq_true c4
     clear c4
     by_cases c5 : (rd l0 x5_1) = a1
     ·rw [if_pos c5] at H
      have c5b0 : ((rd l0 x5_1) == a1) = true := beq_iff_eq.mpr c5
      have c5b1 : ((rd l0 x5_1) != a1) = false := bne_eq_false_iff_eq.mpr c5
      clear c5
      obtain rfl := Option.some.inj H
      have p181 : 0 ≤ (x5_1 : Int) := of_decide_eq_true (by first | (with_reducible assumption) | assumption)
      have q181 : x5_1 < (l0.length : Int) := of_decide_eq_true (by first | (with_reducible assumption) | assumption)
      obtain ⟨ad181, e181, hx181_0⟩ := Kd.at_int HR0.out x5_1 p181 q181
      cases e181
      replace p181 := eq_true p181
      replace q181 := eq_true q181
      go_wp2
      go_ret
      exact ⟨by first | rfl | (simp; done) | (simp [*]; done), by repeat (first | exact Drawn0.refl _ | apply Drawn0.step)⟩
     ·rw [if_neg c5] at H
      have c5b0 : ((rd l0 x5_1) == a1) = false := beq_eq_false_iff_ne.mpr c5
      have c5b1 : ((rd l0 x5_1) != a1) = true := bne_iff_ne.mpr c5
      have H' := Aside0.mk H
      clear H
      have p181 : 0 ≤ (x5_1 : Int) := of_decide_eq_true (by first | (with_reducible assumption) | assumption)
      have q181 : x5_1 < (l0.length : Int) := of_decide_eq_true (by first | (with_reducible assumption) | assumption)
      obtain ⟨ad181, e181, hx181_0⟩ := Kd.at_int HR0.out x5_1 p181 q181
      cases e181
      replace p181 := eq_true p181
      replace q181 := eq_true q181
      go_wp2
      go_roundg k1
      case measure => have := HK1.out; omega
      case rel => exact ⟨(wrap64 (x5_1 + 1)), (by first | rfl | (simp; done) | (simp [*]; done)), H', ⟨by have := HK1.out; omega⟩, by repeat (first | exact Drawn0.refl _ | apply Drawn0.step)⟩
    ·rw [if_neg c4] at H
     exact absurd H (by simp)
   ·rw [if_neg c3] at H
    have c3b0 : decide (x5_1 < (l0.length : Int)) = false := decide_eq_false c3
    clear c3
    obtain rfl := Option.some.inj H
    go_wp2
    go_ret
    exact ⟨by first | rfl | (simp; done) | (simp [*]; done), by repeat (first | exact Drawn0.refl _ | apply Drawn0.step)⟩
end Go.Proofs.Ytojpibpjieanhaa.X
end
section
-- Written by a program of this session out of the kit's print of the loaded functions: a plain function of a Go function, and its contract.
namespace Go.Proofs.Ytojpibpjieanhaa.X
open Go.RowKit Go.Proofs.YtojpibpjieanhaaW.PrintWords Go.Proofs.YtojpibpjieanhaaW.PrintLast Go.Proofs.YtojpibpjieanhaaW.PrintMore
attribute [local go_sem] max2_int min2_int max_two min_two max_three min_three max_four min_four   -- for this text's walks alone
set_option linter.unusedVariables false
set_option linter.unusedSimpArgs false
mutual
def spec_l00Put.l0 : Nat → List Int → Int → List Int → Bool → Int → Option (List Int)
 | 0, _, _, _, _, _ => none
 | k + 1, x0, x1, x5, x6, x7 => if x7 < (x0.length : Int) then (if x6 = true then (spec_l00Put.j1 k x0 x1 x5 x6 x7 false) else (if 0 ≤ x7 then (spec_l00Put.j1 k x0 x1 x5 x6 x7 (decide ((rd x0 x7) ≥ x1))) else (none))) else (if x6 = true then (some x5) else (if x5.length < 17592186044416 then (some (x5 ++ [x1])) else (none)))
def spec_l00Put.j1 : Nat → List Int → Int → List Int → Bool → Int → Bool → Option (List Int)
 | 0, _, _, _, _, _, _ => none
 | k + 1, x0, x1, x5, x6, x7, x24 => if x24 = true then (if 0 ≤ x7 then (if x7 < (x0.length : Int) then (if (rd x0 x7) > x1 then (if x5.length < 17592186044416 then ((some (x5 ++ [x1] : List Int)).bind fun y190 => (if y190.length < 17592186044416 then (spec_l00Put.l0 k x0 x1 (y190 ++ [rd x0 x7]) true (wrap64 (x7 + 1))) else (none))) else (none)) else (if x5.length < 17592186044416 then (spec_l00Put.l0 k x0 x1 (x5 ++ [rd x0 x7]) true (wrap64 (x7 + 1))) else (none))) else (none)) else (none)) else (if 0 ≤ x7 then (if x7 < (x0.length : Int) then (if x5.length < 17592186044416 then (spec_l00Put.l0 k x0 x1 (x5 ++ [rd x0 x7]) x6 (wrap64 (x7 + 1))) else (none)) else (none)) else (none))
end
def spec_l00Put.f (k : Nat) (l0 : List Int) (a1 : Int) : Option (List Int) := spec_l00Put.l0 k l0 a1 (([] : List Int)) false 0
set_option maxHeartbeats 8000000 in
set_option maxRecDepth 100000 in
theorem spec_l00Put.calls (k : Nat) (A0 : Option Addr) (c0 : Nat) (l0 : List Int) (a1 : Int) (r : List Int) (w : World) (hr0 : Kd.C (Kd.int .i64) w A0 l0.length l0) (hc0 : l0.length ≤ c0) (h : spec_l00Put.f k l0 a1 = some r) :
  Calls Try.prog 101 #[.slice A0 l0.length c0, .int .i64 a1] w fun e w' => ∃ v0_ : Value, e = .returned (v0_) ∧ Kd.R (Kd.int .i64) 2 w' w.heap.size (fun _ => True) v0_ r ∧ Below w.heap.size w w' := by
 have HR0 := Aside0.mk hr0
 have HC0 := Aside0.mk hc0
 clear hr0 hc0
 have HB := Aside0.mk (Below.refl w.heap.size w)
 have H : (spec_l00Put.l0 k l0 a1 (([] : List Int)) false 0) = some r := h
 clear h
 obtain ⟨y182, hy182⟩ : ∃ y_ : List Int, y_ = (([] : List Int)) := ⟨_, rfl⟩
 replace H : (spec_l00Put.l0 k l0 a1 y182 false 0) = some r := by first | (rw [hy182]; with_reducible exact H) | (have H2_ := (Option.bind_some _ _).symm.trans H; rw [hy182]; with_reducible exact H2_) | (have H2_ := (Option.bind_some _ _).symm.trans H; with_reducible exact H2_) | with_reducible exact H | (rw [hy182]; exact H) | exact H
 have Ny182 := Aside0.mk hy182
 clear hy182
 have H' := Aside0.mk H
 clear H
 go_enter Try.func101, Try.ntmps101
 go_wp2_with (first | ((with_reducible refine gate_dst (N := 8) rfl ?_); refine Kd.R_lit (Kd.int .i64) _ 2 ?hg (N := 8) ?hd (xs := ([] : List Int)) (inner := []) (ok := fun _ => True) (okp := fun _ => True) ?hr ?hp (fun _ hk => hk) trivial (Below.refl _ _) (Nat.le_refl _) (by simp) ?_; (case hd => rfl); (case hg => rfl); (case hr => first | (go_simp; done) | (go_simp; rfl)); (case hp => exact (Reps.none _ _)); intro v183 w3 ho4 hb hg_ hnew_; clear hg_ hnew_; (first | rw [← Ny182.out] at ho4 | (simp only [Int.reduceToNat] at ho4; rw [← Ny182.out] at ho4)); have n0_ := Aside0.mk (Kd.R_lower ho4 (below_size (by repeat (first | (with_reducible first | exact HB.out | apply below_alloc | apply pw_below_drewN | apply below_drew1) | exact HB.out)))); have n1_ := Aside0.mk (below_step (by repeat (first | (with_reducible first | exact HB.out | apply below_alloc | apply pw_below_drewN | apply below_drew1) | exact HB.out)) hb); clear HB; have HO184 := n0_; have HB := n1_; clear n0_ n1_; clear hb ho4))
 go_loopg [5, 6, 7] k (fun kq v5 v6 v7 w' => ∃ (x5_1 : List Int) (x6_1 : Bool) (x7_1 : Int), v6 = .bool x6_1 ∧ v7 = .int .i64 x7_1 ∧ Aside0 (spec_l00Put.l0 kq l0 a1 x5_1 x6_1 x7_1 = some r) ∧ Aside0 (kq ≤ k) ∧ Aside0 (Kd.R (Kd.int .i64) 2 w' w.heap.size (fun _ => True) v5 x5_1) ∧ Aside0 (Below w.heap.size w w'))
 case atStart => exact ⟨(y182), (false), (0), (by first | rfl | (simp; done) | (simp [*]; done)), (by first | rfl | (simp; done) | (simp [*]; done)), H', ⟨Nat.le_refl _⟩, ⟨by (with_reducible repeat (first | apply Kd.R_alloc | apply Kd.R_drewN | apply Kd.R_drew)); exact HO184.out⟩, ⟨by repeat (first | (with_reducible first | exact HB.out | apply below_alloc | apply pw_below_drewN | apply below_drew1) | exact HB.out)⟩⟩
 case round =>
  clear H'
  try clear c1
  try clear p2
  obtain ⟨x5_1, x6_1, x7_1, rfl, rfl, HA, HK1, HO_5, HB⟩ := hrel
  cases gk with
  | zero => exact absurd HA.out (by simp [spec_l00Put.l0])
  | succ k1 =>
   have H := HA.out
   clear HA
   simp only [spec_l00Put.l0] at H
   by_cases c5 : x7_1 < (l0.length : Int)
   ·rw [if_pos c5] at H
    have c5b0 : decide (x7_1 < (l0.length : Int)) = true := decide_eq_true c5
    clear c5
    have HC6 := Aside0.mk H
    clear H
    go_upto_region 6 with (fail)
    go_cut [24] (fun v24 wc => ∃ (kq : Nat) (x24_5 : Bool), v24 = .bool x24_5 ∧ Aside0 (spec_l00Put.j1 kq l0 a1 x5_1 x6_1 x7_1 x24_5 = some r) ∧ Aside0 (kq ≤ k1) ∧ Aside0 (Kd.R (Kd.int .i64) 2 wc w.heap.size (fun _ => True) u5 x5_1) ∧ Aside0 (Below w.heap.size w wc))
    case first =>
     have H := HC6.out
     clear HC6
     by_cases c7 : x6_1 = true
     ·subst c7
      have H1 : (spec_l00Put.j1 k1 l0 a1 x5_1 true x7_1 false) = some r := by rw [if_pos rfl] at H; exact H
      clear H
      have H := H1
      clear H1
      have H' := Aside0.mk H
      clear H
      go_wp2
      go_meet
      case rel => exact ⟨_, (false), (by first | rfl | (simp; done) | (simp [*]; done)), H', ⟨by have := HK1.out; first | omega | exact Nat.le_refl _⟩, ⟨by (with_reducible repeat (first | apply Kd.R_alloc | apply Kd.R_drewN | apply Kd.R_drew)); exact HO_5.out⟩, ⟨by repeat (first | (with_reducible first | exact HB.out | apply below_alloc | apply pw_below_drewN | apply below_drew1) | exact HB.out)⟩⟩
     ·replace c7 := Bool.eq_false_iff.mpr c7
      subst c7
      have H1 : (if 0 ≤ x7_1 then (spec_l00Put.j1 k1 l0 a1 x5_1 false x7_1 (decide ((rd l0 x7_1) ≥ a1))) else (none)) = some r := by rw [if_neg (show ¬ (false = true) by decide)] at H; exact H
      clear H
      have H := H1
      clear H1
      by_cases c8 : 0 ≤ x7_1
      ·rw [if_pos c8] at H
       have c8b0 : decide (0 ≤ x7_1) = true := decide_eq_true c8
       clear c8
       (first | rw [c8b0] | (simp only [i64_w, i32_w]; rw [c8b0]) | skip)
       have H' := Aside0.mk H
       clear H
       have p188 : 0 ≤ (x7_1 : Int) := of_decide_eq_true (by first | (with_reducible assumption) | assumption)
       have q188 : x7_1 < (l0.length : Int) := of_decide_eq_true (by first | (with_reducible assumption) | assumption)
       obtain ⟨ad188, e188, hx188_0⟩ := Kd.at_int HR0.out x7_1 p188 q188
       cases e188
       replace hx188_0 := (HB.out.cell (World.block_lt_of_cell? w _ hx188_0)).trans hx188_0
       replace p188 := eq_true p188
       replace q188 := eq_true q188
       go_wp2
       go_meet
       case rel => exact ⟨_, (decide ((rd l0 x7_1) ≥ a1)), (by first | rfl | (simp; done) | (simp [*]; done)), H', ⟨by have := HK1.out; first | omega | exact Nat.le_refl _⟩, ⟨by (with_reducible repeat (first | apply Kd.R_alloc | apply Kd.R_drewN | apply Kd.R_drew)); exact HO_5.out⟩, ⟨by repeat (first | (with_reducible first | exact HB.out | apply below_alloc | apply pw_below_drewN | apply below_drew1) | exact HB.out)⟩⟩
      ·rw [if_neg c8] at H
       exact absurd H (by simp)
    case rest =>
     clear HC6
     try clear c1
     try clear p1
     try clear q1
     try clear hx1
     try clear p2
     try clear c5
     try clear c5b0
     try clear c7
     try clear c8
     try clear c8b0
     try clear hx188_0
     try clear p188
     try clear p2
     try clear q188
     obtain ⟨kq, x24_5, rfl, HA, HJ5, HO_5, HB⟩ := hcut
     cases kq with
     | zero => exact absurd HA.out (by simp [spec_l00Put.j1])
     | succ kj5 =>
      have H := HA.out
      clear HA
      simp only [spec_l00Put.j1] at H
      by_cases c9 : x24_5 = true
      ·subst c9
       have H1 : (if 0 ≤ x7_1 then (if x7_1 < (l0.length : Int) then (if (rd l0 x7_1) > a1 then (if x5_1.length < 17592186044416 then ((some (x5_1 ++ [a1] : List Int)).bind fun y190 => (if y190.length < 17592186044416 then (spec_l00Put.l0 kj5 l0 a1 (y190 ++ [rd l0 x7_1]) true (wrap64 (x7_1 + 1))) else (none))) else (none)) else (if x5_1.length < 17592186044416 then (spec_l00Put.l0 kj5 l0 a1 (x5_1 ++ [rd l0 x7_1]) true (wrap64 (x7_1 + 1))) else (none))) else (none)) else (none)) = some r := by rw [if_pos rfl] at H; exact H
       clear H
       have H := H1
       clear H1
       by_cases c10 : 0 ≤ x7_1
       ·rw [if_pos c10] at H
        have c10b0 : decide (0 ≤ x7_1) = true := decide_eq_true c10
        clear c10
        by_cases c11 : x7_1 < (l0.length : Int)
        ·rw [if_pos c11] at H
         have c11b0 : decide (x7_1 < (l0.length : Int)) = true := decide_eq_true c11
         clear c11
         by_cases c12 : (rd l0 x7_1) > a1
         ·rw [if_pos c12] at H
          have c12b0 : decide (a1 < (rd l0 x7_1)) = true := decide_eq_true c12
          clear c12
          by_cases c13 : x5_1.length < 17592186044416
          ·rw [if_pos c13] at H
           have LMc13 := Aside0.mk c13
           clear c13
           obtain ⟨y190, hy190⟩ : ∃ y_ : List Int, y_ = (x5_1 ++ [a1]) := ⟨_, rfl⟩
           replace H : (if y190.length < 17592186044416 then (spec_l00Put.l0 kj5 l0 a1 (y190 ++ [rd l0 x7_1]) true (wrap64 (x7_1 + 1))) else (none)) = some r := by first | (rw [hy190]; with_reducible exact H) | (have H2_ := (Option.bind_some _ _).symm.trans H; rw [hy190]; with_reducible exact H2_) | (have H2_ := (Option.bind_some _ _).symm.trans H; with_reducible exact H2_) | with_reducible exact H | (rw [hy190]; exact H) | exact H
           have Ny190 := Aside0.mk hy190
           clear hy190
           by_cases c14 : y190.length < 17592186044416
           ·rw [if_pos c14] at H
            have LMc14 := Aside0.mk c14
            clear c14
            obtain ⟨y194, hy194⟩ : ∃ y_ : List Int, y_ = (y190 ++ [rd l0 x7_1]) := ⟨_, rfl⟩
            replace H : (spec_l00Put.l0 kj5 l0 a1 y194 true (wrap64 (x7_1 + 1))) = some r := by first | (rw [hy194]; with_reducible exact H) | (have H2_ := (Option.bind_some _ _).symm.trans H; rw [hy194]; with_reducible exact H2_) | (have H2_ := (Option.bind_some _ _).symm.trans H; with_reducible exact H2_) | with_reducible exact H | (rw [hy194]; exact H) | exact H
            have Ny194 := Aside0.mk hy194
            clear hy194
            have H' := Aside0.mk H
            clear H
            have p189 : 0 ≤ (x7_1 : Int) := of_decide_eq_true (by first | (with_reducible assumption) | assumption)
            have q189 : x7_1 < (l0.length : Int) := of_decide_eq_true (by first | (with_reducible assumption) | assumption)
            obtain ⟨ad189, e189, hx189_0⟩ := Kd.at_int HR0.out x7_1 p189 q189
            cases e189
            replace hx189_0 := (HB.out.cell (World.block_lt_of_cell? w _ hx189_0)).trans hx189_0
            replace p189 := eq_true p189
            replace q189 := eq_true q189
            go_wp2_with (first | ((with_reducible refine gate_builtin (b := .append) (xs := #[.tmp 31, .tmp 33]) rfl ?_); at_builtin; refine Kd.R_append (Kd.int .i64) (w0 := w) w.heap.size rfl (.tmp 31) (.tmp 33) 22 2 (.int .i64 0) 8 rfl Try.underlying22 info2 rfl (by decide) (by omega) u5 x5_1 a1 [.int .i64 a1] (fun _ => True) (fun _ => False) rfl rfl ?aP (fun _ hk => hk.elim) ?aF ?aO ?aB ?aS ?aL ?_; (case aP => exact rfl); (case aB => exact (by repeat (first | (with_reducible first | exact HB.out | apply below_alloc | apply pw_below_drewN | apply below_drew1) | exact HB.out))); (case aF => exact (fun _ _ => trivial)); (case aO => exact (by (with_reducible repeat (first | apply Kd.R_alloc | apply Kd.R_drewN | apply Kd.R_drew)); exact HO_5.out)); (case aS => exact (below_size (by repeat (first | (with_reducible first | exact HB.out | apply below_alloc | apply pw_below_drewN | apply below_drew1) | exact HB.out)))); (case aL => have := LMc13.out; omega); intro v191 w15 ho hb hg hat; rw [← Ny190.out] at ho; have n0_ := Aside0.mk (hb); have n1_ := Aside0.mk (ho); clear HB; clear HO_5; have HB := n0_; have HO192 := n1_; clear n0_ n1_; clear ho hb hg hat; have p193 : 0 ≤ (x7_1 : Int) := of_decide_eq_true (by first | (with_reducible assumption) | assumption); have q193 : x7_1 < (l0.length : Int) := of_decide_eq_true (by first | (with_reducible assumption) | assumption); obtain ⟨ad193, e193, hx193_0⟩ := Kd.at_int HR0.out x7_1 p193 q193; obtain rfl : ad189 = ad193 := (by injection e193); replace hx193_0 := (HB.out.cell (World.block_lt_of_cell? w _ hx193_0)).trans hx193_0; replace p193 := eq_true p193; replace q193 := eq_true q193) | ((with_reducible refine gate_builtin (b := .append) (xs := #[.tmp 35, .tmp 40]) rfl ?_); at_builtin; refine Kd.R_append (Kd.int .i64) (w0 := w) w.heap.size rfl (.tmp 35) (.tmp 40) 22 2 (.int .i64 0) 8 rfl Try.underlying22 info2 rfl (by decide) (by omega) v191 y190 (rd l0 x7_1) [.int .i64 (rd l0 x7_1)] (fun _ => True) (fun _ => False) rfl rfl ?aP (fun _ hk => hk.elim) ?aF ?aO ?aB ?aS ?aL ?_; (case aP => exact rfl); (case aB => exact (by repeat (first | (with_reducible first | exact HB.out | apply below_alloc | apply pw_below_drewN | apply below_drew1) | exact HB.out))); (case aF => exact (fun _ _ => trivial)); (case aO => exact (by (with_reducible repeat (first | apply Kd.R_alloc | apply Kd.R_drewN | apply Kd.R_drew)); exact HO192.out)); (case aS => exact (below_size (by repeat (first | (with_reducible first | exact HB.out | apply below_alloc | apply pw_below_drewN | apply below_drew1) | exact HB.out)))); (case aL => have := LMc14.out; omega); intro v195 w16 ho hb hg hat; rw [← Ny194.out] at ho; have n0_ := Aside0.mk (hb); have n1_ := Aside0.mk (ho); clear HB; clear HO192; have HB := n0_; have HO196 := n1_; clear n0_ n1_; clear ho hb hg hat))
            go_roundg kj5
            case measure => have := HK1.out; have := HJ5.out; omega
            case rel => exact ⟨(y194), (true), (wrap64 (x7_1 + 1)), (by first | rfl | (simp; done) | (simp [*]; done)), (by first | rfl | (simp; done) | (simp [*]; done)), H', ⟨by have := HK1.out; have := HJ5.out; omega⟩, ⟨by (with_reducible repeat (first | apply Kd.R_alloc | apply Kd.R_drewN | apply Kd.R_drew)); exact HO196.out⟩, ⟨by repeat (first | (with_reducible first | exact HB.out | apply below_alloc | apply pw_below_drewN | apply below_drew1) | exact HB.out)⟩⟩
           ·rw [if_neg c14] at H
            exact absurd H (by simp)
          ·rw [if_neg c13] at H
           exact absurd H (by simp)
         ·rw [if_neg c12] at H
          have c12b0 : decide (a1 < (rd l0 x7_1)) = false := decide_eq_false c12
          clear c12
          by_cases c17 : x5_1.length < 17592186044416
          ·rw [if_pos c17] at H
           have LMc17 := Aside0.mk c17
           clear c17
           obtain ⟨y198, hy198⟩ : ∃ y_ : List Int, y_ = (x5_1 ++ [rd l0 x7_1]) := ⟨_, rfl⟩
           replace H : (spec_l00Put.l0 kj5 l0 a1 y198 true (wrap64 (x7_1 + 1))) = some r := by first | (rw [hy198]; with_reducible exact H) | (have H2_ := (Option.bind_some _ _).symm.trans H; rw [hy198]; with_reducible exact H2_) | (have H2_ := (Option.bind_some _ _).symm.trans H; with_reducible exact H2_) | with_reducible exact H | (rw [hy198]; exact H) | exact H
           have Ny198 := Aside0.mk hy198
           clear hy198
           have H' := Aside0.mk H
           clear H
           have p189 : 0 ≤ (x7_1 : Int) := of_decide_eq_true (by first | (with_reducible assumption) | assumption)
           have q189 : x7_1 < (l0.length : Int) := of_decide_eq_true (by first | (with_reducible assumption) | assumption)
           obtain ⟨ad189, e189, hx189_0⟩ := Kd.at_int HR0.out x7_1 p189 q189
           cases e189
           replace hx189_0 := (HB.out.cell (World.block_lt_of_cell? w _ hx189_0)).trans hx189_0
           replace p189 := eq_true p189
           replace q189 := eq_true q189
           have p197 : 0 ≤ (x7_1 : Int) := of_decide_eq_true (by first | (with_reducible assumption) | assumption)
           have q197 : x7_1 < (l0.length : Int) := of_decide_eq_true (by first | (with_reducible assumption) | assumption)
           obtain ⟨ad197, e197, hx197_0⟩ := Kd.at_int HR0.out x7_1 p197 q197
           obtain rfl : ad189 = ad197 := (by injection e197)
           replace hx197_0 := (HB.out.cell (World.block_lt_of_cell? w _ hx197_0)).trans hx197_0
           replace p197 := eq_true p197
           replace q197 := eq_true q197
           go_wp2_with (first | ((with_reducible refine gate_builtin (b := .append) (xs := #[.tmp 35, .tmp 40]) rfl ?_); at_builtin; refine Kd.R_append (Kd.int .i64) (w0 := w) w.heap.size rfl (.tmp 35) (.tmp 40) 22 2 (.int .i64 0) 8 rfl Try.underlying22 info2 rfl (by decide) (by omega) u5 x5_1 (rd l0 x7_1) [.int .i64 (rd l0 x7_1)] (fun _ => True) (fun _ => False) rfl rfl ?aP (fun _ hk => hk.elim) ?aF ?aO ?aB ?aS ?aL ?_; (case aP => exact rfl); (case aB => exact (by repeat (first | (with_reducible first | exact HB.out | apply below_alloc | apply pw_below_drewN | apply below_drew1) | exact HB.out))); (case aF => exact (fun _ _ => trivial)); (case aO => exact (by (with_reducible repeat (first | apply Kd.R_alloc | apply Kd.R_drewN | apply Kd.R_drew)); exact HO_5.out)); (case aS => exact (below_size (by repeat (first | (with_reducible first | exact HB.out | apply below_alloc | apply pw_below_drewN | apply below_drew1) | exact HB.out)))); (case aL => have := LMc17.out; omega); intro v199 w18 ho hb hg hat; rw [← Ny198.out] at ho; have n0_ := Aside0.mk (hb); have n1_ := Aside0.mk (ho); clear HB; clear HO_5; have HB := n0_; have HO200 := n1_; clear n0_ n1_; clear ho hb hg hat))
           go_roundg kj5
           case measure => have := HK1.out; have := HJ5.out; omega
           case rel => exact ⟨(y198), (true), (wrap64 (x7_1 + 1)), (by first | rfl | (simp; done) | (simp [*]; done)), (by first | rfl | (simp; done) | (simp [*]; done)), H', ⟨by have := HK1.out; have := HJ5.out; omega⟩, ⟨by (with_reducible repeat (first | apply Kd.R_alloc | apply Kd.R_drewN | apply Kd.R_drew)); exact HO200.out⟩, ⟨by repeat (first | (with_reducible first | exact HB.out | apply below_alloc | apply pw_below_drewN | apply below_drew1) | exact HB.out)⟩⟩
          ·rw [if_neg c17] at H
           exact absurd H (by simp)
        ·rw [if_neg c11] at H
         exact absurd H (by simp)
       ·rw [if_neg c10] at H
        exact absurd H (by simp)
      ·replace c9 := Bool.eq_false_iff.mpr c9
       subst c9
       have H1 : (if 0 ≤ x7_1 then (if x7_1 < (l0.length : Int) then (if x5_1.length < 17592186044416 then (spec_l00Put.l0 kj5 l0 a1 (x5_1 ++ [rd l0 x7_1]) x6_1 (wrap64 (x7_1 + 1))) else (none)) else (none)) else (none)) = some r := by rw [if_neg (show ¬ (false = true) by decide)] at H; exact H
       clear H
       have H := H1
       clear H1
       by_cases c19 : 0 ≤ x7_1
       ·rw [if_pos c19] at H
        have c19b0 : decide (0 ≤ x7_1) = true := decide_eq_true c19
        clear c19
        by_cases c20 : x7_1 < (l0.length : Int)
        ·rw [if_pos c20] at H
         have c20b0 : decide (x7_1 < (l0.length : Int)) = true := decide_eq_true c20
         clear c20
         by_cases c21 : x5_1.length < 17592186044416
         ·rw [if_pos c21] at H
          have LMc21 := Aside0.mk c21
          clear c21
          obtain ⟨y202, hy202⟩ : ∃ y_ : List Int, y_ = (x5_1 ++ [rd l0 x7_1]) := ⟨_, rfl⟩
          replace H : (spec_l00Put.l0 kj5 l0 a1 y202 x6_1 (wrap64 (x7_1 + 1))) = some r := by first | (rw [hy202]; with_reducible exact H) | (have H2_ := (Option.bind_some _ _).symm.trans H; rw [hy202]; with_reducible exact H2_) | (have H2_ := (Option.bind_some _ _).symm.trans H; with_reducible exact H2_) | with_reducible exact H | (rw [hy202]; exact H) | exact H
          have Ny202 := Aside0.mk hy202
          clear hy202
          have H' := Aside0.mk H
          clear H
          have p201 : 0 ≤ (x7_1 : Int) := of_decide_eq_true (by first | (with_reducible assumption) | assumption)
          have q201 : x7_1 < (l0.length : Int) := of_decide_eq_true (by first | (with_reducible assumption) | assumption)
          obtain ⟨ad201, e201, hx201_0⟩ := Kd.at_int HR0.out x7_1 p201 q201
          cases e201
          replace hx201_0 := (HB.out.cell (World.block_lt_of_cell? w _ hx201_0)).trans hx201_0
          replace p201 := eq_true p201
          replace q201 := eq_true q201
          go_wp2_with (first | ((with_reducible refine gate_builtin (b := .append) (xs := #[.tmp 35, .tmp 40]) rfl ?_); at_builtin; refine Kd.R_append (Kd.int .i64) (w0 := w) w.heap.size rfl (.tmp 35) (.tmp 40) 22 2 (.int .i64 0) 8 rfl Try.underlying22 info2 rfl (by decide) (by omega) u5 x5_1 (rd l0 x7_1) [.int .i64 (rd l0 x7_1)] (fun _ => True) (fun _ => False) rfl rfl ?aP (fun _ hk => hk.elim) ?aF ?aO ?aB ?aS ?aL ?_; (case aP => exact rfl); (case aB => exact (by repeat (first | (with_reducible first | exact HB.out | apply below_alloc | apply pw_below_drewN | apply below_drew1) | exact HB.out))); (case aF => exact (fun _ _ => trivial)); (case aO => exact (by (with_reducible repeat (first | apply Kd.R_alloc | apply Kd.R_drewN | apply Kd.R_drew)); exact HO_5.out)); (case aS => exact (below_size (by repeat (first | (with_reducible first | exact HB.out | apply below_alloc | apply pw_below_drewN | apply below_drew1) | exact HB.out)))); (case aL => have := LMc21.out; omega); intro v203 w22 ho hb hg hat; rw [← Ny202.out] at ho; have n0_ := Aside0.mk (hb); have n1_ := Aside0.mk (ho); clear HB; clear HO_5; have HB := n0_; have HO204 := n1_; clear n0_ n1_; clear ho hb hg hat))
          go_roundg kj5
          case measure => have := HK1.out; have := HJ5.out; omega
          case rel => exact ⟨(y202), (x6_1), (wrap64 (x7_1 + 1)), (by first | rfl | (simp; done) | (simp [*]; done)), (by first | rfl | (simp; done) | (simp [*]; done)), H', ⟨by have := HK1.out; have := HJ5.out; omega⟩, ⟨by (with_reducible repeat (first | apply Kd.R_alloc | apply Kd.R_drewN | apply Kd.R_drew)); exact HO204.out⟩, ⟨by repeat (first | (with_reducible first | exact HB.out | apply below_alloc | apply pw_below_drewN | apply below_drew1) | exact HB.out)⟩⟩
         ·rw [if_neg c21] at H
          exact absurd H (by simp)
        ·rw [if_neg c20] at H
         exact absurd H (by simp)
       ·rw [if_neg c19] at H
        exact absurd H (by simp)
   ·rw [if_neg c5] at H
    have c5b0 : decide (x7_1 < (l0.length : Int)) = false := decide_eq_false c5
    clear c5
    by_cases c23 : x6_1 = true
    ·subst c23
     have H1 : (some x5_1) = some r := by rw [if_pos rfl] at H; exact H
     clear H
     have H := H1
     clear H1
     obtain rfl := Option.some.inj H
     go_wp2
     go_ret
     exact ⟨_, by first | rfl | (simp [errW_none, errW_some] <;> rfl) | (simp [*, errW_none, errW_some] <;> rfl), by (with_reducible repeat (first | apply Kd.R_alloc | apply Kd.R_drewN | apply Kd.R_drew)); exact HO_5.out, by repeat (first | (with_reducible first | exact HB.out | apply below_alloc | apply pw_below_drewN | apply below_drew1) | exact HB.out)⟩
    ·replace c23 := Bool.eq_false_iff.mpr c23
     subst c23
     have H1 : (if x5_1.length < 17592186044416 then (some (x5_1 ++ [a1])) else (none)) = some r := by rw [if_neg (show ¬ (false = true) by decide)] at H; exact H
     clear H
     have H := H1
     clear H1
     by_cases c24 : x5_1.length < 17592186044416
     ·rw [if_pos c24] at H
      have LMc24 := Aside0.mk c24
      clear c24
      obtain ⟨y185, hy185⟩ : ∃ y_ : List Int, y_ = (x5_1 ++ [a1]) := ⟨_, rfl⟩
      replace H : (some y185) = some r := by first | (rw [hy185]; with_reducible exact H) | (have H2_ := (Option.bind_some _ _).symm.trans H; rw [hy185]; with_reducible exact H2_) | (have H2_ := (Option.bind_some _ _).symm.trans H; with_reducible exact H2_) | with_reducible exact H | (rw [hy185]; exact H) | exact H
      have Ny185 := Aside0.mk hy185
      clear hy185
      obtain rfl := Option.some.inj H
      go_wp2_with (first | ((with_reducible refine gate_builtin (b := .append) (xs := #[.tmp 44, .tmp 46]) rfl ?_); at_builtin; refine Kd.R_append (Kd.int .i64) (w0 := w) w.heap.size rfl (.tmp 44) (.tmp 46) 22 2 (.int .i64 0) 8 rfl Try.underlying22 info2 rfl (by decide) (by omega) u5 x5_1 a1 [.int .i64 a1] (fun _ => True) (fun _ => False) rfl rfl ?aP (fun _ hk => hk.elim) ?aF ?aO ?aB ?aS ?aL ?_; (case aP => exact rfl); (case aB => exact (by repeat (first | (with_reducible first | exact HB.out | apply below_alloc | apply pw_below_drewN | apply below_drew1) | exact HB.out))); (case aF => exact (fun _ _ => trivial)); (case aO => exact (by (with_reducible repeat (first | apply Kd.R_alloc | apply Kd.R_drewN | apply Kd.R_drew)); exact HO_5.out)); (case aS => exact (below_size (by repeat (first | (with_reducible first | exact HB.out | apply below_alloc | apply pw_below_drewN | apply below_drew1) | exact HB.out)))); (case aL => have := LMc24.out; omega); intro v186 w25 ho hb hg hat; rw [← Ny185.out] at ho; have n0_ := Aside0.mk (hb); have n1_ := Aside0.mk (ho); clear HB; clear HO_5; have HB := n0_; have HO187 := n1_; clear n0_ n1_; clear ho hb hg hat))
      go_ret
      exact ⟨_, by first | rfl | (simp [errW_none, errW_some] <;> rfl) | (simp [*, errW_none, errW_some] <;> rfl), by (with_reducible repeat (first | apply Kd.R_alloc | apply Kd.R_drewN | apply Kd.R_drew)); exact HO187.out, by repeat (first | (with_reducible first | exact HB.out | apply below_alloc | apply pw_below_drewN | apply below_drew1) | exact HB.out)⟩
     ·rw [if_neg c24] at H
      exact absurd H (by simp)
end Go.Proofs.Ytojpibpjieanhaa.X
end
section
-- Written by a program of this session out of the kit's print of the loaded functions: a plain function of a Go function, and its contract.
namespace Go.Proofs.Ytojpibpjieanhaa.X
open Go.RowKit Go.Proofs.YtojpibpjieanhaaW.PrintWords Go.Proofs.YtojpibpjieanhaaW.PrintLast Go.Proofs.YtojpibpjieanhaaW.PrintMore
attribute [local go_sem] max2_int min2_int max_two min_two max_three min_three max_four min_four   -- for this text's walks alone
set_option linter.unusedVariables false
set_option linter.unusedSimpArgs false
mutual
def spec_l08Open.l0 : Nat → Int → List Int → List Int → Int → List Int → List (S55) → Option (Bool)
 | 0, _, _, _, _, _, _ => none
 | k + 1, x1, x5, x6, x7, x1000, x1001 => if x7 < (x6.length : Int) then (spec_l08Open.l1 k x1 x5 x6 x7 0 x1000 x1001) else (some false)
def spec_l08Open.l1 : Nat → Int → List Int → List Int → Int → Int → List Int → List (S55) → Option (Bool)
 | 0, _, _, _, _, _, _, _ => none
 | k + 1, x1, x5, x6, x7, x8, x1000, x1001 => if x8 < (x1001.length : Int) then (if 0 ≤ x8 then (if 0 ≤ x7 then (if x7 < (x6.length : Int) then (if ((rd_T55 x1001 x8).f0) = (rd x6 x7) then (spec_l08Open.j2 k x1 x5 x6 x7 x8 (decide (((rd_T55 x1001 x8).f2) > 0)) x1000 x1001 ((rd_T55 x1001 x8).f0) ((rd_T55 x1001 x8).f1) ((rd_T55 x1001 x8).f2)) else (spec_l08Open.j2 k x1 x5 x6 x7 x8 true x1000 x1001 ((rd_T55 x1001 x8).f0) ((rd_T55 x1001 x8).f1) ((rd_T55 x1001 x8).f2))) else (none)) else (none)) else (none)) else (spec_l08Open.l0 k x1 x5 x6 (wrap64 (x7 + 1)) x1000 x1001)
def spec_l08Open.j2 : Nat → Int → List Int → List Int → Int → Int → Bool → List Int → List (S55) → Int → Int → Int → Option (Bool)
 | 0, _, _, _, _, _, _, _, _, _, _, _ => none
 | k + 1, x1, x5, x6, x7, x8, x46, x1000, x1001, x213000, x213001, x213002 => if x46 = true then (spec_l08Open.l1 k x1 x5 x6 x7 (wrap64 (x8 + 1)) x1000 x1001) else (if x213001 = x1 then (some true) else ((spec_l00Has.f k x5 x213001).bind fun t214 => (if t214 = true then (spec_l08Open.l1 k x1 x5 x6 x7 (wrap64 (x8 + 1)) x1000 x1001) else ((spec_l00Put.f k x5 x213001).bind fun t215 => (if x6.length < 17592186044416 then (spec_l08Open.l1 k x1 t215 (x6 ++ [x213001]) x7 (wrap64 (x8 + 1)) x1000 x1001) else (none))))))
end
def spec_l08Open.f (k : Nat) (s0_0 : List Int) (s0_1 : List (S55)) (a1 : Int) : Option (Bool) := spec_l08Open.l0 k a1 (([] : List Int)) (([a1] : List Int)) 0 s0_0 s0_1
end Go.Proofs.Ytojpibpjieanhaa.X
end
section
-- Written by a program of this session out of the kit's print of the loaded functions: a plain function of a Go function, and its contract.
namespace Go.Proofs.Ytojpibpjieanhaa.X
open Go.RowKit Go.Proofs.YtojpibpjieanhaaW.PrintWords Go.Proofs.YtojpibpjieanhaaW.PrintLast Go.Proofs.YtojpibpjieanhaaW.PrintMore
attribute [local go_sem] max2_int min2_int max_two min_two max_three min_three max_four min_four   -- for this text's walks alone
set_option linter.unusedVariables false
set_option linter.unusedSimpArgs false
def spec_l08Is.l0 : Nat → Int → List Int → List (S55) → Option (Bool)
 | 0, _, _, _ => none
 | k + 1, x3, x1000, x1001 => if x3 < (x1000.length : Int) then ((spec_l08Open.f k x1000 x1001 x3).bind fun t222 => (if t222 = true then (some false) else (spec_l08Is.l0 k (wrap64 (x3 + 1)) x1000 x1001))) else (some true)
def spec_l08Is.f (k : Nat) (s0_0 : List Int) (s0_1 : List (S55)) : Option (Bool) := (spec_l08Form.f k s0_0 s0_1).bind fun t221 => (if t221 = true then (spec_l08Is.l0 k 0 s0_0 s0_1) else (some false))
end Go.Proofs.Ytojpibpjieanhaa.X
end
