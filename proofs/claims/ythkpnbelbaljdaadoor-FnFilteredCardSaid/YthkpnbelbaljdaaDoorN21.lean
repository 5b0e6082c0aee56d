/- My own texts of this seat and its words, merged: G0, G1, G2, XPulses, XWave, CRunsOf, XFun, Xp0, XBRow, XWaveLib, Xp48, XIsWave, Xp71, XFilter, XDrop, XSpans, XFill. Conditions: as each lemma says. -/
import Derived.Test.YthkpnbelbaljdaaDoorProg
import Derived.Below
import Derived.Deep.Draws
import Derived.Deep.AppendLies
import Derived.OwnWalk
import Derived.Laws.OwnMore
import Derived.Deep.OwnRows
import Derived.Tactics
import Derived.Lib.ConvBytes
import Derived.Laws.Slices
import Derived.WalkKit
import Derived.KernelRfl
import Derived.RowKit3
import Derived.Deep.LoopGhost
import Derived.Deep.QuietTactic
import Derived.BigQuiet
import Derived.Deep.DeepCutAuto
import Derived.Deep.CutBlock
import Derived.OrdersHeld
import Derived.RowKit
import Derived.Test.YthkpnbelbaljdaaDoorN0
import Derived.Test.YthkpnbelbaljdaaDoorN1
import Derived.Test.YthkpnbelbaljdaaDoorN5
import Derived.Test.YthkpnbelbaljdaaDoorN11
import Derived.Maps.AppendAt
import Derived.Laws.BytesArg
import Derived.Laws.MakeOwn
import Derived.WideLaws
import Derived.Deep.RegionHeld3
import Derived.Laws.Rows
import Derived.Lib.AppendStr
import Derived.ArgAppend
import Derived.Laws.IdiomCopy
import Derived.Laws.BitsLemmas
import Derived.Test.YthkpnbelbaljdaaDoorN12
import Derived.Test.YthkpnbelbaljdaaDoorN13
import Derived.Test.YthkpnbelbaljdaaDoorN6
import Derived.Test.YthkpnbelbaljdaaDoorN2
import Derived.Test.YthkpnbelbaljdaaDoorN3
import Derived.Test.YthkpnbelbaljdaaDoorN7
import Derived.Test.YthkpnbelbaljdaaDoorN4
import Derived.Test.YthkpnbelbaljdaaDoorN8
import Derived.Test.YthkpnbelbaljdaaDoorN9
import Derived.Test.YthkpnbelbaljdaaDoorN14
import Derived.Test.YthkpnbelbaljdaaDoorN15
import Derived.Test.YthkpnbelbaljdaaDoorN16
import Derived.Test.YthkpnbelbaljdaaDoorN17
import Derived.Test.YthkpnbelbaljdaaDoorN18
import Derived.Test.YthkpnbelbaljdaaDoorN19
import Derived.Test.YthkpnbelbaljdaaDoorN20
import Derived.Test.YthkpnbelbaljdaaDoorN10
import Derived.Shelf.Strings.Builder1
import Derived.Shelf.Strings.Builder2
import Derived.Shelf.Strings.Trim
import Derived.Shelf.Small.Utf8
import Derived.Shelf.Small.Strs
import Derived.Shelf.Strings.BuilderF
import Derived.Shelf.Strings.Search1
import Derived.Shelf.Strings.Search2
import Derived.Shelf.Strings.Search3
import Derived.Shelf.Strings.Count
import Derived.Shelf.LaysM
import Derived.Shelf.Strings.Shaped
import Derived.Shelf.Strings.Prefix
import Derived.Shelf.Strings.Split
import Derived.Shelf.Strings.Runes
import Derived.Shelf.Strings.AsciiSet
import Derived.Shelf.Bits.Mul64
import Derived.Shelf.Strings.Repeat
import Derived.Shelf.Unicode.DecodeSlow
import Derived.Shelf.Unicode.DecodeAny
import Derived.Shelf.Unicode.DecodeLast
import Derived.Shelf.Strings.SlTrimAscii
import Derived.Lib.SlTrimSet
import Derived.LoopN
section
namespace Go.Proofs.YthkpnbelbaljdaaDoor.X
open Go.RowKit Go.Proofs.YthkpnbelbaljdaaDoorW.PrintWords Go.Proofs.YthkpnbelbaljdaaDoorW.PrintLast Go.Proofs.YthkpnbelbaljdaaDoorW.PrintMore
theorem to_below_d {w w' : World} (h : Drawn0 w w') : Below w.heap.size w w' := h.below
theorem to_below_b {w w' : World} (h : Below w.heap.size w w') : Below w.heap.size w w' := h
section
variable {P : Program} {ops : Array Oper} {Q : Exit → Act → World → Prop}
theorem goesV_ {rest : List Oper} {oi : Oper} {a : Act} {w : World} (N : Option Tmp) (hd : oi.dst = N) (hg : oi.guard = none) {f : FuncId} {fn : Func} {caps : Array Value} {x : Operand} {zs : Array Operand} {ts : Array TypeId} (hf : P.funcs[f]? = some fn) (hname : (fn.name == "runtime.NumGoroutine") = false) (hb : fn.body.isSome = true) (args : Array Value)
    (hop : oi.op = .call { callee := .value x, args := zs, argTypes := ts }) (hx : a.eval x = .func (.func f) #[] caps) (hargs : zs.map a.eval = args)
    (h : Calls P f (args ++ caps) w fun e w' => ∃ v, e = .returned v ∧ wpList P ops Q rest (a.put N v) w') : wpList P ops Q (oi :: rest) a w := by
  refine wpList_plain hg fun K hK => ?_
  have he := enters_ hf hname hb (args ++ caps) w
  have hrun : (execOp a.eval oi).run P w = .ok (.enter f (args ++ caps)) w := by
    unfold execOp
    simp [hop, resolve, Deferred.ofValue, invoke, hx, hargs, he]
  unfold Oper.wp
  rw [hrun, Oper.upon_enter]
  refine h.mono fun e w'' hh => ?_
  obtain ⟨v, rfl, hk⟩ := hh
  subst hd
  exact hK _ _ hk
end
structure CloIs (P : Program) (f : Nat) (fn : Func) : Prop where
  hf : P.funcs[f]? = some fn
  hname : (fn.name == "runtime.NumGoroutine") = false
  hb : fn.body.isSome = true
end Go.Proofs.YthkpnbelbaljdaaDoor.X
namespace Go.Proofs.YthkpnbelbaljdaaDoor.X
open Go.RowKit Go.Proofs.YthkpnbelbaljdaaDoorW.PrintWords Go.Proofs.YthkpnbelbaljdaaDoorW.PrintLast Go.Proofs.YthkpnbelbaljdaaDoorW.PrintMore
def lvs (lv : Nat → Bool) (n : Nat) : List Int := (List.range n).map fun i => if lv i = true then 49 else 48
theorem lvs_len (lv : Nat → Bool) (n : Nat) : (lvs lv n).length = n := by simp [lvs]
theorem lvs_one (lv : Nat → Bool) (n : Nat) (h : lv n = true) : lvs lv (n + 1) = lvs lv n ++ [49] := by simp [lvs, List.range_succ, h]
theorem lvs_zero (lv : Nat → Bool) (n : Nat) (h : lv n = false) : lvs lv (n + 1) = lvs lv n ++ [48] := by simp [lvs, List.range_succ, h]
theorem waveInfo : (Tryd.prog.info? 5).map (fun i => (i.zero, i.size, i.bytes)) = some (some (.int .u8 0), 1, 1) := by kernel_rfl
def Same (H : Nat) (wa wb : World) : Prop := ∀ k, k < H → wb.heap[k]? = wa.heap[k]?
def Stable (Inv : Nat → World → Prop) (H : Nat) : Prop := ∀ i wa wb, Inv i wa → Same H wa wb → Inv i wb
def Clo (f : Nat) (caps : Array Value) (lv : Nat → Bool) (Inv : Nat → World → Prop) (B0 : Nat) (S : Nat → Prop) (H n : Nat) : Prop :=
  ∀ i, i < n → ∀ wr, Inv i wr → H ≤ wr.heap.size → Calls Tryd.prog f (#[.int .i64 i] ++ caps) wr fun e w' => e = .returned (.bool (lv i)) ∧ Inv (i + 1) w' ∧ Below B0 wr w' ∧ Kept wr w' S
set_option maxHeartbeats 4000000 in
set_option maxRecDepth 100000 in
theorem waveOf_any (n : Nat) (hn : n ≤ 1000000) (f : Nat) (fn : Func) (caps : Array Value) (lv : Nat → Bool) (Inv : Nat → World → Prop) (B0 : Nat) (S : Nat → Prop) (w : World)
    (hf : Tryd.prog.funcs[f]? = some fn) (hname : (fn.name == "runtime.NumGoroutine") = false) (hb : fn.body.isSome = true)
    (h0 : Inv 0 w) (hB0 : B0 ≤ w.heap.size) (hS : ∀ k, S k → k < w.heap.size) (hst : Stable Inv w.heap.size) (hcl : Clo f caps lv Inv B0 S w.heap.size n) :
    Calls Tryd.prog 50 #[.int .i64 n, .func (.func f) #[] caps] w fun e w' => e = .returned (.string (strOfNums (lvs lv n))) ∧ Inv n w' ∧ Below B0 w w' ∧ Kept w w' S := by
  have HF := Aside0.mk hf
  have HN := Aside0.mk hname
  have HBD := Aside0.mk hb
  have HI := Aside0.mk h0
  have HS := Aside0.mk hS
  have HST := Aside0.mk hst
  have HCL := Aside0.mk hcl
  clear hf hname hb h0 hS hst hcl
  go_enter Tryd.func50, Tryd.ntmps50
  have HB0 := Aside0.mk (Below.refl B0 w)
  have HK0 := Aside0.mk (Kept.refl w S)
  go_wp2_with (((with_reducible refine gate_dst (N := 7) rfl ?_); refine Kd.R_lit (Kd.int .u8) w.heap.size 5 ?hg (N := 7) ?hd (xs := ([] : List Int)) (inner := []) (ok := fun k => w.heap.size ≤ k) (okp := fun _ => False) ?hr ?hp (fun _ hk => hk.elim) (Nat.le_refl _) (Below.refl _ _) (Nat.le_refl _) (by simp) ?_; (case hd => rfl); (case hg => rfl); (case hr => first | (go_simp; done) | (go_simp; rfl)); (case hp => exact (Reps.none _ _)); intro v1 w1 ho1 hb1 hg_ hnew_; clear hg_ hnew_; have HO := Aside0.mk ho1; have HBL := Aside0.mk hb1; clear ho1 hb1))
  go_loopg [5, 9] n (fun kq v5 v9 w' => ∃ i : Nat, v9 = .int .i64 i ∧ Aside0 (i + kq = n) ∧ Aside0 (Kd.R (Kd.int .u8) 5 w' w.heap.size (fun k => w.heap.size ≤ k) v5 (lvs lv i)) ∧ Aside0 (Inv i w') ∧ Aside0 (Below B0 w w') ∧ Aside0 (Kept w w' S))
  case atStart => exact ⟨0, by first | rfl | (simp; done), ⟨by omega⟩, ⟨HO.out⟩, ⟨HST.out 0 _ _ HI.out HBL.out.block⟩, ⟨HBL.out.mono hB0⟩, ⟨HK0.out.below HBL.out⟩⟩
  case round =>
    clear HO HBL HI HB0 HK0
    obtain ⟨i, rfl, HE, HO, HI, HB, HK⟩ := hrel
    by_cases hlt : i < n
    · cases gk with
      | zero => have := HE.out; omega
      | succ g1 =>
      rcases hl : lv i with _ | _
      · have HL := Aside0.mk hl
        have HC := Aside0.mk (HCL.out i hlt wr HI.out HK.out.1)
        rw [hl] at HC
        clear hl
        go_wp2_with (first | ((with_reducible refine gate_dst (N := 14) rfl ?_); refine goesV_ (some 14) rfl rfl HF.out HN.out HBD.out #[.int .i64 i] rfl rfl (by (try simp only [List.map_toArray, List.map_cons, List.map_nil]); first | done | rfl) ?_; refine HC.out.mono ?_; rintro e w2 ⟨rfl, hI, hB, hK⟩; refine ⟨_, rfl, ?_⟩; have n0_ := Aside0.mk (Kd.R_kept HO.out hK (fun k hk hs => by have := HS.out k hs; omega)); have n1_ := Aside0.mk hI; have n2_ := Aside0.mk (HB.out.trans hB); have n3_ := Aside0.mk (HK.out.then_ hK (fun _ hs => .inl hs)); clear HO HI HB HK HC hI hB hK; have HO := n0_; have HI := n1_; have HB := n2_; have HK := n3_; clear n0_ n1_ n2_ n3_) | ((with_reducible refine gate_builtin (b := .append) (xs := #[.tmp 18, .tmp 19]) rfl ?_); at_builtin; refine Kd.R_append (Kd.int .u8) (w0 := w2) w.heap.size rfl (.tmp 18) (.tmp 19) 39 5 (.int .u8 0) 1 rfl Tryd.underlying39 waveInfo rfl (by decide) (by omega) u5 (lvs lv i) 48 [.int .u8 48] (fun k => w.heap.size ≤ k) (fun _ => False) rfl rfl ?aP (fun _ hk => hk.elim) ?aF ?aO ?aB ?aS ?aL ?_; (case aP => exact rfl); (case aB => exact Below.refl _ _); (case aF => exact (fun _ hk => Nat.le_trans HK.out.1 hk)); (case aO => exact HO.out); (case aS => exact HK.out.1); (case aL => rw [lvs_len]; omega); intro v3 w3 ho hb hg hat; rw [← lvs_zero lv i HL.out] at ho; have n0_ := Aside0.mk ho; have n1_ := Aside0.mk (HST.out (i + 1) _ _ HI.out hb.block); have n2_ := Aside0.mk (HB.out.trans (hb.mono hB0)); have n3_ := Aside0.mk (HK.out.of_grown hg (fun k hk => .inr (HO.out.1 k hk))); clear HO HI HB HK; have HO := n0_; have HI := n1_; have HB := n2_; have HK := n3_; clear n0_ n1_ n2_ n3_; clear ho hb hg hat))
        go_roundg g1
        case measure => omega
        case rel => exact ⟨i + 1, by go_num, ⟨by have := HE.out; omega⟩, HO, HI, HB, HK⟩
      · have HL := Aside0.mk hl
        have HC := Aside0.mk (HCL.out i hlt wr HI.out HK.out.1)
        rw [hl] at HC
        clear hl
        go_wp2_with (first | ((with_reducible refine gate_dst (N := 14) rfl ?_); refine goesV_ (some 14) rfl rfl HF.out HN.out HBD.out #[.int .i64 i] rfl rfl (by (try simp only [List.map_toArray, List.map_cons, List.map_nil]); first | done | rfl) ?_; refine HC.out.mono ?_; rintro e w2 ⟨rfl, hI, hB, hK⟩; refine ⟨_, rfl, ?_⟩; have n0_ := Aside0.mk (Kd.R_kept HO.out hK (fun k hk hs => by have := HS.out k hs; omega)); have n1_ := Aside0.mk hI; have n2_ := Aside0.mk (HB.out.trans hB); have n3_ := Aside0.mk (HK.out.then_ hK (fun _ hs => .inl hs)); clear HO HI HB HK HC hI hB hK; have HO := n0_; have HI := n1_; have HB := n2_; have HK := n3_; clear n0_ n1_ n2_ n3_) | ((with_reducible refine gate_builtin (b := .append) (xs := #[.tmp 15, .tmp 16]) rfl ?_); at_builtin; refine Kd.R_append (Kd.int .u8) (w0 := w2) w.heap.size rfl (.tmp 15) (.tmp 16) 39 5 (.int .u8 0) 1 rfl Tryd.underlying39 waveInfo rfl (by decide) (by omega) u5 (lvs lv i) 49 [.int .u8 49] (fun k => w.heap.size ≤ k) (fun _ => False) rfl rfl ?aP (fun _ hk => hk.elim) ?aF ?aO ?aB ?aS ?aL ?_; (case aP => exact rfl); (case aB => exact Below.refl _ _); (case aF => exact (fun _ hk => Nat.le_trans HK.out.1 hk)); (case aO => exact HO.out); (case aS => exact HK.out.1); (case aL => rw [lvs_len]; omega); intro v3 w3 ho hb hg hat; rw [← lvs_one lv i HL.out] at ho; have n0_ := Aside0.mk ho; have n1_ := Aside0.mk (HST.out (i + 1) _ _ HI.out hb.block); have n2_ := Aside0.mk (HB.out.trans (hb.mono hB0)); have n3_ := Aside0.mk (HK.out.of_grown hg (fun k hk => .inr (HO.out.1 k hk))); clear HO HI HB HK; have HO := n0_; have HI := n1_; have HB := n2_; have HK := n3_; clear n0_ n1_ n2_ n3_; clear ho hb hg hat))
        go_roundg g1
        case measure => omega
        case rel => exact ⟨i + 1, by go_num, ⟨by have := HE.out; omega⟩, HO, HI, HB, HK⟩
    · have e : i = n := by have := HE.out; omega
      subst e
      have hcv := own_string (P := Tryd.prog) Tryd.underlying39 Tryd.underlying5 Tryd.underlying9 (Kd.own_of_R HO.out)
      go_wp2
      go_ret
      exact ⟨rfl, HI.out, HB.out, HK.out⟩
end Go.Proofs.YthkpnbelbaljdaaDoor.X
-- Written by a program of this session out of the kit's print of the loaded functions: a plain function of a Go function, and its contract.
namespace Go.Proofs.YthkpnbelbaljdaaDoor.X
open Go.RowKit Go.Proofs.YthkpnbelbaljdaaDoorW.PrintWords Go.Proofs.YthkpnbelbaljdaaDoorW.PrintLast Go.Proofs.YthkpnbelbaljdaaDoorW.PrintMore
attribute [local go_sem] max2_int min2_int max_two min_two max_three min_three max_four min_four   -- for this text's walks alone
set_option linter.unusedVariables false
set_option linter.unusedSimpArgs false
def errW : Option Int → Value
  | none => .nilIface
  | some c => .iface 0 (.int .i64 c)
theorem errW_none : errW none = .nilIface := rfl
theorem errW_some (c : Int) : errW (some c) = .iface 0 (.int .i64 c) := rfl
theorem info2 : (Tryd.prog.info? 2).map (fun i => (i.zero, i.size, i.bytes)) = some (some (.int .i64 0), 1, 8) := by kernel_rfl
theorem info5 : (Tryd.prog.info? 5).map (fun i => (i.zero, i.size, i.bytes)) = some (some (.int .u8 0), 1, 1) := by kernel_rfl
theorem info61 : (Tryd.prog.info? 61).map (fun i => (i.zero, i.size, i.bytes)) = some (some (.agg #[(.int .i64 0), (.int .i64 0)]), 2, 16) := by kernel_rfl
-- the values' own types
structure S61 where
  f0 : Int
  f1 : Int
def z61 : S61 := ⟨(0 : Int), (0 : Int)⟩
def k61 : Kd S61 := Kd.iso (Kd.pair (Kd.int .i64) (Kd.int .i64)) (fun x : S61 => (x.f0, x.f1))
theorem k61_open {w : World} {x : S61} {cs : List Value} (h : k61.K w x cs) : cs = [.int .i64 x.f0, .int .i64 x.f1] := by
  obtain ⟨_, _, rfl, rfl, rfl⟩ := h
  exact rfl
theorem k61_mkM (w : World) (base : Nat) (ok : Nat → Prop) (x : S61)  : k61.M w base ok x [.int .i64 x.f0, .int .i64 x.f1] := ⟨[.int .i64 x.f0], [.int .i64 x.f1], rfl, rfl, rfl⟩
def rd_T61 (xs : List S61) (i : Int) : S61 := xs.getD i.toNat z61
theorem at_T61 {w : World} {A : Option Addr} {n : Nat} {xs : List S61} (h : Kd.C k61 w A n xs) (i : Int) (h0 : 0 ≤ i) (h1 : i < n) : ∃ ad , A = some ad ∧ w.cell? (ad.add (i.toNat * 2)) = some (.int .i64 (rd_T61 xs i).f0) ∧ w.cell? ⟨(ad.add (i.toNat * 2)).block, (ad.add (i.toNat * 2)).off + 1, none⟩ = some (.int .i64 (rd_T61 xs i).f1) := by
  obtain ⟨ad, c, e, _, hK, hc0⟩ := Kd.C_get h z61 i h0 h1
  have hc : ∀ j u, c[j]? = some u → w.cell? (ad.add (i.toNat * 2 + j)) = some u := hc0
  obtain rfl := k61_open hK
  exact ⟨ad, e, hc 0 _ rfl, by rw [← add_field _ _ 1 (by omega)]; exact hc 1 _ rfl⟩
end Go.Proofs.YthkpnbelbaljdaaDoor.X
-- Written by a program of this session out of the kit's print of the loaded functions: a plain function of a Go function, and its contract.
namespace Go.Proofs.YthkpnbelbaljdaaDoor.X
open Go.RowKit Go.Proofs.YthkpnbelbaljdaaDoorW.PrintWords Go.Proofs.YthkpnbelbaljdaaDoorW.PrintLast Go.Proofs.YthkpnbelbaljdaaDoorW.PrintMore
attribute [local go_sem] max2_int min2_int max_two min_two max_three min_three max_four min_four   -- for this text's walks alone
set_option linter.unusedVariables false
set_option linter.unusedSimpArgs false
end Go.Proofs.YthkpnbelbaljdaaDoor.X
-- Written by a program of this session out of the kit's print of the loaded functions: a plain function of a Go function, and its contract.
namespace Go.Proofs.YthkpnbelbaljdaaDoor.X
open Go.RowKit Go.Proofs.YthkpnbelbaljdaaDoorW.PrintWords Go.Proofs.YthkpnbelbaljdaaDoorW.PrintLast Go.Proofs.YthkpnbelbaljdaaDoorW.PrintMore
attribute [local go_sem] max2_int min2_int max_two min_two max_three min_three max_four min_four   -- for this text's walks alone
set_option linter.unusedVariables false
set_option linter.unusedSimpArgs false
end Go.Proofs.YthkpnbelbaljdaaDoor.X
namespace Go.Proofs.YthkpnbelbaljdaaDoor.X
open Go.RowKit Go.Proofs.YthkpnbelbaljdaaDoorW.PrintWords Go.Proofs.YthkpnbelbaljdaaDoorW.PrintLast Go.Proofs.YthkpnbelbaljdaaDoorW.PrintMore
set_option linter.unusedVariables false
set_option linter.unusedSimpArgs false
end Go.Proofs.YthkpnbelbaljdaaDoor.X
namespace Go.Proofs
open Go.Shelf
def Tryd.lays160_ren : Go.Shelf.Ren := ⟨fun | 160 => 77 | 232 => 102 | 231 => 101 | 227 => 103 | 234 => 105 | 233 => 104 | 236 => 107 | 235 => 106 | 228 => 118 | 271 => 121 | 151 => 120 | 197 => 119 | 120 => 134 | 152 => 133 | 260 => 132 | 137 => 139 | 119 => 140 | 224 => 127 | 225 => 126 | 217 => 125 | 266 => 135 | n => n, fun | 9 => 9 | 4 => 4 | 3 => 3 | 5 => 5 | 117 => 116 | 116 => 115 | 0 => 0 | 124 => 119 | 21 => 21 | 105 => 136 | 46 => 121 | 119 => 152 | 139 => 155 | 138 => 154 | n => n, fun | 3 => 1 | 4 => 2 | n => n⟩
theorem Tryd.lays160 : Go.Proofs.Lays.n160 Tryd.prog Tryd.lays160_ren := {
  mixed := by kernel_rfl
  f119 := Tryd.func140.trans (congrArg some (by kernel_rfl))
  f120 := Tryd.func134.trans (congrArg some (by kernel_rfl))
  f137 := Tryd.func139.trans (congrArg some (by kernel_rfl))
  f151 := Tryd.func120.trans (congrArg some (by kernel_rfl))
  f152 := Tryd.func133.trans (congrArg some (by kernel_rfl))
  f160 := Tryd.func77.trans (congrArg some (by kernel_rfl))
  f197 := Tryd.func119.trans (congrArg some (by kernel_rfl))
  f217 := Tryd.func125.trans (congrArg some (by kernel_rfl))
  f224 := Tryd.func127.trans (congrArg some (by kernel_rfl))
  f225 := Tryd.func126.trans (congrArg some (by kernel_rfl))
  f227 := Tryd.func103.trans (congrArg some (by kernel_rfl))
  f228 := Tryd.func118.trans (congrArg some (by kernel_rfl))
  f231 := Tryd.func101.trans (congrArg some (by kernel_rfl))
  f232 := Tryd.func102.trans (congrArg some (by kernel_rfl))
  f233 := Tryd.func104.trans (congrArg some (by kernel_rfl))
  f234 := Tryd.func105.trans (congrArg some (by kernel_rfl))
  f235 := Tryd.func106.trans (congrArg some (by kernel_rfl))
  f236 := Tryd.func107.trans (congrArg some (by kernel_rfl))
  f260 := Tryd.func132.trans (congrArg some (by kernel_rfl))
  f266 := Tryd.func135.trans (congrArg some (by kernel_rfl))
  f271 := Tryd.func121.trans (congrArg some (by kernel_rfl))
  t0 := Tryd.underlying0
  a0 := Tryd.isAgg0
  z0 := Tryd.sizeOf0
  v0 := Tryd.zeroValue0
  t3 := Tryd.underlying3
  a3 := Tryd.isAgg3
  z3 := Tryd.sizeOf3
  v3 := Tryd.zeroValue3
  t4 := Tryd.underlying4
  a4 := Tryd.isAgg4
  z4 := Tryd.sizeOf4
  v4 := Tryd.zeroValue4
  t5 := Tryd.underlying5
  a5 := Tryd.isAgg5
  z5 := Tryd.sizeOf5
  v5 := Tryd.zeroValue5
  t9 := Tryd.underlying9
  a9 := Tryd.isAgg9
  z9 := Tryd.sizeOf9
  v9 := Tryd.zeroValue9
  t21 := Tryd.underlying21
  a21 := Tryd.isAgg21
  z21 := Tryd.sizeOf21
  v21 := Tryd.zeroValue21
  t46 := Tryd.underlying121
  a46 := Tryd.isAgg121
  z46 := Tryd.sizeOf121
  v46 := Tryd.zeroValue121
  t105 := Tryd.underlying136
  a105 := Tryd.isAgg136
  z105 := Tryd.sizeOf136
  v105 := Tryd.zeroValue136
  t116 := Tryd.underlying115
  a116 := Tryd.isAgg115
  z116 := Tryd.sizeOf115
  t117 := Tryd.underlying116
  a117 := Tryd.isAgg116
  z117 := Tryd.sizeOf116
  v117 := Tryd.zeroValue116
  t119 := Tryd.underlying152
  a119 := Tryd.isAgg152
  z119 := Tryd.sizeOf152
  t124 := Tryd.underlying119
  a124 := Tryd.isAgg119
  z124 := Tryd.sizeOf119
  v124 := Tryd.zeroValue119
  t138 := Tryd.underlying154
  a138 := Tryd.isAgg154
  z138 := Tryd.sizeOf154
  v138 := Tryd.zeroValue154
  t139 := Tryd.underlying155
  a139 := Tryd.isAgg155
  z139 := Tryd.sizeOf155
  v139 := Tryd.zeroValue155
  g3 := by kernel_rfl
  g4 := by kernel_rfl }
open Go.RowKit in
theorem Tryd.strings_Trim_one (s : ByteArray) (c : UInt8) (hc : c.toNat < 128) (w : World) (hs : s.size ≤ 9223372036854775807) :
    Calls Tryd.prog 77 #[.string s, .string ⟨#[c]⟩] w fun e w' => e = .returned (.string ⟨(Lib.trimB s.data.toList c).toArray⟩) ∧ (w' = w ∨ w' = w.drew) := Any.strings_Trim_one Tryd.lays160 s c hc w hs
def Tryd.lays144_ren : Go.Shelf.Ren := ⟨fun | 144 => 76 | 143 => 99 | 219 => 112 | 217 => 125 | 225 => 126 | 224 => 127 | 267 => 128 | 266 => 135 | 314 => 136 | n => n, fun | 9 => 9 | 4 => 4 | 3 => 3 | 5 => 5 | 46 => 121 | 146 => 140 | 51 => 139 | n => n, fun | 1 => 0 | n => n⟩
theorem Tryd.lays144 : Go.Proofs.Lays.n144 Tryd.prog Tryd.lays144_ren := {
  mixed := by kernel_rfl
  f143 := Tryd.func99.trans (congrArg some (by kernel_rfl))
  f144 := Tryd.func76.trans (congrArg some (by kernel_rfl))
  f217 := Tryd.func125.trans (congrArg some (by kernel_rfl))
  f219 := Tryd.func112.trans (congrArg some (by kernel_rfl))
  f224 := Tryd.func127.trans (congrArg some (by kernel_rfl))
  f225 := Tryd.func126.trans (congrArg some (by kernel_rfl))
  f266 := Tryd.func135.trans (congrArg some (by kernel_rfl))
  f267 := Tryd.func128.trans (congrArg some (by kernel_rfl))
  f314 := Tryd.func136.trans (congrArg some (by kernel_rfl))
  t3 := Tryd.underlying3
  a3 := Tryd.isAgg3
  z3 := Tryd.sizeOf3
  v3 := Tryd.zeroValue3
  t4 := Tryd.underlying4
  a4 := Tryd.isAgg4
  z4 := Tryd.sizeOf4
  v4 := Tryd.zeroValue4
  t5 := Tryd.underlying5
  a5 := Tryd.isAgg5
  z5 := Tryd.sizeOf5
  v5 := Tryd.zeroValue5
  t9 := Tryd.underlying9
  a9 := Tryd.isAgg9
  z9 := Tryd.sizeOf9
  v9 := Tryd.zeroValue9
  t46 := Tryd.underlying121
  a46 := Tryd.isAgg121
  z46 := Tryd.sizeOf121
  v46 := Tryd.zeroValue121
  t51 := Tryd.underlying139
  a51 := Tryd.isAgg139
  z51 := Tryd.sizeOf139
  v51 := Tryd.zeroValue139
  t146 := Tryd.underlying140
  a146 := Tryd.isAgg140
  z146 := Tryd.sizeOf140
  v146 := Tryd.zeroValue140
  g1 := by kernel_rfl }
open Go.RowKit Go.Lib in
theorem Tryd.strings_Contains_one (s : ByteArray) (c : UInt8) (w : World) :
    Calls Tryd.prog 76 #[.string s, .string ⟨#[c]⟩] w fun e w' => e = .returned (.bool (decide (0 ≤ Lib.indexByte s.data.toList c))) ∧ w' = w := Any.strings_Contains_one Tryd.lays144 s c w
def Tryd.lays138_ren : Go.Shelf.Ren := ⟨fun | 138 => 73 | 195 => 97 | 218 => 98 | 143 => 99 | 219 => 112 | 217 => 125 | 225 => 126 | 224 => 127 | 267 => 128 | 266 => 135 | 314 => 136 | n => n, fun | 9 => 9 | 3 => 3 | 4 => 4 | 5 => 5 | 0 => 0 | 46 => 121 | 146 => 140 | 51 => 139 | n => n, fun | 1 => 0 | n => n⟩
theorem Tryd.lays138 : Go.Proofs.Lays.n138 Tryd.prog Tryd.lays138_ren := {
  mixed := by kernel_rfl
  f138 := Tryd.func73.trans (congrArg some (by kernel_rfl))
  f143 := Tryd.func99.trans (congrArg some (by kernel_rfl))
  f195 := Tryd.func97.trans (congrArg some (by kernel_rfl))
  f217 := Tryd.func125.trans (congrArg some (by kernel_rfl))
  f218 := Tryd.func98.trans (congrArg some (by kernel_rfl))
  f219 := Tryd.func112.trans (congrArg some (by kernel_rfl))
  f224 := Tryd.func127.trans (congrArg some (by kernel_rfl))
  f225 := Tryd.func126.trans (congrArg some (by kernel_rfl))
  f266 := Tryd.func135.trans (congrArg some (by kernel_rfl))
  f267 := Tryd.func128.trans (congrArg some (by kernel_rfl))
  f314 := Tryd.func136.trans (congrArg some (by kernel_rfl))
  t0 := Tryd.underlying0
  a0 := Tryd.isAgg0
  z0 := Tryd.sizeOf0
  v0 := Tryd.zeroValue0
  t3 := Tryd.underlying3
  a3 := Tryd.isAgg3
  z3 := Tryd.sizeOf3
  v3 := Tryd.zeroValue3
  t4 := Tryd.underlying4
  a4 := Tryd.isAgg4
  z4 := Tryd.sizeOf4
  v4 := Tryd.zeroValue4
  t5 := Tryd.underlying5
  a5 := Tryd.isAgg5
  z5 := Tryd.sizeOf5
  v5 := Tryd.zeroValue5
  t9 := Tryd.underlying9
  a9 := Tryd.isAgg9
  z9 := Tryd.sizeOf9
  v9 := Tryd.zeroValue9
  t46 := Tryd.underlying121
  a46 := Tryd.isAgg121
  z46 := Tryd.sizeOf121
  v46 := Tryd.zeroValue121
  t51 := Tryd.underlying139
  a51 := Tryd.isAgg139
  z51 := Tryd.sizeOf139
  v51 := Tryd.zeroValue139
  t146 := Tryd.underlying140
  a146 := Tryd.isAgg140
  z146 := Tryd.sizeOf140
  v146 := Tryd.zeroValue140
  g1 := by kernel_rfl }
open Go.RowKit Go.Lib in
theorem Tryd.strings_Count_one (s : ByteArray) (c : UInt8) (w : World) :
    Calls Tryd.prog 73 #[.string s, .string ⟨#[c]⟩] w fun e w' => e = .returned (.int .i64 (Lib.countByte s.data.toList c)) ∧ w' = w := Any.strings_Count_one Tryd.lays138 s c w
def Tryd.lays105_ren : Go.Shelf.Ren := ⟨fun | 105 => 100 | 212 => 110 | 99 => 113 | 165 => 114 | 166 => 115 | 170 => 116 | 169 => 117 | 263 => 122 | 264 => 123 | 206 => 129 | 240 => 130 | 241 => 131 | 276 => 137 | 277 => 138 | n => n, fun | 9 => 9 | 3 => 3 | 4 => 4 | 20 => 20 | 0 => 0 | 46 => 121 | 109 => 122 | 5 => 5 | 72 => 127 | 76 => 131 | 51 => 139 | 146 => 140 | 53 => 104 | 148 => 142 | 70 => 125 | 37 => 39 | 75 => 130 | 127 => 146 | 164 => 149 | 80 => 134 | n => n, fun | n => n⟩
theorem Tryd.lays105 : Go.Proofs.Lays.n105 Tryd.prog Tryd.lays105_ren := {
  mixed := by kernel_rfl
  f99 := Tryd.func113.trans (congrArg some (by kernel_rfl))
  f105 := Tryd.func100.trans (congrArg some (by kernel_rfl))
  f165 := Tryd.func114.trans (congrArg some (by kernel_rfl))
  f166 := Tryd.func115.trans (congrArg some (by kernel_rfl))
  f169 := Tryd.func117.trans (congrArg some (by kernel_rfl))
  f170 := Tryd.func116.trans (congrArg some (by kernel_rfl))
  f206 := Tryd.func129.trans (congrArg some (by kernel_rfl))
  f212 := Tryd.func110.trans (congrArg some (by kernel_rfl))
  f240 := Tryd.func130.trans (congrArg some (by kernel_rfl))
  f241 := Tryd.func131.trans (congrArg some (by kernel_rfl))
  f263 := Tryd.func122.trans (congrArg some (by kernel_rfl))
  f264 := Tryd.func123.trans (congrArg some (by kernel_rfl))
  f276 := Tryd.func137.trans (congrArg some (by kernel_rfl))
  f277 := Tryd.func138.trans (congrArg some (by kernel_rfl))
  t0 := Tryd.underlying0
  a0 := Tryd.isAgg0
  z0 := Tryd.sizeOf0
  v0 := Tryd.zeroValue0
  t3 := Tryd.underlying3
  a3 := Tryd.isAgg3
  z3 := Tryd.sizeOf3
  v3 := Tryd.zeroValue3
  t4 := Tryd.underlying4
  a4 := Tryd.isAgg4
  z4 := Tryd.sizeOf4
  v4 := Tryd.zeroValue4
  t5 := Tryd.underlying5
  a5 := Tryd.isAgg5
  z5 := Tryd.sizeOf5
  v5 := Tryd.zeroValue5
  t9 := Tryd.underlying9
  a9 := Tryd.isAgg9
  z9 := Tryd.sizeOf9
  v9 := Tryd.zeroValue9
  t20 := Tryd.underlying20
  a20 := Tryd.isAgg20
  z20 := Tryd.sizeOf20
  v20 := Tryd.zeroValue20
  t37 := Tryd.underlying39
  a37 := Tryd.isAgg39
  z37 := Tryd.sizeOf39
  v37 := Tryd.zeroValue39
  t46 := Tryd.underlying121
  a46 := Tryd.isAgg121
  z46 := Tryd.sizeOf121
  v46 := Tryd.zeroValue121
  t51 := Tryd.underlying139
  a51 := Tryd.isAgg139
  z51 := Tryd.sizeOf139
  v51 := Tryd.zeroValue139
  t53 := Tryd.underlying104
  a53 := Tryd.isAgg104
  z53 := Tryd.sizeOf104
  v53 := Tryd.zeroValue104
  t70 := Tryd.underlying125
  a70 := Tryd.isAgg125
  z70 := Tryd.sizeOf125
  v70 := Tryd.zeroValue125
  t72 := Tryd.underlying127
  a72 := Tryd.isAgg127
  z72 := Tryd.sizeOf127
  v72 := Tryd.zeroValue127
  t75 := Tryd.underlying130
  a75 := Tryd.isAgg130
  z75 := Tryd.sizeOf130
  v75 := Tryd.zeroValue130
  t76 := Tryd.underlying131
  a76 := Tryd.isAgg131
  z76 := Tryd.sizeOf131
  v76 := Tryd.zeroValue131
  t109 := Tryd.underlying122
  a109 := Tryd.isAgg122
  z109 := Tryd.sizeOf122
  v109 := Tryd.zeroValue122
  t127 := Tryd.underlying146
  a127 := Tryd.isAgg146
  z127 := Tryd.sizeOf146
  v127 := Tryd.zeroValue146
  t146 := Tryd.underlying140
  a146 := Tryd.isAgg140
  z146 := Tryd.sizeOf140
  v146 := Tryd.zeroValue140
  t148 := Tryd.underlying142
  a148 := Tryd.isAgg142
  z148 := Tryd.sizeOf142
  v148 := Tryd.zeroValue142
  t164 := Tryd.underlying149
  a164 := Tryd.isAgg149
  z164 := Tryd.sizeOf149
  v164 := Tryd.zeroValue149 }
theorem Tryd.Builder_Extra_105 : Builder.Extra Tryd.prog Tryd.lays105_ren := {
  sizeBuilder := by kernel_rfl
  liesBuilder := by kernel_rfl
  t5 := Tryd.underlying5
  a5 := Tryd.isAgg5
  z5 := Tryd.sizeOf5
  v5 := Tryd.zeroValue5
  infoByte := by kernel_rfl
  cellsByte := by kernel_rfl
  sizeByte := by kernel_rfl
  neB5 := by decide }
open Go.RowKit Go.Lib in
theorem Tryd.strings_Repeat (s : ByteArray) (c : Nat) (w : World) (hc : c ≤ 9223372036854775807) (hlen : s.size * c ≤ 140737488355328) :
    Calls Tryd.prog 100 #[.string s, .int .i64 c] w fun e w' => e = .returned (.string ⟨(Lib.repeatL s.data.toList c).toArray⟩) ∧ Below w.heap.size w w' := Any.strings_Repeat Tryd.lays105 Tryd.Builder_Extra_105 s c w hc hlen
end Go.Proofs
namespace Go.Proofs.YthkpnbelbaljdaaDoor.X
open Go.RowKit Go.Proofs.YthkpnbelbaljdaaDoorW.PrintWords Go.Proofs.YthkpnbelbaljdaaDoorW.PrintLast Go.Proofs.YthkpnbelbaljdaaDoorW.PrintMore
set_option linter.unusedVariables false
set_option linter.unusedSimpArgs false
def isLev (c : UInt8) : Bool := c == 48 || c == 49
theorem lev_contains (c : UInt8) : ([48, 49] : List UInt8).contains c = isLev c := by
  unfold isLev
  simp only [List.contains, List.elem]
  cases (c == 48) <;> cases (c == 49) <;> rfl
theorem dropWhile_nil {l : List UInt8} (p : UInt8 → Bool) : l.dropWhile p = [] ↔ l.all p = true := by
  induction l with
  | nil => simp
  | cons a t ih => rw [List.dropWhile_cons]; cases h : p a <;> simp [h, ih]
theorem dropWhile_mem {l : List UInt8} (p : UInt8 → Bool) (h : l.dropWhile p ≠ []) : ∃ c ∈ l.dropWhile p, p c = false := by
  induction l with
  | nil => simp at h
  | cons a t ih =>
    rw [List.dropWhile_cons] at h ⊢
    cases hp : p a with
    | false => rw [if_neg (by simp [hp])]; exact ⟨a, by simp, hp⟩
    | true => rw [hp, if_pos rfl] at h; rw [if_pos rfl]; exact ih h
theorem trim_nil (l : List UInt8) : Lib.trimS l [48, 49] = [] ↔ l.all isLev = true := by
  have hf : (fun c => ([48, 49] : List UInt8).contains c) = isLev := funext lev_contains
  unfold Lib.trimS Lib.trimLeftS Lib.trimRightS
  rw [hf, dropWhile_nil]
  constructor
  · intro h
    by_cases he : l.reverse.dropWhile isLev = []
    · rw [dropWhile_nil] at he
      rw [List.all_reverse] at he
      exact he
    · obtain ⟨c, hc, hp⟩ := dropWhile_mem isLev he
      have := List.all_eq_true.1 h c (by simpa using hc)
      rw [hp] at this; cases this
  · intro h
    have h2 : l.reverse.dropWhile isLev = [] := by rw [dropWhile_nil, List.all_reverse]; exact h
    rw [h2]; rfl
def isW (s : ByteArray) : Bool := decide (s.size ≤ 400) && s.data.toList.all isLev
def impl_IsWave.f (a0 : ByteArray) : Option Bool := if a0.size ≤ 9223372036854775807 then some (isW a0) else none
set_option maxHeartbeats 4000000 in
set_option maxRecDepth 100000 in
theorem IsWave_long (s : ByteArray) (hs : ¬ s.size ≤ 400) (hs2 : s.size ≤ 9223372036854775807) (w : World) :
    Calls Tryd.prog 69 #[.string s] w fun e w' => e = .returned (.bool false) ∧ Below w.heap.size w w' := by
  have hd : decide (s.size ≤ 400) = false := decide_eq_false hs
  go_enter Tryd.func69, Tryd.ntmps69
  go_wp2
  go_ret
  exact ⟨rfl, Below.refl _ _⟩
set_option maxHeartbeats 4000000 in
set_option maxRecDepth 100000 in
theorem IsWave_fits (s : ByteArray) (hs : s.size ≤ 400) (w : World) (l : List UInt8) (hl : Lib.trimS s.data.toList [48, 49] = l) :
    Calls Tryd.prog 69 #[.string s] w fun e w' => e = .returned (.bool l.isEmpty) ∧ Below w.heap.size w w' := by
  have hcon := Aside0.mk (fun W => Any.strings_Trim_laid Tryd.lays160 (by kernel_rfl) s ⟨#[48, 49]⟩ W (by omega) (by decide) (ascii_of_all (by decide)))
  have hd : decide (s.size ≤ 400) = true := decide_eq_true hs
  have hcon2 : ∀ W, Calls Tryd.prog 77 #[.string s, .string ⟨#[48, 49]⟩] W (fun e w' => e = .returned (.string ⟨l.toArray⟩) ∧ Below W.heap.size W w') := by
    intro W
    have := hcon.out W
    rw [show (⟨#[48, 49]⟩ : ByteArray).data.toList = [48, 49] from rfl, hl] at this
    exact this
  have HC := Aside0.mk hcon2
  clear hcon hcon2 hl
  cases hc : l with
  | nil =>
    subst hc
    go_enter Tryd.func69, Tryd.ntmps69
    go_wp2_with (go_at_call 77; (with_reducible refine (HC.out _).mono ?_); rintro e wn ⟨rfl, hb⟩)
    go_ret
    exact ⟨rfl, hb⟩
  | cons a t =>
    subst hc
    go_enter Tryd.func69, Tryd.ntmps69
    go_wp2_with (go_at_call 77; (with_reducible refine (HC.out _).mono ?_); rintro e wn ⟨rfl, hb⟩)
    go_ret
    exact ⟨rfl, hb⟩
theorem impl_IsWave.calls (a0 : ByteArray) (r : Bool) (w : World) (h : impl_IsWave.f a0 = some r) :
    Calls Tryd.prog 69 #[.string a0] w fun e w' => e = .returned (.bool r) ∧ Below w.heap.size w w' := by
  unfold impl_IsWave.f at h
  by_cases hs2 : a0.size ≤ 9223372036854775807
  · rw [if_pos hs2] at h
    obtain rfl := Option.some.inj h
    by_cases hs : a0.size ≤ 400
    · have := IsWave_fits a0 hs w _ rfl
      have e : (Lib.trimS a0.data.toList [48, 49]).isEmpty = isW a0 := by
        unfold isW
        rw [decide_eq_true hs, Bool.true_and, Bool.eq_iff_iff, List.isEmpty_iff, trim_nil]
      rw [e] at this
      exact this
    · have e : isW a0 = false := by unfold isW; rw [decide_eq_false hs]; rfl
      rw [e]
      exact IsWave_long a0 hs hs2 w
  · rw [if_neg hs2] at h; cases h
end Go.Proofs.YthkpnbelbaljdaaDoor.X
-- Written by a program of this session out of the kit's print of the loaded functions: a plain function of a Go function, and its contract.
namespace Go.Proofs.YthkpnbelbaljdaaDoor.X
open Go.RowKit Go.Proofs.YthkpnbelbaljdaaDoorW.PrintWords Go.Proofs.YthkpnbelbaljdaaDoorW.PrintLast Go.Proofs.YthkpnbelbaljdaaDoorW.PrintMore
attribute [local go_sem] max2_int min2_int max_two min_two max_three min_three max_four min_four   -- for this text's walks alone
set_option linter.unusedVariables false
set_option linter.unusedSimpArgs false
class C_slices_IndexFunc_string_string where
  f : ByteArray → Option Bool
section
variable [C_slices_IndexFunc_string_string]
end
end Go.Proofs.YthkpnbelbaljdaaDoor.X
namespace Go.Proofs.YthkpnbelbaljdaaDoor.X
open Go.RowKit Go.Proofs.YthkpnbelbaljdaaDoorW.PrintWords Go.Proofs.YthkpnbelbaljdaaDoorW.PrintLast Go.Proofs.YthkpnbelbaljdaaDoorW.PrintMore
set_option linter.unusedVariables false
set_option linter.unusedSimpArgs false
end Go.Proofs.YthkpnbelbaljdaaDoor.X
-- Written by a program of this session out of the kit's print of the loaded functions: a plain function of a Go function, and its contract.
namespace Go.Proofs.YthkpnbelbaljdaaDoor.X
open Go.RowKit Go.Proofs.YthkpnbelbaljdaaDoorW.PrintWords Go.Proofs.YthkpnbelbaljdaaDoorW.PrintLast Go.Proofs.YthkpnbelbaljdaaDoorW.PrintMore
attribute [local go_sem] max2_int min2_int max_two min_two max_three min_three max_four min_four   -- for this text's walks alone
set_option linter.unusedVariables false
set_option linter.unusedSimpArgs false
end Go.Proofs.YthkpnbelbaljdaaDoor.X
-- Written by a program of this session out of the kit's print of the loaded functions: a plain function of a Go function, and its contract.
namespace Go.Proofs.YthkpnbelbaljdaaDoor.X
open Go.RowKit Go.Proofs.YthkpnbelbaljdaaDoorW.PrintWords Go.Proofs.YthkpnbelbaljdaaDoorW.PrintLast Go.Proofs.YthkpnbelbaljdaaDoorW.PrintMore
attribute [local go_sem] max2_int min2_int max_two min_two max_three min_three max_four min_four   -- for this text's walks alone
set_option linter.unusedVariables false
set_option linter.unusedSimpArgs false
end Go.Proofs.YthkpnbelbaljdaaDoor.X
-- Written by a program of this session out of the kit's print of the loaded functions: a plain function of a Go function, and its contract.
namespace Go.Proofs.YthkpnbelbaljdaaDoor.X
open Go.RowKit Go.Proofs.YthkpnbelbaljdaaDoorW.PrintWords Go.Proofs.YthkpnbelbaljdaaDoorW.PrintLast Go.Proofs.YthkpnbelbaljdaaDoorW.PrintMore
attribute [local go_sem] max2_int min2_int max_two min_two max_three min_three max_four min_four   -- for this text's walks alone
set_option linter.unusedVariables false
set_option linter.unusedSimpArgs false
end Go.Proofs.YthkpnbelbaljdaaDoor.X
namespace Go.Proofs.YthkpnbelbaljdaaDoor.X
open Go.RowKit Go.Proofs.YthkpnbelbaljdaaDoorW.PrintWords Go.Proofs.YthkpnbelbaljdaaDoorW.PrintLast Go.Proofs.YthkpnbelbaljdaaDoorW.PrintMore
theorem w64 {n : Int} (h0 : -9223372036854775808 ≤ n) (h1 : n ≤ 9223372036854775807) : wrap64 n = n := by unfold wrap64; omega
theorem tmodp {a b : Int} (h : 0 ≤ a) : Int.tmod a b = a % b := Int.tmod_eq_emod_of_nonneg h
theorem rd_nat (l : List Int) (i : Nat) (h : i < l.length) : rd l (i : Int) = l[i] := by
  unfold rd
  simp [h]
end Go.Proofs.YthkpnbelbaljdaaDoor.X
-- Written by a program of this session out of the kit's print of the loaded functions: a plain function of a Go function, and its contract.
namespace Go.Proofs.YthkpnbelbaljdaaDoor.X
open Go.RowKit Go.Proofs.YthkpnbelbaljdaaDoorW.PrintWords Go.Proofs.YthkpnbelbaljdaaDoorW.PrintLast Go.Proofs.YthkpnbelbaljdaaDoorW.PrintMore
attribute [local go_sem] max2_int min2_int max_two min_two max_three min_three max_four min_four   -- for this text's walks alone
set_option linter.unusedVariables false
set_option linter.unusedSimpArgs false
def impl_within.f (a0 : Int) (a1 : Int) (a2 : Int) : Option (Bool) := if a0 ≥ a1 then (some (decide (a0 ≤ a2))) else (some false)
set_option maxHeartbeats 8000000 in
set_option maxRecDepth 100000 in
theorem impl_within.calls (a0 : Int) (a1 : Int) (a2 : Int) (r : Bool) (w : World) (h : impl_within.f a0 a1 a2 = some r) :
    Calls Tryd.prog 48 #[.int .i64 a0, .int .i64 a1, .int .i64 a2] w fun e w' => e = .returned (.bool r) ∧ Drawn0 w w' := by
  have H : (if a0 ≥ a1 then (some (decide (a0 ≤ a2))) else (some false)) = some r := h
  clear h
  by_cases c4 : a0 ≥ a1
  · rw [if_pos c4] at H
    have c4b0 : decide (a1 ≤ a0) = true := decide_eq_true c4
    clear c4
    obtain rfl := Option.some.inj H
    go_enter Tryd.func48, Tryd.ntmps48
    go_wp2
    go_ret
    exact ⟨by first | rfl | (simp; done) | (simp [*]; done), by repeat (first | exact Drawn0.refl _ | apply Drawn0.step)⟩
  · rw [if_neg c4] at H
    have c4b0 : decide (a1 ≤ a0) = false := decide_eq_false c4
    clear c4
    obtain rfl := Option.some.inj H
    go_enter Tryd.func48, Tryd.ntmps48
    go_wp2
    go_ret
    exact ⟨by first | rfl | (simp; done) | (simp [*]; done), by repeat (first | exact Drawn0.refl _ | apply Drawn0.step)⟩
end Go.Proofs.YthkpnbelbaljdaaDoor.X
-- Written by a program of this session out of the kit's print of the loaded functions: a plain function of a Go function, and its contract.
namespace Go.Proofs.YthkpnbelbaljdaaDoor.X
open Go.RowKit Go.Proofs.YthkpnbelbaljdaaDoorW.PrintWords Go.Proofs.YthkpnbelbaljdaaDoorW.PrintLast Go.Proofs.YthkpnbelbaljdaaDoorW.PrintMore
attribute [local go_sem] max2_int min2_int max_two min_two max_three min_three max_four min_four   -- for this text's walks alone
set_option linter.unusedVariables false
set_option linter.unusedSimpArgs false
end Go.Proofs.YthkpnbelbaljdaaDoor.X
-- Written by a program of this session out of the kit's print of the loaded functions: a plain function of a Go function, and its contract.
namespace Go.Proofs.YthkpnbelbaljdaaDoor.X
open Go.RowKit Go.Proofs.YthkpnbelbaljdaaDoorW.PrintWords Go.Proofs.YthkpnbelbaljdaaDoorW.PrintLast Go.Proofs.YthkpnbelbaljdaaDoorW.PrintMore
attribute [local go_sem] max2_int min2_int max_two min_two max_three min_three max_four min_four   -- for this text's walks alone
set_option linter.unusedVariables false
set_option linter.unusedSimpArgs false
def impl_changesTo.l0 : Nat → ByteArray → Int → List Int → Int → Int → Int → Option (List Int)
  | 0, _, _, _, _, _, _ => none
  | k + 1, x0, x1, x5, x6, x10, x11 => if x11 < x10 then (if 0 ≤ x11 then (if x11 < (x0.size : Int) then (if (bt x0 x11) = x6 then (impl_changesTo.l0 k x0 x1 x5 (bt x0 x11) x10 (wrap64 (x11 + 1))) else (if (bt x0 x11) = x1 then (if x5.length < 17592186044416 then (impl_changesTo.l0 k x0 x1 (x5 ++ [x11]) (bt x0 x11) x10 (wrap64 (x11 + 1))) else (none)) else (impl_changesTo.l0 k x0 x1 x5 (bt x0 x11) x10 (wrap64 (x11 + 1))))) else (none)) else (none)) else (some x5)
def impl_changesTo.f (k : Nat) (a0 : ByteArray) (a1 : Int) : Option (List Int) := impl_changesTo.l0 k a0 a1 (([] : List Int)) 48 (a0.size : Int) 0
set_option maxHeartbeats 8000000 in
set_option maxRecDepth 100000 in
theorem impl_changesTo.calls (k : Nat) (a0 : ByteArray) (a1 : Int) (r : List Int) (w : World) (h : impl_changesTo.f k a0 a1 = some r) :
    Calls Tryd.prog 49 #[.string a0, .int .u8 a1] w fun e w' => ∃ v0_ : Value, e = .returned (v0_) ∧ Kd.R (Kd.int .i64) 2 w' w.heap.size (fun _ => True) v0_ r ∧ Below w.heap.size w w' := by
  have HB := Aside0.mk (Below.refl w.heap.size w)
  have H : (impl_changesTo.l0 k a0 a1 (([] : List Int)) 48 (a0.size : Int) 0) = some r := h
  clear h
  obtain ⟨y135, hy135⟩ : ∃ y_ : List Int, y_ = (([] : List Int)) := ⟨_, rfl⟩
  replace H : (impl_changesTo.l0 k a0 a1 y135 48 (a0.size : Int) 0) = some r := by first | (rw [hy135]; with_reducible exact H) | (have H2_ := (Option.bind_some _ _).symm.trans H; rw [hy135]; with_reducible exact H2_) | (have H2_ := (Option.bind_some _ _).symm.trans H; with_reducible exact H2_) | with_reducible exact H | (rw [hy135]; exact H) | exact H
  have Ny135 := Aside0.mk hy135
  clear hy135
  have H' := Aside0.mk H
  clear H
  go_enter Tryd.func49, Tryd.ntmps49
  go_wp2_with (first | ((with_reducible refine gate_dst (N := 8) rfl ?_); refine Kd.R_lit (Kd.int .i64) _ 2 ?hg (N := 8) ?hd (xs := ([] : List Int)) (inner := []) (ok := fun _ => True) (okp := fun _ => True) ?hr ?hp (fun _ hk => hk) trivial (Below.refl _ _) (Nat.le_refl _) (by simp) ?_; (case hd => rfl); (case hg => rfl); (case hr => first | (go_simp; done) | (go_simp; rfl)); (case hp => exact (Reps.none _ _)); intro v136 w3 ho4 hb hg_ hnew_; clear hg_ hnew_; (first | rw [← Ny135.out] at ho4 | (simp only [Int.reduceToNat] at ho4; rw [← Ny135.out] at ho4)); have n0_ := Aside0.mk (Kd.R_lower ho4 (below_size (by repeat (first | (with_reducible first | exact HB.out | apply below_alloc | apply pw_below_drewN | apply below_drew1) | exact HB.out)))); have n1_ := Aside0.mk (below_step (by repeat (first | (with_reducible first | exact HB.out | apply below_alloc | apply pw_below_drewN | apply below_drew1) | exact HB.out)) hb); clear HB; have HO137 := n0_; have HB := n1_; clear n0_ n1_; clear hb ho4))
  go_loopg [5, 6, 11] k (fun kq v5 v6 v11 w' => ∃ (x5_1 : List Int) (x6_1 : Int) (x11_1 : Int), v6 = .int .u8 x6_1 ∧ v11 = .int .i64 x11_1 ∧ Aside0 (impl_changesTo.l0 kq a0 a1 x5_1 x6_1 (a0.size : Int) x11_1 = some r) ∧ Aside0 (kq ≤ k) ∧ Aside0 (Kd.R (Kd.int .i64) 2 w' w.heap.size (fun _ => True) v5 x5_1) ∧ Aside0 (Below w.heap.size w w'))
  case atStart => exact ⟨(y135), (48), (0), (by first | rfl | (simp; done) | (simp [*]; done)), (by first | rfl | (simp; done) | (simp [*]; done)), H', ⟨Nat.le_refl _⟩, ⟨by (with_reducible repeat (first | apply Kd.R_alloc | apply Kd.R_drewN | apply Kd.R_drew)); exact HO137.out⟩, ⟨by repeat (first | (with_reducible first | exact HB.out | apply below_alloc | apply pw_below_drewN | apply below_drew1) | exact HB.out)⟩⟩
  case round =>
    clear H'
    try clear p2
    try clear c4
    obtain ⟨x5_1, x6_1, x11_1, rfl, rfl, HA, HK1, HO_5, HB⟩ := hrel
    cases gk with
    | zero => exact absurd HA.out (by simp [impl_changesTo.l0])
    | succ k1 =>
      have H := HA.out
      clear HA
      simp only [impl_changesTo.l0] at H
      by_cases c5 : x11_1 < (a0.size : Int)
      · rw [if_pos c5] at H
        have c5b0 : decide (x11_1 < (a0.size : Int)) = true := decide_eq_true c5
        clear c5
        by_cases c6 : 0 ≤ x11_1
        · rw [if_pos c6] at H
          have c6b0 : decide (0 ≤ x11_1) = true := decide_eq_true c6
          clear c6
          by_cases c7 : x11_1 < (a0.size : Int)
          · rw [if_pos c7] at H
            have c7b0 : decide (x11_1 < (a0.size : Int)) = true := decide_eq_true c7
            clear c7
            by_cases c9 : (bt a0 x11_1) = x6_1
            · rw [if_pos c9] at H
              have c9b0 : ((bt a0 x11_1) == x6_1) = true := beq_iff_eq.mpr c9
              have c9b1 : ((bt a0 x11_1) != x6_1) = false := bne_eq_false_iff_eq.mpr c9
              clear c9
              have H' := Aside0.mk H
              clear H
              have p8 : 0 ≤ (x11_1 : Int) := of_decide_eq_true (by first | (with_reducible assumption) | assumption)
              have q8 : x11_1 < (a0.size : Int) := of_decide_eq_true (by first | (with_reducible assumption) | assumption)
              have hx8 := bt_at a0 x11_1
              replace p8 := eq_true p8
              replace q8 := eq_true q8
              have p10 : 0 ≤ (x11_1 : Int) := of_decide_eq_true (by first | (with_reducible assumption) | assumption)
              have q10 : x11_1 < (a0.size : Int) := of_decide_eq_true (by first | (with_reducible assumption) | assumption)
              have hx10 := bt_at a0 x11_1
              replace p10 := eq_true p10
              replace q10 := eq_true q10
              go_wp2
              go_roundg k1
              case measure => have := HK1.out; omega
              case rel => exact ⟨(x5_1), (bt a0 x11_1), (wrap64 (x11_1 + 1)), (by first | rfl | (simp; done) | (simp [*]; done)), (by first | rfl | (simp; done) | (simp [*]; done)), H', ⟨by have := HK1.out; omega⟩, ⟨by (with_reducible repeat (first | apply Kd.R_alloc | apply Kd.R_drewN | apply Kd.R_drew)); exact HO_5.out⟩, ⟨by repeat (first | (with_reducible first | exact HB.out | apply below_alloc | apply pw_below_drewN | apply below_drew1) | exact HB.out)⟩⟩
            · rw [if_neg c9] at H
              have c9b0 : ((bt a0 x11_1) == x6_1) = false := beq_eq_false_iff_ne.mpr c9
              have c9b1 : ((bt a0 x11_1) != x6_1) = true := bne_iff_ne.mpr c9
              by_cases c12 : (bt a0 x11_1) = a1
              · rw [if_pos c12] at H
                have c12b0 : ((bt a0 x11_1) == a1) = true := beq_iff_eq.mpr c12
                have c12b1 : ((bt a0 x11_1) != a1) = false := bne_eq_false_iff_eq.mpr c12
                clear c12
                by_cases c13 : x5_1.length < 17592186044416
                · rw [if_pos c13] at H
                  have LMc13 := Aside0.mk c13
                  clear c13
                  obtain ⟨y138, hy138⟩ : ∃ y_ : List Int, y_ = (x5_1 ++ [x11_1]) := ⟨_, rfl⟩
                  replace H : (impl_changesTo.l0 k1 a0 a1 y138 (bt a0 x11_1) (a0.size : Int) (wrap64 (x11_1 + 1))) = some r := by first | (rw [hy138]; with_reducible exact H) | (have H2_ := (Option.bind_some _ _).symm.trans H; rw [hy138]; with_reducible exact H2_) | (have H2_ := (Option.bind_some _ _).symm.trans H; with_reducible exact H2_) | with_reducible exact H | (rw [hy138]; exact H) | exact H
                  have Ny138 := Aside0.mk hy138
                  clear hy138
                  have H' := Aside0.mk H
                  clear H
                  have p8 : 0 ≤ (x11_1 : Int) := of_decide_eq_true (by first | (with_reducible assumption) | assumption)
                  have q8 : x11_1 < (a0.size : Int) := of_decide_eq_true (by first | (with_reducible assumption) | assumption)
                  have hx8 := bt_at a0 x11_1
                  replace p8 := eq_true p8
                  replace q8 := eq_true q8
                  have p11 : 0 ≤ (x11_1 : Int) := of_decide_eq_true (by first | (with_reducible assumption) | assumption)
                  have q11 : x11_1 < (a0.size : Int) := of_decide_eq_true (by first | (with_reducible assumption) | assumption)
                  have hx11 := bt_at a0 x11_1
                  replace p11 := eq_true p11
                  replace q11 := eq_true q11
                  go_wp2_with (first | ((with_reducible refine gate_builtin (b := .append) (xs := #[.tmp 26, .tmp 28]) rfl ?_); at_builtin; refine Kd.R_append (Kd.int .i64) (w0 := w) w.heap.size rfl (.tmp 26) (.tmp 28) 34 2 (.int .i64 0) 8 rfl Tryd.underlying34 info2 rfl (by decide) (by omega) u5 x5_1 x11_1 [.int .i64 x11_1] (fun _ => True) (fun _ => False) rfl rfl ?aP (fun _ hk => hk.elim) ?aF ?aO ?aB ?aS ?aL ?_; (case aP => exact rfl); (case aB => exact (by repeat (first | (with_reducible first | exact HB.out | apply below_alloc | apply pw_below_drewN | apply below_drew1) | exact HB.out))); (case aF => exact (fun _ _ => trivial)); (case aO => exact (by (with_reducible repeat (first | apply Kd.R_alloc | apply Kd.R_drewN | apply Kd.R_drew)); exact HO_5.out)); (case aS => exact (below_size (by repeat (first | (with_reducible first | exact HB.out | apply below_alloc | apply pw_below_drewN | apply below_drew1) | exact HB.out)))); (case aL => have := LMc13.out; omega); intro v139 w15 ho hb hg hat; rw [← Ny138.out] at ho; have n0_ := Aside0.mk (hb); have n1_ := Aside0.mk (ho); clear HB; clear HO_5; have HB := n0_; have HO140 := n1_; clear n0_ n1_; clear ho hb hg hat; have p14 : 0 ≤ (x11_1 : Int) := of_decide_eq_true (by first | (with_reducible assumption) | assumption); have q14 : x11_1 < (a0.size : Int) := of_decide_eq_true (by first | (with_reducible assumption) | assumption); have hx14 := bt_at a0 x11_1; replace p14 := eq_true p14; replace q14 := eq_true q14))
                  go_roundg k1
                  case measure => have := HK1.out; omega
                  case rel => exact ⟨(y138), (bt a0 x11_1), (wrap64 (x11_1 + 1)), (by first | rfl | (simp; done) | (simp [*]; done)), (by first | rfl | (simp; done) | (simp [*]; done)), H', ⟨by have := HK1.out; omega⟩, ⟨by (with_reducible repeat (first | apply Kd.R_alloc | apply Kd.R_drewN | apply Kd.R_drew)); exact HO140.out⟩, ⟨by repeat (first | (with_reducible first | exact HB.out | apply below_alloc | apply pw_below_drewN | apply below_drew1) | exact HB.out)⟩⟩
                · rw [if_neg c13] at H
                  exact absurd H (by simp)
              · rw [if_neg c12] at H
                have c12b0 : ((bt a0 x11_1) == a1) = false := beq_eq_false_iff_ne.mpr c12
                have c12b1 : ((bt a0 x11_1) != a1) = true := bne_iff_ne.mpr c12
                have H' := Aside0.mk H
                clear H
                have p8 : 0 ≤ (x11_1 : Int) := of_decide_eq_true (by first | (with_reducible assumption) | assumption)
                have q8 : x11_1 < (a0.size : Int) := of_decide_eq_true (by first | (with_reducible assumption) | assumption)
                have hx8 := bt_at a0 x11_1
                replace p8 := eq_true p8
                replace q8 := eq_true q8
                have p11 : 0 ≤ (x11_1 : Int) := of_decide_eq_true (by first | (with_reducible assumption) | assumption)
                have q11 : x11_1 < (a0.size : Int) := of_decide_eq_true (by first | (with_reducible assumption) | assumption)
                have hx11 := bt_at a0 x11_1
                replace p11 := eq_true p11
                replace q11 := eq_true q11
                have p16 : 0 ≤ (x11_1 : Int) := of_decide_eq_true (by first | (with_reducible assumption) | assumption)
                have q16 : x11_1 < (a0.size : Int) := of_decide_eq_true (by first | (with_reducible assumption) | assumption)
                have hx16 := bt_at a0 x11_1
                replace p16 := eq_true p16
                replace q16 := eq_true q16
                go_wp2
                go_roundg k1
                case measure => have := HK1.out; omega
                case rel => exact ⟨(x5_1), (bt a0 x11_1), (wrap64 (x11_1 + 1)), (by first | rfl | (simp; done) | (simp [*]; done)), (by first | rfl | (simp; done) | (simp [*]; done)), H', ⟨by have := HK1.out; omega⟩, ⟨by (with_reducible repeat (first | apply Kd.R_alloc | apply Kd.R_drewN | apply Kd.R_drew)); exact HO_5.out⟩, ⟨by repeat (first | (with_reducible first | exact HB.out | apply below_alloc | apply pw_below_drewN | apply below_drew1) | exact HB.out)⟩⟩
          · rw [if_neg c7] at H
            exact absurd H (by simp)
        · rw [if_neg c6] at H
          exact absurd H (by simp)
      · rw [if_neg c5] at H
        have c5b0 : decide (x11_1 < (a0.size : Int)) = false := decide_eq_false c5
        clear c5
        obtain rfl := Option.some.inj H
        go_wp2
        go_ret
        exact ⟨_, by first | rfl | (simp [errW_none, errW_some] <;> rfl) | (simp [*, errW_none, errW_some] <;> rfl), by (with_reducible repeat (first | apply Kd.R_alloc | apply Kd.R_drewN | apply Kd.R_drew)); exact HO_5.out, by repeat (first | (with_reducible first | exact HB.out | apply below_alloc | apply pw_below_drewN | apply below_drew1) | exact HB.out)⟩
end Go.Proofs.YthkpnbelbaljdaaDoor.X
-- Written by a program of this session out of the kit's print of the loaded functions: a plain function of a Go function, and its contract.
namespace Go.Proofs.YthkpnbelbaljdaaDoor.X
open Go.RowKit Go.Proofs.YthkpnbelbaljdaaDoorW.PrintWords Go.Proofs.YthkpnbelbaljdaaDoorW.PrintLast Go.Proofs.YthkpnbelbaljdaaDoorW.PrintMore
attribute [local go_sem] max2_int min2_int max_two min_two max_three min_three max_four min_four   -- for this text's walks alone
set_option linter.unusedVariables false
set_option linter.unusedSimpArgs false
def spec_l01Edges.l0 : Nat → ByteArray → Int → List Int → Int → Int → Option (List Int)
  | 0, _, _, _, _, _ => none
  | k + 1, x0, x1, x5, x6, x7 => if x7 < (x0.size : Int) then (if 0 ≤ x7 then (if (bt x0 x7) = x1 then (if x6 = x1 then (spec_l01Edges.l0 k x0 x1 x5 (bt x0 x7) (wrap64 (x7 + 1))) else (if x5.length < 17592186044416 then (spec_l01Edges.l0 k x0 x1 (x5 ++ [x7]) (bt x0 x7) (wrap64 (x7 + 1))) else (none))) else (spec_l01Edges.l0 k x0 x1 x5 (bt x0 x7) (wrap64 (x7 + 1)))) else (none)) else (some x5)
end Go.Proofs.YthkpnbelbaljdaaDoor.X
end
section
-- Written by a program of this session out of the kit's print of the loaded functions: a plain function of a Go function, and its contract.
namespace Go.Proofs.YthkpnbelbaljdaaDoor.X
open Go.RowKit Go.Proofs.YthkpnbelbaljdaaDoorW.PrintWords Go.Proofs.YthkpnbelbaljdaaDoorW.PrintLast Go.Proofs.YthkpnbelbaljdaaDoorW.PrintMore
attribute [local go_sem] max2_int min2_int max_two min_two max_three min_three max_four min_four   -- for this text's walks alone
set_option linter.unusedVariables false
set_option linter.unusedSimpArgs false
end Go.Proofs.YthkpnbelbaljdaaDoor.X
namespace Go.Proofs.YthkpnbelbaljdaaDoor.X
open Go.RowKit Go.Proofs.YthkpnbelbaljdaaDoorW.PrintWords Go.Proofs.YthkpnbelbaljdaaDoorW.PrintLast Go.Proofs.YthkpnbelbaljdaaDoorW.PrintMore
set_option linter.unusedVariables false
set_option linter.unusedSimpArgs false
theorem within_eq (a b c : Int) : impl_within.f a b c = some (decide (b ≤ a ∧ a ≤ c)) := by
  unfold impl_within.f; by_cases h : a ≥ b <;> simp [h] <;> omega
theorem bt_get (s : ByteArray) (i : Nat) (h : i < s.size) : bt s (i : Int) = ((s.data[i]'h).toNat : Int) := by
  unfold bt
  rw [dif_pos (by simpa using h)]
  rfl
theorem lev_bt (c : UInt8) : isLev c = true ↔ ((c.toNat : Int) = 48 ∨ (c.toNat : Int) = 49) := by
  unfold isLev
  rw [Bool.or_eq_true, beq_iff_eq, beq_iff_eq, ← UInt8.toNat_inj, ← UInt8.toNat_inj]
  constructor
  · rintro (h | h)
    · left; rw [h]; rfl
    · right; rw [h]; rfl
  · rintro (h | h)
    · left; have : c.toNat = 48 := by omega
      rw [this]; rfl
    · right; have : c.toNat = 49 := by omega
      rw [this]; rfl
def Lev (s : ByteArray) : Prop := ∀ i : Nat, i < s.size → bt s (i : Int) = 48 ∨ bt s (i : Int) = 49
theorem all_lev (s : ByteArray) : s.data.toList.all isLev = true ↔ Lev s := by
  rw [List.all_eq_true]
  constructor
  · intro h i hi
    rw [bt_get s i hi]
    exact (lev_bt _).1 (h _ (by simp))
  · intro h c hc
    obtain ⟨i, hi, rfl⟩ := List.getElem_of_mem hc
    have h2 : i < s.size := by simpa using hi
    have := h i h2
    rw [bt_get s i h2] at this
    exact (lev_bt _).2 (by simpa using this)
theorem isW_iff (s : ByteArray) : isW s = true ↔ s.size ≤ 400 ∧ Lev s := by
  unfold isW; rw [Bool.and_eq_true, decide_eq_true_eq, all_lev]
def prv (s : ByteArray) (i : Nat) : Int := if i = 0 then 48 else bt s ((i - 1 : Nat) : Int)
theorem prv_succ (s : ByteArray) (i : Nat) : prv s (i + 1) = bt s (i : Int) := by unfold prv; rw [if_neg (by omega)]; rfl
def isE (s : ByteArray) (c : Int) (i : Nat) : Bool := decide (bt s (i : Int) = c) && !decide (prv s i = c)
def edg (s : ByteArray) (c : Int) (n : Nat) : List Int := ((List.range n).filter (isE s c)).map fun (i : Nat) => (i : Int)
theorem edg_len (s : ByteArray) (c : Int) (n : Nat) : (edg s c n).length ≤ n := by
  unfold edg; rw [List.length_map]
  have := List.length_filter_le (isE s c) (List.range n)
  simpa using this
theorem edg_succ (s : ByteArray) (c : Int) (n : Nat) : edg s c (n + 1) = if isE s c n = true then edg s c n ++ [(n : Int)] else edg s c n := by
  unfold edg
  rw [List.range_succ, List.filter_append, List.map_append, List.filter_cons]
  split <;> simp
theorem edg_mem (s : ByteArray) (c : Int) (n : Nat) (x : Int) : x ∈ edg s c n ↔ ∃ i : Nat, i < n ∧ isE s c i = true ∧ x = i := by
  unfold edg
  simp only [List.mem_map, List.mem_filter, List.mem_range]
  constructor
  · rintro ⟨i, ⟨h1, h2⟩, rfl⟩; exact ⟨i, h1, h2, rfl⟩
  · rintro ⟨i, h1, h2, rfl⟩; exact ⟨i, ⟨h1, h2⟩, rfl⟩
theorem edges_loop (s : ByteArray) (c : Int) (hs : s.size ≤ 1000000) : ∀ (d k i : Nat), i + d = s.size → d < k →
    impl_changesTo.l0 k s c (edg s c i) (prv s i) s.size i = some (edg s c s.size) ∧ spec_l01Edges.l0 k s c (edg s c i) (prv s i) i = some (edg s c s.size)
  | 0, k, i, hi, hk => by
    cases k with
    | zero => omega
    | succ k =>
      constructor
      · rw [impl_changesTo.l0, if_neg (by omega), show i = s.size by omega]
      · rw [spec_l01Edges.l0, if_neg (by omega), show i = s.size by omega]
  | d + 1, k, i, hi, hk => by
    cases k with
    | zero => omega
    | succ k =>
      have ih := edges_loop s c hs d k (i + 1) (by omega) (by omega)
      have hl := edg_len s c i
      rw [prv_succ, edg_succ, Int.natCast_add, Int.natCast_one] at ih
      constructor
      · rw [impl_changesTo.l0, if_pos (by omega), if_pos (by omega), if_pos (by omega), w64 (by omega) (by omega), if_pos (show (edg s c i).length < 17592186044416 by omega)]
        by_cases h1 : bt s (i : Int) = prv s i
        · rw [if_pos h1]
          have : isE s c i = false := by unfold isE; rw [h1]; cases decide (prv s i = c) <;> rfl
          rw [this] at ih; exact ih.1
        · rw [if_neg h1]
          by_cases h2 : bt s (i : Int) = c
          · have : isE s c i = true := by
              unfold isE
              rw [decide_eq_true h2, decide_eq_false (by intro h; exact h1 (h2.trans h.symm))]; rfl
            rw [if_pos h2]
            rw [this] at ih; exact ih.1
          · have : isE s c i = false := by unfold isE; rw [decide_eq_false h2]; rfl
            rw [if_neg h2]
            rw [this] at ih; exact ih.1
      · rw [spec_l01Edges.l0, if_pos (by omega), if_pos (by omega), w64 (by omega) (by omega), if_pos (show (edg s c i).length < 17592186044416 by omega)]
        by_cases h2 : bt s (i : Int) = c
        · rw [if_pos h2]
          by_cases h3 : prv s i = c
          · have : isE s c i = false := by unfold isE; rw [decide_eq_true h3]; cases decide (bt s (i : Int) = c) <;> rfl
            rw [if_pos h3]
            rw [this] at ih; exact ih.2
          · have : isE s c i = true := by unfold isE; rw [decide_eq_true h2, decide_eq_false h3]; rfl
            rw [if_neg h3]
            rw [this] at ih; exact ih.2
        · have : isE s c i = false := by unfold isE; rw [decide_eq_false h2]; rfl
          rw [if_neg h2]
          rw [this] at ih; exact ih.2
theorem changes_eq (k : Nat) (s : ByteArray) (c : Int) (hs : s.size ≤ 1000000) (hk : s.size < k) : impl_changesTo.f k s c = some (edg s c s.size) := by
  unfold impl_changesTo.f
  have := (edges_loop s c hs s.size k 0 (by omega) hk).1
  simpa [edg, prv] using this
end Go.Proofs.YthkpnbelbaljdaaDoor.X
namespace Go.Proofs.YthkpnbelbaljdaaDoor.X
open Go.RowKit Go.Proofs.YthkpnbelbaljdaaDoorW.PrintWords Go.Proofs.YthkpnbelbaljdaaDoorW.PrintLast Go.Proofs.YthkpnbelbaljdaaDoorW.PrintMore
set_option linter.unusedVariables false
set_option linter.unusedSimpArgs false
end Go.Proofs.YthkpnbelbaljdaaDoor.X
namespace Go.Proofs.YthkpnbelbaljdaaDoor.X
open Go.RowKit Go.Proofs.YthkpnbelbaljdaaDoorW.PrintWords Go.Proofs.YthkpnbelbaljdaaDoorW.PrintLast Go.Proofs.YthkpnbelbaljdaaDoorW.PrintMore
set_option linter.unusedVariables false
set_option linter.unusedSimpArgs false
end Go.Proofs.YthkpnbelbaljdaaDoor.X
-- Written by a program of this session out of the kit's print of the loaded functions: a plain function of a Go function, and its contract.
namespace Go.Proofs.YthkpnbelbaljdaaDoor.X
open Go.RowKit Go.Proofs.YthkpnbelbaljdaaDoorW.PrintWords Go.Proofs.YthkpnbelbaljdaaDoorW.PrintLast Go.Proofs.YthkpnbelbaljdaaDoorW.PrintMore
attribute [local go_sem] max2_int min2_int max_two min_two max_three min_three max_four min_four   -- for this text's walks alone
set_option linter.unusedVariables false
set_option linter.unusedSimpArgs false
end Go.Proofs.YthkpnbelbaljdaaDoor.X
-- Written by a program of this session out of the kit's print of the loaded functions: a plain function of a Go function, and its contract.
namespace Go.Proofs.YthkpnbelbaljdaaDoor.X
open Go.RowKit Go.Proofs.YthkpnbelbaljdaaDoorW.PrintWords Go.Proofs.YthkpnbelbaljdaaDoorW.PrintLast Go.Proofs.YthkpnbelbaljdaaDoorW.PrintMore
attribute [local go_sem] max2_int min2_int max_two min_two max_three min_three max_four min_four   -- for this text's walks alone
set_option linter.unusedVariables false
set_option linter.unusedSimpArgs false
end Go.Proofs.YthkpnbelbaljdaaDoor.X
-- Written by a program of this session out of the kit's print of the loaded functions: a plain function of a Go function, and its contract.
namespace Go.Proofs.YthkpnbelbaljdaaDoor.X
open Go.RowKit Go.Proofs.YthkpnbelbaljdaaDoorW.PrintWords Go.Proofs.YthkpnbelbaljdaaDoorW.PrintLast Go.Proofs.YthkpnbelbaljdaaDoorW.PrintMore
attribute [local go_sem] max2_int min2_int max_two min_two max_three min_three max_four min_four   -- for this text's walks alone
set_option linter.unusedVariables false
set_option linter.unusedSimpArgs false
end Go.Proofs.YthkpnbelbaljdaaDoor.X
-- Written by a program of this session out of the kit's print of the loaded functions: a plain function of a Go function, and its contract.
namespace Go.Proofs.YthkpnbelbaljdaaDoor.X
open Go.RowKit Go.Proofs.YthkpnbelbaljdaaDoorW.PrintWords Go.Proofs.YthkpnbelbaljdaaDoorW.PrintLast Go.Proofs.YthkpnbelbaljdaaDoorW.PrintMore
attribute [local go_sem] max2_int min2_int max_two min_two max_three min_three max_four min_four   -- for this text's walks alone
set_option linter.unusedVariables false
set_option linter.unusedSimpArgs false
end Go.Proofs.YthkpnbelbaljdaaDoor.X
namespace Go.Proofs.YthkpnbelbaljdaaDoor.X
open Go.RowKit Go.Proofs.YthkpnbelbaljdaaDoorW.PrintWords Go.Proofs.YthkpnbelbaljdaaDoorW.PrintLast Go.Proofs.YthkpnbelbaljdaaDoorW.PrintMore
set_option linter.unusedVariables false
set_option linter.unusedSimpArgs false
end Go.Proofs.YthkpnbelbaljdaaDoor.X
end
section
namespace Go.Proofs.YthkpnbelbaljdaaDoor.X
open Go.RowKit Go.Proofs.YthkpnbelbaljdaaDoorW.PrintWords Go.Proofs.YthkpnbelbaljdaaDoorW.PrintLast Go.Proofs.YthkpnbelbaljdaaDoorW.PrintMore
set_option linter.unusedVariables false
set_option linter.unusedSimpArgs false
end Go.Proofs.YthkpnbelbaljdaaDoor.X
-- Written by a program of this session out of the kit's print of the loaded functions: a plain function of a Go function, and its contract.
namespace Go.Proofs.YthkpnbelbaljdaaDoor.X
open Go.RowKit Go.Proofs.YthkpnbelbaljdaaDoorW.PrintWords Go.Proofs.YthkpnbelbaljdaaDoorW.PrintLast Go.Proofs.YthkpnbelbaljdaaDoorW.PrintMore
attribute [local go_sem] max2_int min2_int max_two min_two max_three min_three max_four min_four   -- for this text's walks alone
set_option linter.unusedVariables false
set_option linter.unusedSimpArgs false
mutual
def impl_pulses.l0 : Nat → ByteArray → List (S61) → List Int → Int → Int → Option ((List (S61)))
  | 0, _, _, _, _, _ => none
  | k + 1, x0, x3, x10, x11, x12 => if x12 < x11 then (if 0 ≤ x12 then (if x12 < (x10.length : Int) then (impl_pulses.l1 k x0 x3 (rd x10 x12) 0 (rd x10 x12) x10 x11 x12) else (none)) else (none)) else (some x3)
def impl_pulses.l1 : Nat → ByteArray → List (S61) → Int → Int → Int → List Int → Int → Int → Option ((List (S61)))
  | 0, _, _, _, _, _, _, _, _ => none
  | k + 1, x0, x3, x5, x6, x7, x10, x11, x12 => if x7 < (x0.size : Int) then (if 0 ≤ x7 then (if (bt x0 x7) = 49 then (impl_pulses.l1 k x0 x3 x5 (wrap64 (x6 + 1)) (wrap64 (x7 + 1)) x10 x11 x12) else (if x3.length < 8796093022208 then (impl_pulses.l0 k x0 (x3 ++ [(⟨x5, x6⟩ : S61)]) x10 x11 (wrap64 (x12 + 1))) else (none))) else (none)) else (if x3.length < 8796093022208 then (impl_pulses.l0 k x0 (x3 ++ [(⟨x5, x6⟩ : S61)]) x10 x11 (wrap64 (x12 + 1))) else (none))
end
def impl_pulses.f (k : Nat) (a0 : ByteArray) : Option ((List (S61))) := (impl_changesTo.f k a0 49).bind fun t186 => (impl_pulses.l0 k a0 (([] : List (S61))) t186 (t186.length : Int) 0)
set_option maxHeartbeats 8000000 in
set_option maxRecDepth 100000 in
theorem impl_pulses.calls (k : Nat) (a0 : ByteArray) (r : List (S61)) (w : World) (h : impl_pulses.f k a0 = some r) :
    Calls Tryd.prog 55 #[.string a0] w fun e w' => ∃ v0_ : Value, e = .returned (v0_) ∧ Kd.R k61 61 w' w.heap.size (fun _ => True) v0_ r ∧ Below w.heap.size w w' := by
  have hu61 := Tryd.underlying61
  have HB := Aside0.mk (Below.refl w.heap.size w)
  have H : ((impl_changesTo.f k a0 49).bind fun t186 => (impl_pulses.l0 k a0 (([] : List (S61))) t186 (t186.length : Int) 0)) = some r := h
  clear h
  obtain ⟨y183, hy183⟩ : ∃ y_ : List (S61), y_ = (([] : List (S61))) := ⟨_, rfl⟩
  replace H : ((impl_changesTo.f k a0 49).bind fun t186 => (impl_pulses.l0 k a0 y183 t186 (t186.length : Int) 0)) = some r := by first | (rw [hy183]; with_reducible exact H) | (have H2_ := (Option.bind_some _ _).symm.trans H; rw [hy183]; with_reducible exact H2_) | (have H2_ := (Option.bind_some _ _).symm.trans H; with_reducible exact H2_) | with_reducible exact H | (rw [hy183]; exact H) | exact H
  have Ny183 := Aside0.mk hy183
  clear hy183
  replace H := Option.bind_eq_some_iff.mp H
  obtain ⟨t186, A20, H⟩ := H
  replace H : (impl_pulses.l0 k a0 y183 t186 (t186.length : Int) 0) = some r := H
  have A2 := Aside0.mk A20
  clear A20
  have H' := Aside0.mk H
  clear H
  go_enter Tryd.func55, Tryd.ntmps55
  go_wp2_with (first | ((with_reducible refine gate_dst (N := 8) rfl ?_); refine Kd.R_lit k61 _ 61 ?hg (N := 8) ?hd (xs := ([] : List (S61))) (inner := []) (ok := fun _ => True) (okp := fun _ => True) ?hr ?hp (fun _ hk => hk) trivial (Below.refl _ _) (Nat.le_refl _) (by simp) ?_; (case hd => rfl); (case hg => rfl); (case hr => first | (go_simp; done) | (go_simp; rfl)); (case hp => exact (Reps.none _ _)); intro v184 w3 ho4 hb hg_ hnew_; clear hg_ hnew_; (first | rw [← Ny183.out] at ho4 | (simp only [Int.reduceToNat] at ho4; rw [← Ny183.out] at ho4)); have n0_ := Aside0.mk (Kd.R_lower ho4 (below_size (by repeat (first | (with_reducible first | exact HB.out | apply below_alloc | apply pw_below_drewN | apply below_drew1) | exact HB.out)))); have n1_ := Aside0.mk (below_step (by repeat (first | (with_reducible first | exact HB.out | apply below_alloc | apply pw_below_drewN | apply below_drew1) | exact HB.out)) hb); clear HB; have HO185 := n0_; have HB := n1_; clear n0_ n1_; clear hb ho4) | ((with_reducible refine gate_callee (f := 49) rfl ?_); refine goesL_ (some 10) rfl rfl Tryd.func49 (by kernel_rfl) rfl #[.string a0, .int .u8 49] rfl (by (try simp only [List.map_toArray, List.map_cons, List.map_nil]); first | done | rfl | (simp only [List.length_drop, List.length_take]; rfl)) ?_; (with_reducible refine (impl_changesTo.calls k a0 49 t186 _ A2.out).mono ?_); rintro e w5 ⟨v187, rfl, ho0, hb⟩; refine ⟨_, rfl, ?_⟩; have n0_ := Aside0.mk (Kd.R_below (by (with_reducible repeat (first | apply Kd.R_alloc | apply Kd.R_drewN | apply Kd.R_drew)); exact HO185.out) hb); have n1_ := Aside0.mk (Kd.R_lower ho0 (below_size (by repeat (first | (with_reducible first | exact HB.out | apply below_alloc | apply pw_below_drewN | apply below_drew1) | exact HB.out)))); have n2_ := Aside0.mk (below_step (by repeat (first | (with_reducible first | exact HB.out | apply below_alloc | apply pw_below_drewN | apply below_drew1) | exact HB.out)) hb); clear HO185; clear HB; have HO185 := n0_; have HO188 := n1_; have HB := n2_; clear n0_ n1_ n2_; (try clear hb); (try clear hb2); (try clear hk); (try clear hi); (try clear ho0); obtain ⟨Ao6, co6, eo6⟩ := Kd.R_slice HO188.out; subst eo6))
  go_loopg [3, 12] k (fun kq v3 v12 w' => ∃ (x3_1 : List (S61)) (x12_1 : Int), v12 = .int .i64 x12_1 ∧ Aside0 (impl_pulses.l0 kq a0 x3_1 t186 (t186.length : Int) x12_1 = some r) ∧ Aside0 (kq ≤ k) ∧ Aside0 (Kd.R k61 61 w' w.heap.size (fun _ => True) v3 x3_1) ∧ Aside0 (Kd.R (Kd.int .i64) 2 w' w.heap.size (fun _ => True) (.slice Ao6 t186.length co6) t186) ∧ Aside0 (Below w.heap.size w w'))
  case atStart => exact ⟨(y183), (0), (by first | rfl | (simp; done) | (simp [*]; done)), H', ⟨Nat.le_refl _⟩, ⟨by (with_reducible repeat (first | apply Kd.R_alloc | apply Kd.R_drewN | apply Kd.R_drew)); exact HO185.out⟩, ⟨by (with_reducible repeat (first | apply Kd.R_alloc | apply Kd.R_drewN | apply Kd.R_drew)); exact HO188.out⟩, ⟨by repeat (first | (with_reducible first | exact HB.out | apply below_alloc | apply pw_below_drewN | apply below_drew1) | exact HB.out)⟩⟩
  case round =>
    clear H'
    try clear p2
    try clear c4
    try clear c5
    obtain ⟨x3_1, x12_1, rfl, HA, HK1, HO_3, HO_10, HB⟩ := hrel
    cases gk with
    | zero => exact absurd HA.out (by simp [impl_pulses.l0])
    | succ k1 =>
      have H := HA.out
      clear HA
      simp only [impl_pulses.l0] at H
      by_cases c7 : x12_1 < (t186.length : Int)
      · rw [if_pos c7] at H
        have c7b0 : decide (x12_1 < (t186.length : Int)) = true := decide_eq_true c7
        clear c7
        by_cases c8 : 0 ≤ x12_1
        · rw [if_pos c8] at H
          have c8b0 : decide (0 ≤ x12_1) = true := decide_eq_true c8
          clear c8
          by_cases c9 : x12_1 < (t186.length : Int)
          · rw [if_pos c9] at H
            have c9b0 : decide (x12_1 < (t186.length : Int)) = true := decide_eq_true c9
            clear c9
            have H' := Aside0.mk H
            clear H
            have p189 : 0 ≤ (x12_1 : Int) := of_decide_eq_true (by first | (with_reducible assumption) | assumption)
            have q189 : x12_1 < (t186.length : Int) := of_decide_eq_true (by first | (with_reducible assumption) | assumption)
            obtain ⟨ad189, e189, hx189_0⟩ := Kd.at_int (Kd.R_reads' HO_10.out).2.2 x12_1 p189 q189
            cases e189
            replace p189 := eq_true p189
            replace q189 := eq_true q189
            go_wp2
            go_loopg [6, 7] k1 (fun kq v6 v7 w' => ∃ (x6_2 : Int) (x7_2 : Int), v6 = .int .i64 x6_2 ∧ v7 = .int .i64 x7_2 ∧ Aside0 (impl_pulses.l1 kq a0 x3_1 (rd t186 x12_1) x6_2 x7_2 t186 (t186.length : Int) x12_1 = some r) ∧ Aside0 (kq ≤ k1) ∧ Aside0 (Kd.R k61 61 w' w.heap.size (fun _ => True) u3 x3_1) ∧ Aside0 (Kd.R (Kd.int .i64) 2 w' w.heap.size (fun _ => True) (.slice (some ad189) t186.length co6) t186) ∧ Aside0 (Below w.heap.size w w'))
            case atStart => exact ⟨(0), (rd t186 x12_1), (by first | rfl | (simp; done) | (simp [*]; done)), (by first | rfl | (simp; done) | (simp [*]; done)), H', ⟨Nat.le_refl _⟩, ⟨by (with_reducible repeat (first | apply Kd.R_alloc | apply Kd.R_drewN | apply Kd.R_drew)); exact HO_3.out⟩, ⟨by (with_reducible repeat (first | apply Kd.R_alloc | apply Kd.R_drewN | apply Kd.R_drew)); exact HO_10.out⟩, ⟨by repeat (first | (with_reducible first | exact HB.out | apply below_alloc | apply pw_below_drewN | apply below_drew1) | exact HB.out)⟩⟩
            case round =>
              clear H'
              try clear p1
              try clear q1
              try clear hx1
              try clear p2
              try clear c4
              try clear c5
              try clear c7
              try clear c7b0
              try clear c8
              try clear c8b0
              try clear c9
              try clear c9b0
              try clear hx189_0
              try clear p189
              try clear p2
              try clear q189
              obtain ⟨x6_2, x7_2, rfl, rfl, HA, HK2, HO_3, HO_10, HB⟩ := hrel
              cases gk with
              | zero => exact absurd HA.out (by simp [impl_pulses.l1])
              | succ k2 =>
                have H := HA.out
                clear HA
                simp only [impl_pulses.l1] at H
                by_cases c10 : x7_2 < (a0.size : Int)
                · rw [if_pos c10] at H
                  have c10b0 : decide (x7_2 < (a0.size : Int)) = true := decide_eq_true c10
                  clear c10
                  by_cases c11 : 0 ≤ x7_2
                  · rw [if_pos c11] at H
                    have c11b0 : decide (0 ≤ x7_2) = true := decide_eq_true c11
                    clear c11
                    by_cases c13 : (bt a0 x7_2) = 49
                    · rw [if_pos c13] at H
                      have c13b0 : ((bt a0 x7_2) == 49) = true := beq_iff_eq.mpr c13
                      have c13b1 : ((bt a0 x7_2) != 49) = false := bne_eq_false_iff_eq.mpr c13
                      clear c13
                      have H' := Aside0.mk H
                      clear H
                      have p12 : 0 ≤ (x7_2 : Int) := of_decide_eq_true (by first | (with_reducible assumption) | assumption)
                      have q12 : x7_2 < (a0.size : Int) := of_decide_eq_true (by first | (with_reducible assumption) | assumption)
                      have hx12 := bt_at a0 x7_2
                      replace p12 := eq_true p12
                      replace q12 := eq_true q12
                      go_wp2
                      go_roundg k2
                      case measure => have := HK1.out; have := HK2.out; omega
                      case rel => exact ⟨(wrap64 (x6_2 + 1)), (wrap64 (x7_2 + 1)), (by first | rfl | (simp; done) | (simp [*]; done)), (by first | rfl | (simp; done) | (simp [*]; done)), H', ⟨by have := HK1.out; have := HK2.out; omega⟩, ⟨by (with_reducible repeat (first | apply Kd.R_alloc | apply Kd.R_drewN | apply Kd.R_drew)); exact HO_3.out⟩, ⟨by (with_reducible repeat (first | apply Kd.R_alloc | apply Kd.R_drewN | apply Kd.R_drew)); exact HO_10.out⟩, ⟨by repeat (first | (with_reducible first | exact HB.out | apply below_alloc | apply pw_below_drewN | apply below_drew1) | exact HB.out)⟩⟩
                    · rw [if_neg c13] at H
                      have c13b0 : ((bt a0 x7_2) == 49) = false := beq_eq_false_iff_ne.mpr c13
                      have c13b1 : ((bt a0 x7_2) != 49) = true := bne_iff_ne.mpr c13
                      by_cases c14 : x3_1.length < 8796093022208
                      · rw [if_pos c14] at H
                        have LMc14 := Aside0.mk c14
                        clear c14
                        obtain ⟨y190, hy190⟩ : ∃ y_ : List (S61), y_ = (x3_1 ++ [(⟨(rd t186 x12_1), x6_2⟩ : S61)]) := ⟨_, rfl⟩
                        replace H : (impl_pulses.l0 k2 a0 y190 t186 (t186.length : Int) (wrap64 (x12_1 + 1))) = some r := by first | (rw [hy190]; with_reducible exact H) | (have H2_ := (Option.bind_some _ _).symm.trans H; rw [hy190]; with_reducible exact H2_) | (have H2_ := (Option.bind_some _ _).symm.trans H; with_reducible exact H2_) | with_reducible exact H | (rw [hy190]; exact H) | exact H
                        have Ny190 := Aside0.mk hy190
                        clear hy190
                        have H' := Aside0.mk H
                        clear H
                        have p12 : 0 ≤ (x7_2 : Int) := of_decide_eq_true (by first | (with_reducible assumption) | assumption)
                        have q12 : x7_2 < (a0.size : Int) := of_decide_eq_true (by first | (with_reducible assumption) | assumption)
                        have hx12 := bt_at a0 x7_2
                        replace p12 := eq_true p12
                        replace q12 := eq_true q12
                        go_wp2_with (first | ((with_reducible refine gate_builtin (b := .append) (xs := #[.tmp 31, .tmp 35]) rfl ?_); at_builtin; refine Kd.R_append k61 (w0 := w) w.heap.size rfl (.tmp 31) (.tmp 35) 58 61 (.agg #[(.int .i64 0), (.int .i64 0)]) 16 rfl Tryd.underlying58 info61 rfl (by decide) (by omega) u3 x3_1 (⟨(rd t186 x12_1), x6_2⟩ : S61) [.int .i64 (rd t186 x12_1), .int .i64 x6_2] (fun _ => True) (fun _ => False) rfl rfl ?aP (fun _ hk => hk.elim) ?aF ?aO ?aB ?aS ?aL ?_; (case aP => exact k61_mkM _ _ _ (⟨(rd t186 x12_1), x6_2⟩ : S61)); (case aB => exact (by repeat (first | (with_reducible first | exact HB.out | apply below_alloc | apply pw_below_drewN | apply below_drew1) | exact HB.out))); (case aF => exact (fun _ _ => trivial)); (case aO => exact (by (with_reducible repeat (first | apply Kd.R_alloc | apply Kd.R_drewN | apply Kd.R_drew)); exact HO_3.out)); (case aS => exact (below_size (by repeat (first | (with_reducible first | exact HB.out | apply below_alloc | apply pw_below_drewN | apply below_drew1) | exact HB.out)))); (case aL => have := LMc14.out; omega); intro v191 w15 ho hb hg hat; rw [← Ny190.out] at ho; have n0_ := Aside0.mk (Kd.R_over' (by (with_reducible repeat (first | apply Kd.R_alloc | apply Kd.R_drewN | apply Kd.R_drew)); exact HO_10.out) (Kd.R_typed (by (with_reducible repeat (first | apply Kd.R_alloc | apply Kd.R_drewN | apply Kd.R_drew)); exact HO_3.out)) (by decide) hg); have n1_ := Aside0.mk (hb); have n2_ := Aside0.mk (ho); clear HO_10; clear HB; clear HO_3; have HO_10 := n0_; have HB := n1_; have HO192 := n2_; clear n0_ n1_ n2_; clear ho hb hg hat))
                        go_roundg k2
                        case measure => have := HK1.out; have := HK2.out; omega
                        case rel => exact ⟨(y190), (wrap64 (x12_1 + 1)), (by first | rfl | (simp; done) | (simp [*]; done)), H', ⟨by have := HK1.out; have := HK2.out; omega⟩, ⟨by (with_reducible repeat (first | apply Kd.R_alloc | apply Kd.R_drewN | apply Kd.R_drew)); exact HO192.out⟩, ⟨by (with_reducible repeat (first | apply Kd.R_alloc | apply Kd.R_drewN | apply Kd.R_drew)); exact HO_10.out⟩, ⟨by repeat (first | (with_reducible first | exact HB.out | apply below_alloc | apply pw_below_drewN | apply below_drew1) | exact HB.out)⟩⟩
                      · rw [if_neg c14] at H
                        exact absurd H (by simp)
                  · rw [if_neg c11] at H
                    exact absurd H (by simp)
                · rw [if_neg c10] at H
                  have c10b0 : decide (x7_2 < (a0.size : Int)) = false := decide_eq_false c10
                  clear c10
                  by_cases c16 : x3_1.length < 8796093022208
                  · rw [if_pos c16] at H
                    have LMc16 := Aside0.mk c16
                    clear c16
                    obtain ⟨y193, hy193⟩ : ∃ y_ : List (S61), y_ = (x3_1 ++ [(⟨(rd t186 x12_1), x6_2⟩ : S61)]) := ⟨_, rfl⟩
                    replace H : (impl_pulses.l0 k2 a0 y193 t186 (t186.length : Int) (wrap64 (x12_1 + 1))) = some r := by first | (rw [hy193]; with_reducible exact H) | (have H2_ := (Option.bind_some _ _).symm.trans H; rw [hy193]; with_reducible exact H2_) | (have H2_ := (Option.bind_some _ _).symm.trans H; with_reducible exact H2_) | with_reducible exact H | (rw [hy193]; exact H) | exact H
                    have Ny193 := Aside0.mk hy193
                    clear hy193
                    have H' := Aside0.mk H
                    clear H
                    go_wp2_with (first | ((with_reducible refine gate_builtin (b := .append) (xs := #[.tmp 31, .tmp 35]) rfl ?_); at_builtin; refine Kd.R_append k61 (w0 := w) w.heap.size rfl (.tmp 31) (.tmp 35) 58 61 (.agg #[(.int .i64 0), (.int .i64 0)]) 16 rfl Tryd.underlying58 info61 rfl (by decide) (by omega) u3 x3_1 (⟨(rd t186 x12_1), x6_2⟩ : S61) [.int .i64 (rd t186 x12_1), .int .i64 x6_2] (fun _ => True) (fun _ => False) rfl rfl ?aP (fun _ hk => hk.elim) ?aF ?aO ?aB ?aS ?aL ?_; (case aP => exact k61_mkM _ _ _ (⟨(rd t186 x12_1), x6_2⟩ : S61)); (case aB => exact (by repeat (first | (with_reducible first | exact HB.out | apply below_alloc | apply pw_below_drewN | apply below_drew1) | exact HB.out))); (case aF => exact (fun _ _ => trivial)); (case aO => exact (by (with_reducible repeat (first | apply Kd.R_alloc | apply Kd.R_drewN | apply Kd.R_drew)); exact HO_3.out)); (case aS => exact (below_size (by repeat (first | (with_reducible first | exact HB.out | apply below_alloc | apply pw_below_drewN | apply below_drew1) | exact HB.out)))); (case aL => have := LMc16.out; omega); intro v194 w17 ho hb hg hat; rw [← Ny193.out] at ho; have n0_ := Aside0.mk (Kd.R_over' (by (with_reducible repeat (first | apply Kd.R_alloc | apply Kd.R_drewN | apply Kd.R_drew)); exact HO_10.out) (Kd.R_typed (by (with_reducible repeat (first | apply Kd.R_alloc | apply Kd.R_drewN | apply Kd.R_drew)); exact HO_3.out)) (by decide) hg); have n1_ := Aside0.mk (hb); have n2_ := Aside0.mk (ho); clear HO_10; clear HB; clear HO_3; have HO_10 := n0_; have HB := n1_; have HO195 := n2_; clear n0_ n1_ n2_; clear ho hb hg hat))
                    go_roundg k2
                    case measure => have := HK1.out; have := HK2.out; omega
                    case rel => exact ⟨(y193), (wrap64 (x12_1 + 1)), (by first | rfl | (simp; done) | (simp [*]; done)), H', ⟨by have := HK1.out; have := HK2.out; omega⟩, ⟨by (with_reducible repeat (first | apply Kd.R_alloc | apply Kd.R_drewN | apply Kd.R_drew)); exact HO195.out⟩, ⟨by (with_reducible repeat (first | apply Kd.R_alloc | apply Kd.R_drewN | apply Kd.R_drew)); exact HO_10.out⟩, ⟨by repeat (first | (with_reducible first | exact HB.out | apply below_alloc | apply pw_below_drewN | apply below_drew1) | exact HB.out)⟩⟩
                  · rw [if_neg c16] at H
                    exact absurd H (by simp)
          · rw [if_neg c9] at H
            exact absurd H (by simp)
        · rw [if_neg c8] at H
          exact absurd H (by simp)
      · rw [if_neg c7] at H
        have c7b0 : decide (x12_1 < (t186.length : Int)) = false := decide_eq_false c7
        clear c7
        obtain rfl := Option.some.inj H
        go_wp2
        go_ret
        exact ⟨_, by first | rfl | (simp [errW_none, errW_some] <;> rfl) | (simp [*, errW_none, errW_some] <;> rfl), by (with_reducible repeat (first | apply Kd.R_alloc | apply Kd.R_drewN | apply Kd.R_drew)); exact HO_3.out, by repeat (first | (with_reducible first | exact HB.out | apply below_alloc | apply pw_below_drewN | apply below_drew1) | exact HB.out)⟩
end Go.Proofs.YthkpnbelbaljdaaDoor.X
-- Written by a program of this session out of the kit's print of the loaded functions: a plain function of a Go function, and its contract.
namespace Go.Proofs.YthkpnbelbaljdaaDoor.X
open Go.RowKit Go.Proofs.YthkpnbelbaljdaaDoorW.PrintWords Go.Proofs.YthkpnbelbaljdaaDoorW.PrintLast Go.Proofs.YthkpnbelbaljdaaDoorW.PrintMore
attribute [local go_sem] max2_int min2_int max_two min_two max_three min_three max_four min_four   -- for this text's walks alone
set_option linter.unusedVariables false
set_option linter.unusedSimpArgs false
end Go.Proofs.YthkpnbelbaljdaaDoor.X
namespace Go.Proofs.YthkpnbelbaljdaaDoor.X
open Go.RowKit Go.Proofs.YthkpnbelbaljdaaDoorW.PrintWords Go.Proofs.YthkpnbelbaljdaaDoorW.PrintLast Go.Proofs.YthkpnbelbaljdaaDoorW.PrintMore
set_option linter.unusedVariables false
set_option linter.unusedSimpArgs false
def Run (s : ByteArray) (u d : Int) : Prop := ∃ a b : Nat, u = a ∧ d = b ∧ a < b ∧ b ≤ s.size ∧ (∀ j : Nat, a ≤ j → j < b → bt s (j : Int) = 49) ∧ (b < s.size → bt s (b : Int) = 48)
def Runs (s : ByteArray) : List Int → List Int → Prop
  | [], [] => True
  | u :: us, d :: ds => Run s u d ∧ Runs s us ds
  | _, _ => False
theorem Runs.len {s : ByteArray} : ∀ {us ds : List Int}, Runs s us ds → us.length = ds.length
  | [], [], _ => rfl
  | _ :: _, _ :: _, h => by simp [Runs.len h.2]
  | [], _ :: _, h => h.elim
  | _ :: _, [], h => h.elim
theorem Runs.snoc {s : ByteArray} {u d : Int} (hr : Run s u d) : ∀ {us ds : List Int}, Runs s us ds → Runs s (us ++ [u]) (ds ++ [d])
  | [], [], _ => ⟨hr, trivial⟩
  | _ :: _, _ :: _, h => ⟨h.1, Runs.snoc hr h.2⟩
  | [], _ :: _, h => h.elim
  | _ :: _, [], h => h.elim
theorem runs_at (s : ByteArray) (hL : Lev s) : ∀ n : Nat, n ≤ s.size → (prv s n = 48 ∧ Runs s (edg s 49 n) (edg s 48 n)) ∨
    (prv s n = 49 ∧ ∃ (us : List Int) (a : Nat), edg s 49 n = us ++ [(a : Int)] ∧ Runs s us (edg s 48 n) ∧ a < n ∧ ∀ j : Nat, a ≤ j → j < n → bt s (j : Int) = 49)
  | 0, _ => .inl ⟨rfl, trivial⟩
  | n + 1, hn => by
    rw [prv_succ, edg_succ, edg_succ]
    rcases runs_at s hL n (by omega) with ⟨hp, hr⟩ | ⟨hp, us, a, he, hr, ha, hj⟩
    · rcases hL n (by omega) with hb | hb
      · have e1 : isE s 49 n = false := by unfold isE; rw [hb]; rfl
        have e2 : isE s 48 n = false := by unfold isE; rw [hb, hp]; rfl
        rw [e1, e2]; exact .inl ⟨hb, hr⟩
      · have e1 : isE s 49 n = true := by unfold isE; rw [hb, hp]; rfl
        have e2 : isE s 48 n = false := by unfold isE; rw [hb]; rfl
        rw [e1, e2]
        exact .inr ⟨hb, _, n, rfl, hr, by omega, fun j h1 h2 => by
          have : j = n := by omega
          rw [this]; exact hb⟩
    · rcases hL n (by omega) with hb | hb
      · have e1 : isE s 49 n = false := by unfold isE; rw [hb]; rfl
        have e2 : isE s 48 n = true := by unfold isE; rw [hb, hp]; rfl
        rw [e1, e2]
        refine .inl ⟨hb, ?_⟩
        rw [if_neg (by decide), if_pos rfl, he]
        exact Runs.snoc ⟨a, n, rfl, rfl, ha, by omega, hj, fun _ => hb⟩ hr
      · have e1 : isE s 49 n = false := by unfold isE; rw [hb, hp]; rfl
        have e2 : isE s 48 n = false := by unfold isE; rw [hb]; rfl
        rw [e1, e2]
        refine .inr ⟨hb, us, a, he, hr, by omega, fun j h1 h2 => ?_⟩
        rcases Nat.lt_or_ge j n with h | h
        · exact hj j h1 h
        · have : j = n := by omega
          rw [this]; exact hb
def dns (s : ByteArray) : List Int := if (edg s 48 s.size).length < (edg s 49 s.size).length then edg s 48 s.size ++ [(s.size : Int)] else edg s 48 s.size
theorem runs_all (s : ByteArray) (hL : Lev s) : Runs s (edg s 49 s.size) (dns s) := by
  unfold dns
  rcases runs_at s hL s.size (Nat.le_refl _) with ⟨_, hr⟩ | ⟨_, us, a, he, hr, ha, hj⟩
  · rw [if_neg (by rw [hr.len]; omega)]; exact hr
  · have hl := hr.len
    rw [if_pos (by rw [he, ← hl]; simp), he]
    exact Runs.snoc ⟨a, s.size, rfl, rfl, ha, Nat.le_refl _, hj, fun h => absurd h (by omega)⟩ hr
def pz (us ds : List Int) : List S61 := List.zipWith (fun u d => (⟨u, d - u⟩ : S61)) us ds
theorem rd_mid (pre post : List Int) (x : Int) : rd (pre ++ x :: post) (pre.length : Int) = x := by
  rw [rd_nat _ _ (by simp)]; simp
theorem pulse_in (s : ByteArray) (hs : s.size ≤ 400) (out : List S61) (ho : out.length ≤ 1000) (a b : Nat) (l : List Int) (n : Int) (i : Nat) (hi : i ≤ 1000) (hab : b ≤ s.size) (hall : ∀ j : Nat, a ≤ j → j < b → bt s (j : Int) = 49) (hend : b < s.size → bt s (b : Int) = 48)
    (K : Nat) (v : Option (List S61)) (hv : ∀ k, K < k → impl_pulses.l0 k s (out ++ [(⟨(a : Int), (b : Int) - a⟩ : S61)]) l n ((i : Int) + 1) = v) : ∀ (d m k : Nat), a + m + d = b → K + d + 1 < k →
    impl_pulses.l1 k s out a m ((a : Int) + m) l n i = v
  | 0, m, k, hm, hk => by
    cases k with
    | zero => omega
    | succ k =>
      have e1 : (⟨(a : Int), (m : Int)⟩ : S61) = ⟨(a : Int), (b : Int) - a⟩ := by congr 1; omega
      have hv2 := hv k (by omega)
      rw [impl_pulses.l1, w64 (n := (i : Int) + 1) (by omega) (by omega), e1, if_pos (show out.length < 8796093022208 by omega)]
      by_cases h : (a : Int) + m < s.size
      · have hb := hend (by omega)
        rw [show (b : Int) = (a : Int) + m by omega] at hb
        rw [if_pos h, if_pos (by omega), hb, if_neg (by decide)]
        exact hv2
      · rw [if_neg h]; exact hv2
  | d + 1, m, k, hm, hk => by
    cases k with
    | zero => omega
    | succ k =>
      have hb := hall (a + m) (by omega) (by omega)
      rw [Int.natCast_add] at hb
      have ih := pulse_in s hs out ho a b l n i hi hab hall hend K v hv d (m + 1) k (by omega) (by omega)
      rw [impl_pulses.l1, if_pos (by omega), if_pos (by omega), hb, if_pos rfl, w64 (n := (m : Int) + 1) (by omega) (by omega), w64 (n := (a : Int) + m + 1) (by omega) (by omega)]
      rw [Int.natCast_add, Int.natCast_one, ← Int.add_assoc] at ih
      exact ih
theorem pulse_out (s : ByteArray) (hs : s.size ≤ 400) : ∀ (us ds pre : List Int) (out : List S61), Runs s us ds → out.length = pre.length → pre.length + us.length ≤ 400 →
    ∀ k, 500 * us.length + 1 < k → impl_pulses.l0 k s out (pre ++ us) ((pre ++ us).length : Int) (pre.length : Int) = some (out ++ pz us ds)
  | [], [], pre, out, _, ho, hl, k, hk => by
    cases k with
    | zero => omega
    | succ k => rw [impl_pulses.l0, if_neg (by simp)]; simp [pz]
  | u :: us, d :: ds, pre, out, hr, ho, hl, k, hk => by
    obtain ⟨⟨a, b, rfl, rfl, hab, hbs, hall, hend⟩, hr2⟩ := hr
    simp only [List.length_cons] at hl hk
    have key : ∀ k, 500 * us.length + 1 < k → impl_pulses.l0 k s (out ++ [(⟨(a : Int), (b : Int) - a⟩ : S61)]) (pre ++ (a : Int) :: us) ((pre ++ (a : Int) :: us).length : Int) ((pre.length : Int) + 1) = some (out ++ pz ((a : Int) :: us) ((b : Int) :: ds)) := by
      intro k hk
      have ih := pulse_out s hs us ds (pre ++ [(a : Int)]) (out ++ [(⟨(a : Int), (b : Int) - a⟩ : S61)]) hr2 (by simp [ho]) (by simp; omega) k hk
      simp only [List.append_assoc, List.singleton_append, List.length_append, List.length_cons, List.length_nil] at ih
      simp only [List.length_append, List.length_cons]
      have e : ((pre.length + (0 + 1) : Nat) : Int) = (pre.length : Int) + 1 := by omega
      rw [e] at ih
      rw [ih]; rfl
    cases k with
    | zero => omega
    | succ k =>
      have h := pulse_in s hs out (by omega) a b (pre ++ (a : Int) :: us) ((pre ++ (a : Int) :: us).length : Int) pre.length (by omega) hbs hall hend (500 * us.length + 1) _ key (b - a) 0 k (by omega) (by omega)
      rw [impl_pulses.l0, if_pos (by simp; omega), if_pos (by omega), if_pos (by simp; omega), rd_mid]
      simpa using h
  | [], _ :: _, _, _, hr, _, _, _, _ => hr.elim
  | _ :: _, [], _, _, hr, _, _, _, _ => hr.elim
theorem pulses_eq (k : Nat) (s : ByteArray) (hs : s.size ≤ 400) (hL : Lev s) (hk : 300000 < k) : impl_pulses.f k s = some (pz (edg s 49 s.size) (dns s)) := by
  unfold impl_pulses.f
  have hl := edg_len s 49 s.size
  rw [changes_eq k s 49 (by omega) (by omega), Option.bind_some]
  have := pulse_out s hs (edg s 49 s.size) (dns s) [] [] (runs_all s hL) rfl (by simp; omega) k (by omega)
  simpa using this
end Go.Proofs.YthkpnbelbaljdaaDoor.X
-- Written by a program of this session out of the kit's print of the loaded functions: a plain function of a Go function, and its contract.
namespace Go.Proofs.YthkpnbelbaljdaaDoor.X
open Go.RowKit Go.Proofs.YthkpnbelbaljdaaDoorW.PrintWords Go.Proofs.YthkpnbelbaljdaaDoorW.PrintLast Go.Proofs.YthkpnbelbaljdaaDoorW.PrintMore
attribute [local go_sem] max2_int min2_int max_two min_two max_three min_three max_four min_four   -- for this text's walks alone
set_option linter.unusedVariables false
set_option linter.unusedSimpArgs false
class C_impl_pulse_86 where
  f : Int → Int → Option Bool
section
variable [C_impl_pulse_86]
end
end Go.Proofs.YthkpnbelbaljdaaDoor.X
namespace Go.Proofs.YthkpnbelbaljdaaDoor.X
open Go.RowKit Go.Proofs.YthkpnbelbaljdaaDoorW.PrintWords Go.Proofs.YthkpnbelbaljdaaDoorW.PrintLast Go.Proofs.YthkpnbelbaljdaaDoorW.PrintMore
set_option linter.unusedVariables false
set_option linter.unusedSimpArgs false
end Go.Proofs.YthkpnbelbaljdaaDoor.X
-- Written by a program of this session out of the kit's print of the loaded functions: a plain function of a Go function, and its contract.
namespace Go.Proofs.YthkpnbelbaljdaaDoor.X
open Go.RowKit Go.Proofs.YthkpnbelbaljdaaDoorW.PrintWords Go.Proofs.YthkpnbelbaljdaaDoorW.PrintLast Go.Proofs.YthkpnbelbaljdaaDoorW.PrintMore
attribute [local go_sem] max2_int min2_int max_two min_two max_three min_three max_four min_four   -- for this text's walks alone
set_option linter.unusedVariables false
set_option linter.unusedSimpArgs false
end Go.Proofs.YthkpnbelbaljdaaDoor.X
end
section
end
section
end
section
namespace Go.Proofs.YthkpnbelbaljdaaDoor.X
open Go.RowKit Go.Proofs.YthkpnbelbaljdaaDoorW.PrintWords Go.Proofs.YthkpnbelbaljdaaDoorW.PrintLast Go.Proofs.YthkpnbelbaljdaaDoorW.PrintMore
set_option linter.unusedVariables false
set_option linter.unusedSimpArgs false
theorem bt_str (xs : List Int) (i : Nat) (hi : i < xs.length) (h0 : 0 ≤ xs[i]) (h1 : xs[i] < 256) : bt (strOfNums xs) (i : Int) = xs[i] := by
  have hs : i < (strOfNums xs).size := by rw [strOfNums_size]; exact hi
  unfold bt
  rw [dif_pos (by simpa using hs)]
  show (((strOfNums xs).data[(i : Int).toNat]'(by simpa using hs)).toNat : Int) = _
  simp only [Int.toNat_natCast]
  have : (strOfNums xs).data[i] = (strOfNums xs).data.toList[i]'(by simpa using hs) := by simp
  rw [this]
  have e : (strOfNums xs).data.toList = xs.map fun n => UInt8.ofNat n.toNat := strOfNums_data xs
  simp only [e, List.getElem_map]
  rw [UInt8.toNat_ofNat']
  omega
theorem lvs_size (lv : Nat → Bool) (n : Nat) : (strOfNums (lvs lv n)).size = n := by rw [strOfNums_size, lvs_len]
theorem lvs_bt' (lv : Nat → Bool) (n i : Nat) (hi : i < n) : bt (strOfNums (lvs lv n)) (i : Int) = if lv i = true then 49 else 48 := by
  have hl : i < (lvs lv n).length := by rw [lvs_len]; exact hi
  have e : (lvs lv n)[i] = if lv i = true then 49 else 48 := by simp [lvs]
  rw [bt_str _ i hl (by rw [e]; split <;> omega) (by rw [e]; split <;> omega), e]
theorem lvs_lev' (lv : Nat → Bool) (n : Nat) : Lev (strOfNums (lvs lv n)) := by
  intro i hi
  rw [lvs_size] at hi
  rw [lvs_bt' lv n i hi]
  cases lv i
  · exact .inl rfl
  · exact .inr rfl
end Go.Proofs.YthkpnbelbaljdaaDoor.X
end
section
end
section
end
section
namespace Go.Proofs.YthkpnbelbaljdaaDoor.X
open Go.RowKit Go.Proofs.YthkpnbelbaljdaaDoorW.PrintWords Go.Proofs.YthkpnbelbaljdaaDoorW.PrintLast Go.Proofs.YthkpnbelbaljdaaDoorW.PrintMore
set_option linter.unusedVariables false
set_option linter.unusedSimpArgs false
def BRow (w : World) (g : Nat) (l : List Int) : Prop := ∃ (cs : Array Value) (e : TypeId) (lo hi : Nat), w.heap[g]? = some (.cells cs e (lo, hi)) ∧ (l.length ≤ lo ∨ hi = 0) ∧ l.length ≤ cs.size ∧ ∀ j, j < l.length → cs[j]? = some (.int .u8 (l.getD j 0))
theorem BRow.lt {w : World} {g : Nat} {l : List Int} (h : BRow w g l) : g < w.heap.size := by
  obtain ⟨cs, e, lo, hi, hb, _⟩ := h
  exact blk_lt hb
theorem BRow.cell {w : World} {g : Nat} {l : List Int} (h : BRow w g l) (j : Nat) (hj : j < l.length) : w.cell? ⟨g, j, none⟩ = some (.int .u8 (l.getD j 0)) := by
  obtain ⟨cs, e, lo, hi, hb, _, _, hc⟩ := h
  simp [World.cell?, hb, hc j hj]
theorem BRow.free {w : World} {g : Nat} {l : List Int} (h : BRow w g l) (j : Nat) (hj : j < l.length) : w.frozen? ⟨g, j, none⟩ = false := by
  obtain ⟨cs, e, lo, hi, hb, hm, hl, _⟩ := h
  simp [World.frozen?, hb]
  omega
theorem BRow.put {w : World} {g : Nat} {l : List Int} (h : BRow w g l) (j : Nat) (hj : j < l.length) (x : Int) : BRow (w.setCell ⟨g, j, none⟩ (.int .u8 x)) g (l.set j x) := by
  obtain ⟨cs, e, lo, hi, hb, hm, hl, hc⟩ := h
  refine ⟨cs.setIfInBounds j (.int .u8 x), e, lo, hi, ?_, by simpa using hm, by simpa using hl, fun i hi2 => ?_⟩
  · simp [World.setCell, Array.getElem?_modify, hb]
  · have hi3 : i < l.length := by simpa using hi2
    rw [Array.getElem?_setIfInBounds]
    by_cases hij : j = i
    · subst hij
      rw [if_pos rfl, if_pos (by omega)]
      simp [List.getD_eq_getElem?_getD, hi3]
    · rw [if_neg hij, hc i hi3]
      simp [List.getD_eq_getElem?_getD, List.getElem?_set, hij]
theorem BRow.move {w w1 : World} {g : Nat} {l : List Int} (h : BRow w g l) (hm : w1.heap[g]? = w.heap[g]?) : BRow w1 g l := by
  obtain ⟨cs, e, lo, hi, hb, r⟩ := h
  exact ⟨cs, e, lo, hi, hm.trans hb, r⟩
theorem BRow.below {w w1 : World} {g : Nat} {l : List Int} (h : BRow w g l) (hb : Below w.heap.size w w1) : BRow w1 g l := h.move (hb.block g h.lt)
theorem BRow.far {w : World} {g : Nat} {l : List Int} (h : BRow w g l) {p : Addr} (hp : g ≠ p.block) (u : Value) : BRow (w.setCell p u) g l := h.move (Below.heap_setCell w p u g hp)
theorem BRow.of_bytes (W : World) (e : TypeId) (s : ByteArray) : BRow (Lib.bytesWorld W e s) W.heap.size (bytesOf s) := by
  have hsz : (bytesOf s).length ≤ (Lib.bytesCells W e s).size := by
    rw [bytesOf_length]
    simp [Lib.bytesCells]
  refine ⟨Lib.bytesCells W e s, e, (Lib.bytesCells W e s).size, (Lib.bytesCells W e s).size + 1, Lib.bytesWorld_at_new W e s, .inl hsz, hsz, fun j hj => ?_⟩
  rw [bytesOf_length] at hj
  have h := Lib.bytesWorld_cell W e s j hj
  simp only [World.cell?, Lib.bytesWorld_at_new] at h
  rw [if_neg (by simp)] at h
  rw [h]
  have h' : j < s.data.toList.length := by rw [data_length]; exact hj
  simp [bytesOf, List.getD_eq_getElem?_getD, List.getElem?_eq_getElem h']
theorem BRow.string {P : Program} {w : World} {g : Nat} {l : List Int} (h : BRow w g l) {src dst e : TypeId} (hs : P.underlying src = some (.slice e)) (he : P.underlying e = some (.int .u8)) (hd : P.underlying dst = some .string) (cap : Nat) :
    (convert src dst (.slice (some ⟨g, 0, none⟩) l.length cap)).run P w = .ok (.string (strOfNums l)) w :=
  run_convert_bytes_arg w src e hs he g 0 l.length cap l rfl (fun i hi => by rw [Nat.zero_add]; exact h.cell i hi) dst hd
def fillN (l : List Int) (a : Nat) (v : Int) : Nat → List Int
  | 0 => l
  | n + 1 => (fillN l a v n).set (a + n) v
theorem fillN_len (l : List Int) (a : Nat) (v : Int) : ∀ n, (fillN l a v n).length = l.length
  | 0 => rfl
  | n + 1 => by rw [fillN, List.length_set, fillN_len l a v n]
theorem fillN_get (l : List Int) (a : Nat) (v : Int) (j : Nat) : ∀ n, a + n ≤ l.length → (fillN l a v n)[j]? = if a ≤ j ∧ j < a + n then some v else l[j]?
  | 0, _ => by rw [if_neg (by omega)]; rfl
  | n + 1, h => by
    rw [fillN, List.getElem?_set, fillN_len]
    have ih := fillN_get l a v j n (by omega)
    by_cases e : a + n = j
    · rw [if_pos e, if_pos (by omega), if_pos (by omega)]
    · rw [if_neg e, ih]
      by_cases c : a ≤ j ∧ j < a + n
      · rw [if_pos c, if_pos (by omega)]
      · rw [if_neg c, if_neg (by omega)]
end Go.Proofs.YthkpnbelbaljdaaDoor.X
end
section
end
section
end
section
end
section
-- Written by a program of this session out of the kit's print of the loaded functions: a plain function of a Go function, and its contract.
namespace Go.Proofs.YthkpnbelbaljdaaDoor.X
open Go.RowKit Go.Proofs.YthkpnbelbaljdaaDoorW.PrintWords Go.Proofs.YthkpnbelbaljdaaDoorW.PrintLast Go.Proofs.YthkpnbelbaljdaaDoorW.PrintMore
attribute [local go_sem] max2_int min2_int max_two min_two max_three min_three max_four min_four   -- for this text's walks alone
set_option linter.unusedVariables false
set_option linter.unusedSimpArgs false
def impl_isFilter.f (a0 : ByteArray) (a1 : Int) : Option (Bool) := (impl_IsWave.f a0).bind fun t471 => (if t471 = true then ((impl_within.f a1 1 50).bind fun t472 => (some t472)) else (some false))
set_option maxHeartbeats 8000000 in
set_option maxRecDepth 100000 in
theorem impl_isFilter.calls (a0 : ByteArray) (a1 : Int) (r : Bool) (w : World) (h : impl_isFilter.f a0 a1 = some r) :
  Calls Tryd.prog 71 #[.string a0, .int .i64 a1] w fun e w' => e = .returned (.bool r) ∧ Below w.heap.size w w' := by
 have HB := Aside0.mk (Below.refl w.heap.size w)
 have H : ((impl_IsWave.f a0).bind fun t471 => (if t471 = true then ((impl_within.f a1 1 50).bind fun t472 => (some t472)) else (some false))) = some r := h
 clear h
 replace H := Option.bind_eq_some_iff.mp H
 obtain ⟨t471, A30, H⟩ := H
 replace H : (if t471 = true then ((impl_within.f a1 1 50).bind fun t472 => (some t472)) else (some false)) = some r := H
 have A3 := Aside0.mk A30
 clear A30
 by_cases c4 : t471 = true
 ·subst c4
  have H1 : ((impl_within.f a1 1 50).bind fun t472 => (some t472)) = some r := by rw [if_pos rfl] at H; exact H
  clear H
  have H := H1
  clear H1
  replace H := Option.bind_eq_some_iff.mp H
  obtain ⟨t472, A50, H⟩ := H
  replace H : (some t472) = some r := H
  have A5 := Aside0.mk A50
  clear A50
  obtain rfl := Option.some.inj H
  go_enter Tryd.func71, Tryd.ntmps71
  go_wp2_with (first | ((with_reducible refine gate_callee (f := 69) rfl ?_); refine goesL_ (some 6) rfl rfl Tryd.func69 (by kernel_rfl) rfl #[.string a0] rfl (by (try simp only [List.map_toArray, List.map_cons, List.map_nil]); first | done | rfl | (simp only [List.length_drop, List.length_take]; rfl)) ?_; (with_reducible refine (impl_IsWave.calls a0 true _ A3.out).mono ?_); rintro e w6 ⟨rfl, hb⟩; refine ⟨_, rfl, ?_⟩; have n0_ := Aside0.mk (below_step (by repeat (first | (with_reducible first | exact HB.out | apply below_alloc | apply pw_below_drewN | apply below_drew1) | exact HB.out)) hb); clear HB; have HB := n0_; clear n0_; (try clear hb); (try clear hb2); (try clear hk); (try clear hi)) | (go_at_call 48; (with_reducible refine (impl_within.calls a1 1 50 t472 _ A5.out).mono ?_); rintro e w' ⟨rfl, ⟨nd, rfl⟩⟩))
  go_ret
  exact ⟨by first | rfl | (simp [errW_none, errW_some] <;> rfl) | (simp [*, errW_none, errW_some] <;> rfl), by repeat (first | (with_reducible first | exact HB.out | apply below_alloc | apply pw_below_drewN | apply below_drew1) | exact HB.out)⟩
 ·replace c4 := Bool.eq_false_iff.mpr c4
  subst c4
  have H1 : (some false) = some r := by rw [if_neg (show ¬ (false = true) by decide)] at H; exact H
  clear H
  have H := H1
  clear H1
  obtain rfl := Option.some.inj H
  go_enter Tryd.func71, Tryd.ntmps71
  go_wp2_with (first | ((with_reducible refine gate_callee (f := 69) rfl ?_); refine goesL_ (some 6) rfl rfl Tryd.func69 (by kernel_rfl) rfl #[.string a0] rfl (by (try simp only [List.map_toArray, List.map_cons, List.map_nil]); first | done | rfl | (simp only [List.length_drop, List.length_take]; rfl)) ?_; (with_reducible refine (impl_IsWave.calls a0 false _ A3.out).mono ?_); rintro e w7 ⟨rfl, hb⟩; refine ⟨_, rfl, ?_⟩; have n0_ := Aside0.mk (below_step (by repeat (first | (with_reducible first | exact HB.out | apply below_alloc | apply pw_below_drewN | apply below_drew1) | exact HB.out)) hb); clear HB; have HB := n0_; clear n0_; (try clear hb); (try clear hb2); (try clear hk); (try clear hi)))
  go_ret
  exact ⟨by first | rfl | (simp [errW_none, errW_some] <;> rfl) | (simp [*, errW_none, errW_some] <;> rfl), by repeat (first | (with_reducible first | exact HB.out | apply below_alloc | apply pw_below_drewN | apply below_drew1) | exact HB.out)⟩
end Go.Proofs.YthkpnbelbaljdaaDoor.X
end
section
namespace Go.Proofs.YthkpnbelbaljdaaDoor.X
open Go.RowKit Go.Proofs.YthkpnbelbaljdaaDoorW.PrintWords Go.Proofs.YthkpnbelbaljdaaDoorW.PrintLast Go.Proofs.YthkpnbelbaljdaaDoorW.PrintMore
set_option linter.unusedVariables false
set_option linter.unusedSimpArgs false
theorem isFilter_true {s : ByteArray} {a : Int} (h : impl_isFilter.f s a = some true) : s.size ≤ 400 ∧ Lev s ∧ 1 ≤ a ∧ a ≤ 50 := by
  unfold impl_isFilter.f impl_IsWave.f at h
  by_cases hs : s.size ≤ 9223372036854775807
  · rw [if_pos (by omega), Option.bind_some] at h
    cases hw : isW s
    · rw [hw, if_neg (by decide)] at h; cases h
    · rw [hw, if_pos rfl, within_eq, Option.bind_some] at h
      have h2 := of_decide_eq_true (Option.some.inj h)
      exact ⟨((isW_iff s).1 hw).1, ((isW_iff s).1 hw).2, h2⟩
  · rw [if_neg (by omega)] at h; cases h
end Go.Proofs.YthkpnbelbaljdaaDoor.X
end
section
namespace Go.Proofs.YthkpnbelbaljdaaDoor.X
open Go.RowKit Go.Proofs.YthkpnbelbaljdaaDoorW.PrintWords Go.Proofs.YthkpnbelbaljdaaDoorW.PrintLast Go.Proofs.YthkpnbelbaljdaaDoorW.PrintMore
set_option linter.unusedVariables false
set_option linter.unusedSimpArgs false
def dropS (t : Int) (l : List Int) (p : S61) : List Int := if p.f1 < t then fillN l p.f0.toNat 48 p.f1.toNat else l
def dropL (t : Int) (l : List Int) (ps : List S61) : List Int := ps.foldl (dropS t) l
theorem dropS_len (t : Int) (l : List Int) (p : S61) : (dropS t l p).length = l.length := by unfold dropS; split <;> simp [fillN_len]
theorem dropL_len (t : Int) (ps : List S61) : ∀ l : List Int, (dropL t l ps).length = l.length := by
  induction ps with
  | nil => intro l; rfl
  | cons p r ih => intro l; show (dropL t (dropS t l p) r).length = _; rw [ih, dropS_len]
theorem dropL_snoc (t : Int) (l : List Int) (ps : List S61) (i : Nat) (h : i < ps.length) : dropL t l (ps.take (i + 1)) = dropS t (dropL t l (ps.take i)) ps[i] := by
  unfold dropL
  rw [List.take_succ_eq_append_getElem h, List.foldl_append]; rfl
set_option maxHeartbeats 4000000 in
set_option maxRecDepth 100000 in
theorem Drop_no (s : ByteArray) (t : Int) (w : World) (h1 : impl_isFilter.f s t = some false) :
    Calls Tryd.prog 40 #[.string s, .int .i64 t] w fun e w' => e = .returned (.tuple #[.string ⟨#[]⟩, .bool false]) ∧ Below w.heap.size w w' := by
  have H1 := Aside0.mk h1
  clear h1
  go_enter Tryd.func40, Tryd.ntmps40
  go_wp2_with (go_at_call 71; (with_reducible refine (impl_isFilter.calls s t false _ H1.out).mono ?_); rintro e wn ⟨rfl, hb0⟩; (first | have hb := to_below_d hb0 | have hb := to_below_b hb0); have HB := Aside0.mk hb; clear hb hb0)
  go_ret2
  exact ⟨rfl, HB.out⟩
set_option maxHeartbeats 8000000 in
set_option maxRecDepth 100000 in
theorem Drop_yes (s : ByteArray) (t : Int) (ps : List S61) (k : Nat) (hin : ∀ p ∈ ps, ∃ a n : Nat, p = ⟨(a : Int), (n : Int)⟩ ∧ a + n ≤ s.size) (hlen : ps.length ≤ 400) (w : World) (h1 : impl_isFilter.f s t = some true) (h2 : impl_pulses.f k s = some ps) :
    Calls Tryd.prog 40 #[.string s, .int .i64 t] w fun e w' => e = .returned (.tuple #[.string (strOfNums (dropL t (bytesOf s) ps)), .bool true]) ∧ Below w.heap.size w w' := by
  obtain ⟨hs, hL, ht1, ht2⟩ := isFilter_true h1
  have H1 := Aside0.mk h1
  have H2 := Aside0.mk h2
  have HIN := Aside0.mk hin
  clear h1 h2 hin hL
  have hcv := fun W : World => print_bytes (P := Tryd.prog) 9 39 5 Tryd.underlying9 Tryd.underlying39 Tryd.underlying5 s W
  have HCV := Aside0.mk hcv
  clear hcv
  have hbl0 : (bytesOf s).length = s.size := bytesOf_length s
  have HBL0 := Aside0.mk hbl0
  clear hbl0
  go_enter Tryd.func40, Tryd.ntmps40
  go_wp2_with (first
    | (go_at_call 71; (with_reducible refine (impl_isFilter.calls s t true _ H1.out).mono ?_); rintro e w1 ⟨rfl, hb0⟩; (first | have hb := to_below_d hb0 | have hb := to_below_b hb0); have HB := Aside0.mk hb; clear hb hb0; have hcv := HCV.out w1)
    | (go_at_call 55; (with_reducible refine (impl_pulses.calls k s ps _ H2.out).mono ?_); rintro e w2 ⟨v2, rfl, ho0, hb⟩; have g1 := BRow.of_bytes w1 5 s; obtain ⟨g, hg⟩ : ∃ g, g = w1.heap.size := ⟨_, rfl⟩; rw [← hg] at g1; have hgl := g1.lt; have HR := Aside0.mk (g1.below hb); have HGW := Aside0.mk (show w.heap.size ≤ g by rw [hg]; exact below_size HB.out); have HO := Aside0.mk (Kd.R_mono (Kd.R_lower (Kd.R_bound ho0) (below_size (bytes_below HB.out (below_size HB.out) 5 s))) (ok' := fun q => g < q) (fun q hq => Nat.lt_of_lt_of_le hgl hq.2.1)); have n0_ := Aside0.mk (below_step (bytes_below HB.out (below_size HB.out) 5 s) hb); clear HB g1 hgl hb ho0 hcv; have HB := n0_; clear n0_; have HG := Aside0.mk hg; clear hg; obtain ⟨Ao, co, eo⟩ := Kd.R_slice HO.out; subst eo))
  rw [← HG.out]
  clear HCV H1 H2 HG
  obtain ⟨cp, hcp⟩ : ∃ cp, grownCap w1 s.size 0 5 = cp := ⟨_, rfl⟩
  rw [hcp]
  clear hcp
  go_loopg [19] ps.length (fun kq v19 wr => ∃ i : Nat, v19 = .int .i64 (i : Int) ∧ Aside0 (i + kq = ps.length) ∧ Aside0 (BRow wr g (dropL t (bytesOf s) (ps.take i))) ∧ Aside0 (Kd.R k61 61 wr w.heap.size (fun q => g < q) (.slice Ao ps.length co) ps) ∧ Aside0 (Below w.heap.size w wr))
  case atStart => exact ⟨0, rfl, ⟨by omega⟩, HR, HO, HB⟩
  case round =>
    clear HR HO HB
    obtain ⟨i, rfl, HE, HR, HO, HB⟩ := hrel
    by_cases hlt : i < ps.length
    · cases gk with
      | zero => have := HE.out; omega
      | succ g1 =>
      obtain ⟨a, n, hp, han⟩ := HIN.out ps[i] (List.getElem_mem hlt)
      obtain ⟨ad, he, hx0, hx1⟩ := at_T61 (Kd.R_reads' HO.out).2.2 (i : Int) (by omega) (by omega)
      have hrd : rd_T61 ps (i : Int) = ⟨(a : Int), (n : Int)⟩ := by
        unfold rd_T61
        rw [Int.toNat_natCast, List.getD_eq_getElem?_getD, List.getElem?_eq_getElem hlt, Option.getD_some, hp]
      rw [hrd, Int.toNat_natCast] at hx0 hx1
      subst he
      have HP := Aside0.mk hp
      clear hp hrd
      go_wp2_with (((with_reducible refine gate_dst (N := 8) rfl ?_); refine box_event ?hg (N := 8) ?hd (cs := #[.int .i64 0, .int .i64 0]) (t := 61) ?hr ?_; (case hd => rfl); (case hg => rfl); (case hr => first | (go_simp; done) | (go_simp; rfl)); intro gb hg wn hbox hb; have n0_ := Aside0.mk (HR.out.below hb); have n1_ := Aside0.mk (Kd.R_below HO.out hb); have n2_ := Aside0.mk (below_step HB.out hb); have BK := Aside0.mk hbox; have GE := Aside0.mk (by rw [hg]; exact below_size HB.out : w.heap.size ≤ gb); have NE := Aside0.mk (show g ≠ gb by have := HR.out.lt; omega); have NR := Aside0.mk (Kd.R_elderB HO.out gb (by omega)); clear HR HO HB; have HR := n0_; have HO := n1_; have HB := n2_; clear n0_ n1_ n2_; have NR2 := Aside0.mk (Kd.R_below NR.out hb); clear NR hb hbox hg; have z0 : wn.cell? ⟨gb, 0, none⟩ = some (.int .i64 0) := (blk_cell BK.out 0).trans rfl; have z1 : wn.cell? ⟨gb, 1, none⟩ = some (.int .i64 0) := (blk_cell BK.out 1).trans rfl; have f0 := blk_frozen BK.out 0; have f1 := blk_frozen BK.out 1))
      have p0 := Aside0.mk (blk_put (blk_put BK.out 0 (.int .i64 (a : Int)) (cs' := #[.int .i64 (a : Int), .int .i64 0]) rfl) 1 (.int .i64 (n : Int)) (cs' := #[.int .i64 (a : Int), .int .i64 (n : Int)]) rfl)
      have p1 := Aside0.mk ((HR.out.far (p := ⟨gb, 0, none⟩) NE.out (.int .i64 (a : Int))).far (p := ⟨gb, 1, none⟩) NE.out (.int .i64 (n : Int)))
      have p2 := Aside0.mk (Kd.R_mono (Kd.R_far (p := ⟨gb, 1, none⟩) (Kd.R_far (p := ⟨gb, 0, none⟩) NR2.out (fun q hq => hq.2) (.int .i64 (a : Int))) (fun q hq => hq.2) (.int .i64 (n : Int))) (fun q hq => hq.1))
      have p3 := Aside0.mk (below_set (j := 1) (v := .int .i64 (n : Int)) (below_set (j := 0) (v := .int .i64 (a : Int)) HB.out GE.out) GE.out)
      obtain ⟨l, hl⟩ : ∃ l, l = dropL t (bytesOf s) (ps.take i) := ⟨_, rfl⟩
      have hll : l.length = s.size := by rw [hl, dropL_len, HBL0.out]
      have HLL := Aside0.mk hll
      rw [← hl] at p1
      have hnx : dropL t (bytesOf s) (ps.take (i + 1)) = dropS t l ⟨(a : Int), (n : Int)⟩ := by rw [dropL_snoc t _ ps i hlt, hl, HP.out]
      have HNX := Aside0.mk hnx
      clear HR HO HB NR2 BK z0 z1 f0 f1 hl hnx hll hx0 hx1
      by_cases hnt : (n : Int) < t
      · go_loopg [25] n (fun kq v25 wi => ∃ j : Nat, v25 = .int .i64 (j : Int) ∧ Aside0 (j + kq = n) ∧ Aside0 (wi.heap[gb]? = some (.cells #[.int .i64 (a : Int), .int .i64 (n : Int)] 61 (0, 0))) ∧ Aside0 (BRow wi g (fillN l a 48 j)) ∧ Aside0 (Kd.R k61 61 wi w.heap.size (fun q => g < q) (.slice (some ad) ps.length co) ps) ∧ Aside0 (Below w.heap.size w wi))
        case atStart => exact ⟨0, rfl, ⟨by omega⟩, p0, p1, p2, p3⟩
        case round =>
          clear p0 p1 p2 p3
          obtain ⟨j, rfl, HJ, BK, HR, HO, HB⟩ := hrel
          by_cases hjn : j < n
          · cases gk with
            | zero => have := HJ.out; omega
            | succ g2 =>
            have hll := HLL.out
            have hc := HR.out.cell (a + j) (by rw [fillN_len]; omega)
            have hf := HR.out.free (a + j) (by rw [fillN_len]; omega)
            have x0 := (blk_cell BK.out 0).trans (show (#[Value.int .i64 (a : Int), .int .i64 (n : Int)] : Array Value)[0]? = some (.int .i64 (a : Int)) from rfl)
            have x1 := (blk_cell BK.out 1).trans (show (#[Value.int .i64 (a : Int), .int .i64 (n : Int)] : Array Value)[1]? = some (.int .i64 (n : Int)) from rfl)
            have b1 : a + j < s.size := by omega
            clear hll
            go_wp2
            go_roundg g2
            case measure => omega
            case rel => exact ⟨j + 1, by go_num, ⟨by have := HJ.out; omega⟩, ⟨blk_far BK.out (p := ⟨g, a + j, none⟩) (Ne.symm NE.out) _⟩, ⟨HR.out.put (a + j) (by rw [fillN_len, HLL.out]; omega) 48⟩, ⟨Kd.R_far (p := ⟨g, a + j, none⟩) HO.out (fun q hq => by show q ≠ g; omega) _⟩, ⟨HB.out.setCell (p := ⟨g, a + j, none⟩) HGW.out _⟩⟩
          · have e : j = n := by have := HJ.out; omega
            subst e
            go_wp2
            go_roundg g1
            case measure => omega
            case rel => exact ⟨i + 1, by go_num, ⟨by have := HE.out; omega⟩, ⟨by rw [HNX.out]; unfold dropS; rw [if_pos hnt]; exact HR.out⟩, HO, HB⟩
      · have HNT := Aside0.mk hnt
        go_loopg [25] n (fun kq v25 wi => ∃ j : Nat, v25 = .int .i64 (j : Int) ∧ Aside0 (j + kq = n) ∧ Aside0 (wi.heap[gb]? = some (.cells #[.int .i64 (a : Int), .int .i64 (n : Int)] 61 (0, 0))) ∧ Aside0 (BRow wi g l) ∧ Aside0 (Kd.R k61 61 wi w.heap.size (fun q => g < q) (.slice (some ad) ps.length co) ps) ∧ Aside0 (Below w.heap.size w wi))
        case atStart => exact ⟨0, rfl, ⟨by omega⟩, p0, p1, p2, p3⟩
        case round =>
          clear p0 p1 p2 p3
          obtain ⟨j, rfl, HJ, BK, HR, HO, HB⟩ := hrel
          by_cases hjn : j < n
          · cases gk with
            | zero => have := HJ.out; omega
            | succ g2 =>
            have hll := HLL.out
            have x0 := (blk_cell BK.out 0).trans (show (#[Value.int .i64 (a : Int), .int .i64 (n : Int)] : Array Value)[0]? = some (.int .i64 (a : Int)) from rfl)
            have x1 := (blk_cell BK.out 1).trans (show (#[Value.int .i64 (a : Int), .int .i64 (n : Int)] : Array Value)[1]? = some (.int .i64 (n : Int)) from rfl)
            have b1 : a + j < s.size := by omega
            clear hll
            go_wp2
            go_roundg g2
            case measure => omega
            case rel => exact ⟨j + 1, by go_num, ⟨by have := HJ.out; omega⟩, BK, HR, HO, HB⟩
          · have e : j = n := by have := HJ.out; omega
            subst e
            go_wp2
            go_roundg g1
            case measure => omega
            case rel => exact ⟨i + 1, by go_num, ⟨by have := HE.out; omega⟩, ⟨by rw [HNX.out]; unfold dropS; rw [if_neg (by first | exact HNT.out | exact Int.not_lt.mpr HNT.out)]; exact HR.out⟩, HO, HB⟩
    · have e : i = ps.length := by have := HE.out; omega
      subst e
      have hR := HR.out
      rw [List.take_length] at hR
      have hl : (dropL t (bytesOf s) ps).length = s.size := by rw [dropL_len, HBL0.out]
      have hcv := hR.string (P := Tryd.prog) Tryd.underlying39 Tryd.underlying5 Tryd.underlying9 cp
      rw [hl] at hcv
      clear hl
      go_wp2
      go_ret2
      exact ⟨rfl, HB.out⟩
def impl_DropPulses.f (a0 : ByteArray) (a1 : Int) : Option (ByteArray × Bool) :=
  (impl_isFilter.f a0 a1).bind fun t => if t = true then some (strOfNums (dropL a1 (bytesOf a0) (pz (edg a0 49 a0.size) (dns a0))), true) else some (⟨#[]⟩, false)
theorem pz_in (s : ByteArray) : ∀ us ds : List Int, Runs s us ds → ∀ p ∈ pz us ds, ∃ a n : Nat, p = ⟨(a : Int), (n : Int)⟩ ∧ a + n ≤ s.size
  | [], [], _, p, hp => by simp [pz] at hp
  | u :: us, d :: ds, h, p, hp => by
    rw [show pz (u :: us) (d :: ds) = ⟨u, d - u⟩ :: pz us ds from rfl, List.mem_cons] at hp
    rcases hp with rfl | hp
    · obtain ⟨a, b, rfl, rfl, h1, h2, _⟩ := h.1
      exact ⟨a, b - a, by congr 1; omega, by omega⟩
    · exact pz_in s us ds h.2 p hp
  | [], _ :: _, h, _, _ => h.elim
  | _ :: _, [], h, _, _ => h.elim
theorem pz_len : ∀ us ds : List Int, (pz us ds).length ≤ us.length := fun us ds => by unfold pz; rw [List.length_zipWith]; exact Nat.min_le_left _ _
theorem impl_DropPulses.calls (a0 : ByteArray) (a1 : Int) (r1 : ByteArray) (r2 : Bool) (w : World) (h : impl_DropPulses.f a0 a1 = some (r1, r2)) :
    Calls Tryd.prog 40 #[.string a0, .int .i64 a1] w fun e w' => e = .returned (.tuple #[.string r1, .bool r2]) ∧ Below w.heap.size w w' := by
  unfold impl_DropPulses.f at h
  obtain ⟨t, ht, h⟩ := Option.bind_eq_some_iff.mp h
  cases t with
  | false =>
    rw [if_neg (by simp)] at h
    simp only [Option.some.injEq, Prod.mk.injEq] at h
    obtain ⟨rfl, rfl⟩ := h
    exact Drop_no a0 a1 w ht
  | true =>
    rw [if_pos rfl] at h
    simp only [Option.some.injEq, Prod.mk.injEq] at h
    obtain ⟨rfl, rfl⟩ := h
    obtain ⟨hs, hL, _, _⟩ := isFilter_true ht
    exact Drop_yes a0 a1 _ 300001 (pz_in a0 _ _ (runs_all a0 hL)) (Nat.le_trans (pz_len _ _) (Nat.le_trans (edg_len _ _ _) hs)) w ht (pulses_eq 300001 a0 hs hL (by omega))
end Go.Proofs.YthkpnbelbaljdaaDoor.X
end
section
namespace Go.Proofs.YthkpnbelbaljdaaDoor.X
open Go.RowKit Go.Proofs.YthkpnbelbaljdaaDoorW.PrintWords Go.Proofs.YthkpnbelbaljdaaDoorW.PrintLast Go.Proofs.YthkpnbelbaljdaaDoorW.PrintMore
set_option linter.unusedVariables false
set_option linter.unusedSimpArgs false
def Spans (s : ByteArray) (us ds : List Int) : Prop := ∀ i, i < us.length → ∃ a n : Nat, us[i]? = some (a : Int) ∧ ds[i]? = some ((a + n : Nat) : Int) ∧ (pz us ds)[i]? = some ⟨(a : Int), (n : Int)⟩ ∧ 0 < n ∧ a + n ≤ s.size
theorem spans_of (s : ByteArray) : ∀ us ds : List Int, Runs s us ds → Spans s us ds
  | [], [], _ => fun i hi => absurd hi (by simp)
  | u :: us, d :: ds, h => fun i hi => by
    cases i with
    | zero =>
      obtain ⟨a, b, rfl, rfl, h1, h2, _⟩ := h.1
      refine ⟨a, b - a, rfl, ?_, ?_, by omega, by omega⟩
      · show some ((b : Nat) : Int) = _
        congr 2; omega
      · show some (⟨(a : Int), (b : Int) - a⟩ : S61) = _
        congr 2; omega
    | succ i =>
      obtain ⟨a, n, h1, h2, h3, h4⟩ := spans_of s us ds h.2 i (by simpa using hi)
      exact ⟨a, n, by simpa using h1, by simpa using h2, by simpa [pz] using h3, h4⟩
  | [], _ :: _, h => h.elim
  | _ :: _, [], h => h.elim
end Go.Proofs.YthkpnbelbaljdaaDoor.X
end
section
namespace Go.Proofs.YthkpnbelbaljdaaDoor.X
open Go.RowKit Go.Proofs.YthkpnbelbaljdaaDoorW.PrintWords Go.Proofs.YthkpnbelbaljdaaDoorW.PrintLast Go.Proofs.YthkpnbelbaljdaaDoorW.PrintMore
set_option linter.unusedVariables false
set_option linter.unusedSimpArgs false
def gz (us ds : List Int) : List S61 := pz ds us.tail
def gapS (t : Int) (l : List Int) (p : S61) : List Int := if p.f1 < t then fillN l p.f0.toNat 49 p.f1.toNat else l
def gapL (t : Int) (l : List Int) (ps : List S61) : List Int := ps.foldl (gapS t) l
theorem gapS_len (t : Int) (l : List Int) (p : S61) : (gapS t l p).length = l.length := by unfold gapS; split <;> simp [fillN_len]
theorem gapL_len (t : Int) (ps : List S61) : ∀ l : List Int, (gapL t l ps).length = l.length := by
  induction ps with
  | nil => intro l; rfl
  | cons p r ih => intro l; show (gapL t (gapS t l p) r).length = _; rw [ih, gapS_len]
theorem gapL_snoc (t : Int) (l : List Int) (ps : List S61) (i : Nat) (h : i < ps.length) : gapL t l (ps.take (i + 1)) = gapS t (gapL t l (ps.take i)) ps[i] := by
  unfold gapL
  rw [List.take_succ_eq_append_getElem h, List.foldl_append]; rfl
def Gaps (s : ByteArray) (us ds : List Int) : Prop := ∀ i, i + 1 < us.length → ∃ a n b m : Nat, us[i]? = some (a : Int) ∧ ds[i]? = some ((a + n : Nat) : Int) ∧ us[i + 1]? = some (b : Int) ∧ (pz us ds)[i]? = some ⟨(a : Int), (n : Int)⟩ ∧ (pz us ds)[i + 1]? = some ⟨(b : Int), (m : Int)⟩ ∧ (gz us ds)[i]? = some ⟨((a + n : Nat) : Int), ((b - (a + n) : Nat) : Int)⟩ ∧ a + n ≤ b ∧ b ≤ s.size
theorem gaps_of (s : ByteArray) (hL : Lev s) : Gaps s (edg s 49 s.size) (dns s) := by
  have hr := runs_all s hL
  have hsp := spans_of s _ _ hr
  intro i hi
  obtain ⟨a, n, h1, h2, h3, h4, h5⟩ := hsp i (by omega)
  obtain ⟨b, m, k1, k2, k3, k4, k5⟩ := hsp (i + 1) hi
  have hlt : a < b := by
    -- the begins rise
    have : (edg s 49 s.size).Pairwise (· < ·) := by
      unfold edg
      rw [List.pairwise_map]
      refine List.Pairwise.imp (fun h => by omega) (List.Pairwise.filter _ List.pairwise_lt_range)
    have hp := List.pairwise_iff_getElem.1 this i (i + 1) (by omega) hi (by omega)
    rw [(List.getElem?_eq_some_iff.1 h1).2, (List.getElem?_eq_some_iff.1 k1).2] at hp
    omega
  have hle : a + n ≤ b := by
    rcases Nat.lt_or_ge b (a + n) with h6 | h6
    · exfalso
      -- b is the begin of a pulse, and lies within the one before
      have hb : isE s 49 b = true := by
        obtain ⟨q, _, h7, h8⟩ := (edg_mem s 49 s.size (b : Int)).1 (List.mem_of_getElem? k1)
        obtain rfl : b = q := by omega
        exact h7
      have hpv : prv s b ≠ 49 := by
        unfold isE at hb
        simp at hb
        exact hb.2
      have hall : ∀ q : Nat, a ≤ q → q < a + n → bt s (q : Int) = 49 := by
        have : ∀ us ds : List Int, Runs s us ds → ∀ i a n : Nat, us[i]? = some (a : Int) → ds[i]? = some ((a + n : Nat) : Int) → ∀ q : Nat, a ≤ q → q < a + n → bt s (q : Int) = 49 := by
          intro us
          induction us with
          | nil => intro ds _ i a n h; simp at h
          | cons u us ih =>
            intro ds hr i a n h h'
            cases ds with
            | nil => exact hr.elim
            | cons d ds =>
              cases i with
              | zero =>
                obtain ⟨a', b', rfl, rfl, _, _, h9, _⟩ := hr.1
                have e1 : (a' : Int) = a := by simpa using h
                have e2 : (b' : Int) = ((a + n : Nat) : Int) := by simpa using h'
                intro q hq1 hq2
                exact h9 q (by omega) (by omega)
              | succ i => exact ih ds hr.2 i a n (by simpa using h) (by simpa using h')
        exact this _ _ hr i a n h1 h2
      obtain ⟨b', rfl⟩ : ∃ b', b = b' + 1 := ⟨b - 1, by omega⟩
      rw [prv_succ] at hpv
      exact hpv (hall b' (by omega) (by omega))
    · exact h6
  refine ⟨a, n, b, m, h1, h2, k1, h3, k3, ?_, hle, by omega⟩
  unfold gz pz
  rw [List.getElem?_zipWith, h2, List.getElem?_tail, k1]
  simp
  omega
theorem gz_len (us ds : List Int) (h : ds.length = us.length) : (gz us ds).length = us.length - 1 := by
  unfold gz pz
  rw [List.length_zipWith, List.length_tail]
  omega
set_option maxHeartbeats 4000000 in
set_option maxRecDepth 100000 in
theorem Fill_no (s : ByteArray) (t : Int) (w : World) (h1 : impl_isFilter.f s t = some false) :
    Calls Tryd.prog 41 #[.string s, .int .i64 t] w fun e w' => e = .returned (.tuple #[.string ⟨#[]⟩, .bool false]) ∧ Below w.heap.size w w' := by
  have H1 := Aside0.mk h1
  clear h1
  go_enter Tryd.func41, Tryd.ntmps41
  go_wp2_with (go_at_call 71; (with_reducible refine (impl_isFilter.calls s t false _ H1.out).mono ?_); rintro e wn ⟨rfl, hb0⟩; (first | have hb := to_below_d hb0 | have hb := to_below_b hb0); have HB := Aside0.mk hb; clear hb hb0)
  go_ret2
  exact ⟨rfl, HB.out⟩
set_option maxHeartbeats 8000000 in
set_option maxRecDepth 100000 in
theorem Fill_yes (s : ByteArray) (t : Int) (us ds : List Int) (ps : List S61) (k : Nat) (hps : ps = pz us ds) (hin : Gaps s us ds) (hlen : ps.length ≤ 400) (hdl : ds.length = us.length) (w : World) (h1 : impl_isFilter.f s t = some true) (h2 : impl_pulses.f k s = some ps) :
    Calls Tryd.prog 41 #[.string s, .int .i64 t] w fun e w' => e = .returned (.tuple #[.string (strOfNums (gapL t (bytesOf s) (gz us ds))), .bool true]) ∧ Below w.heap.size w w' := by
  obtain ⟨hs, hL, ht1, ht2⟩ := isFilter_true h1
  have hpl : ps.length = us.length := by rw [hps]; unfold pz; rw [List.length_zipWith, hdl, Nat.min_self]
  have H1 := Aside0.mk h1
  have H2 := Aside0.mk h2
  have HIN := Aside0.mk hin
  have HPS := Aside0.mk hps
  have HPL := Aside0.mk hpl
  have HGL := Aside0.mk (gz_len us ds hdl)
  clear h1 h2 hin hL hps hpl hdl
  have hcv := fun W : World => print_bytes (P := Tryd.prog) 9 39 5 Tryd.underlying9 Tryd.underlying39 Tryd.underlying5 s W
  have HCV := Aside0.mk hcv
  clear hcv
  have HBL0 := Aside0.mk (bytesOf_length s)
  go_enter Tryd.func41, Tryd.ntmps41
  go_wp2_with (first
    | (go_at_call 71; (with_reducible refine (impl_isFilter.calls s t true _ H1.out).mono ?_); rintro e w1 ⟨rfl, hb0⟩; (first | have hb := to_below_d hb0 | have hb := to_below_b hb0); have HB := Aside0.mk hb; clear hb hb0; have hcv := HCV.out w1)
    | (go_at_call 55; (with_reducible refine (impl_pulses.calls k s ps _ H2.out).mono ?_); rintro e w2 ⟨v2, rfl, ho0, hb⟩; have g1 := BRow.of_bytes w1 5 s; obtain ⟨g, hg⟩ : ∃ g, g = w1.heap.size := ⟨_, rfl⟩; rw [← hg] at g1; have hgl := g1.lt; have HR := Aside0.mk (g1.below hb); have HGW := Aside0.mk (show w.heap.size ≤ g by rw [hg]; exact below_size HB.out); have HO := Aside0.mk (Kd.R_mono (Kd.R_lower (Kd.R_bound ho0) (below_size (bytes_below HB.out (below_size HB.out) 5 s))) (ok' := fun q => g < q) (fun q hq => Nat.lt_of_lt_of_le hgl hq.2.1)); have n0_ := Aside0.mk (below_step (bytes_below HB.out (below_size HB.out) 5 s) hb); clear HB g1 hgl hb ho0 hcv; have HB := n0_; clear n0_; have HG := Aside0.mk hg; clear hg; obtain ⟨Ao, co, eo⟩ := Kd.R_slice HO.out; subst eo))
  rw [← HG.out]
  clear HCV H1 H2 HG
  obtain ⟨cp, hcp⟩ : ∃ cp, grownCap w1 s.size 0 5 = cp := ⟨_, rfl⟩
  rw [hcp]
  clear hcp
  go_loopg [8] ps.length (fun kq v8 wr => ∃ i : Nat, v8 = .int .i64 ((i : Int) + 1) ∧ Aside0 (i + kq = ps.length) ∧ Aside0 (BRow wr g (gapL t (bytesOf s) ((gz us ds).take i))) ∧ Aside0 (Kd.R k61 61 wr w.heap.size (fun q => g < q) (.slice Ao ps.length co) ps) ∧ Aside0 (Below w.heap.size w wr))
  case atStart => exact ⟨0, rfl, ⟨by omega⟩, HR, HO, HB⟩
  case round =>
    clear HR HO HB
    obtain ⟨i, rfl, HE, HR, HO, HB⟩ := hrel
    by_cases hlt : i + 1 < ps.length
    · cases gk with
      | zero => have := HE.out; omega
      | succ g1 =>
      obtain ⟨a, n, b, m, e1, e2, e3, e4, e5, e6, hab, hbs⟩ := HIN.out i (by rw [← HPL.out]; exact hlt)
      rw [← HPS.out] at e4 e5
      have r4 := (List.getElem?_eq_some_iff.1 e4).2
      have r5 := (List.getElem?_eq_some_iff.1 e5).2
      have rt : ∀ (q : Nat) (v : S61), ps[q]? = some v → rd_T61 ps (q : Int) = v := fun q v h => by
        unfold rd_T61
        rw [Int.toNat_natCast, List.getD_eq_getElem?_getD, h, Option.getD_some]
      obtain ⟨ad, he, hx0, hx1⟩ := at_T61 (Kd.R_reads' HO.out).2.2 (i : Int) (by omega) (by omega)
      obtain ⟨ad', he', hy0, hy1⟩ := at_T61 (Kd.R_reads' HO.out).2.2 ((i + 1 : Nat) : Int) (by omega) (by omega)
      rw [rt i _ e4, Int.toNat_natCast] at hx0 hx1
      rw [rt (i + 1) _ e5, Int.toNat_natCast] at hy0 hy1
      have hae := he.symm.trans he'
      obtain rfl := Option.some.inj hae
      subst he
      obtain ⟨l, hl⟩ : ∃ l, l = gapL t (bytesOf s) ((gz us ds).take i) := ⟨_, rfl⟩
      have HLL : Aside0 (l.length = s.size) := ⟨by rw [hl, gapL_len, HBL0.out]⟩
      have HPZ : i < (gz us ds).length := (List.getElem?_eq_some_iff.1 e6).1
      have HNX : Aside0 (gapL t (bytesOf s) ((gz us ds).take (i + 1)) = gapS t l ⟨((a + n : Nat) : Int), ((b - (a + n) : Nat) : Int)⟩) := ⟨by rw [gapL_snoc t _ _ i HPZ, hl, (List.getElem?_eq_some_iff.1 e6).2]⟩
      rw [← hl] at HR
      have RT4 := Aside0.mk (rt i _ e4)
      have RT5 := Aside0.mk (rt (i + 1) _ e5)
      clear e1 e2 e3 e4 e5 e6 r4 r5 hl HPZ he' hae rt
      have q0 := HR
      have q1 := HO
      have q2 := HB
      have s1 : IntKind.i64.wrap ((i : Int) + 1 - 1) = (i : Int) := by rw [IntWalk.i64_in _ ⟨by omega, by omega⟩]; omega
      have s2 : IntKind.i64.wrap ((a : Int) + (n : Int)) = ((a + n : Nat) : Int) := by rw [IntWalk.i64_in _ ⟨by omega, by omega⟩]; omega
      have hlt1 : i < ps.length := by omega
      go_wp2
      go_quiet (fail)
      go_wp2
      by_cases hnt : (((b - (a + n) : Nat) : Int) < t)
      · have HNT : Aside0 (((b - (a + n) : Nat) : Int) < t) := ⟨hnt⟩
        clear hnt
        go_loopg [10] (b - (a + n)) (fun kq v10 wi => ∃ j : Nat, v10 = .int .i64 ((a : Int) + (n : Int) + (j : Int)) ∧ Aside0 (j + kq = b - (a + n)) ∧ Aside0 (BRow wi g (fillN l (a + n) 49 j)) ∧ Aside0 (Kd.R k61 61 wi w.heap.size (fun q => g < q) (.slice (some ad) ps.length co) ps) ∧ Aside0 (Below w.heap.size w wi))
        case atStart => exact ⟨0, by simp, ⟨by omega⟩, ⟨q0.out.move rfl⟩, ⟨Kd.R_drewN q1.out nq⟩, ⟨pw_below_drewN q2.out nq⟩⟩
        case round =>
          clear q0 q1 q2 hx0 hx1 hy0 hy1 HR HO HB
          obtain ⟨j, rfl, HJ, HR, HO, HB⟩ := hrel
          obtain ⟨ad', he', hy0, hy1⟩ := at_T61 (Kd.R_reads' HO.out).2.2 ((i + 1 : Nat) : Int) (by omega) (by omega)
          rw [RT5.out, Int.toNat_natCast] at hy0 hy1
          obtain rfl := Option.some.inj he'
          clear he'
          by_cases hj : j < b - (a + n)
          · cases gk with
            | zero => have := HJ.out; omega
            | succ g2 =>
            have hll := HLL.out
            have hc := HR.out.cell (a + n + j) (by rw [fillN_len]; omega)
            have hf := HR.out.free (a + n + j) (by rw [fillN_len]; omega)
            have b1 : a + n + j < s.size := by omega
            have d1 : decide ((a : Int) + (n : Int) + (j : Int) < (b : Int)) = true := decide_eq_true (by omega)
            have d2 : decide ((b : Int) - ((a : Int) + (n : Int)) < t) = true := decide_eq_true (by have := HNT.out; omega)
            have c1 : (a : Int) + (n : Int) + (j : Int) < (b : Int) := by omega
            have sm : IntKind.i64.wrap ((b : Int) - ((a : Int) + (n : Int))) = (b : Int) - ((a : Int) + (n : Int)) := by rw [IntWalk.i64_in _ ⟨by omega, by omega⟩]
            clear hll
            go_wp2
            go_roundg g2
            case measure => omega
            case rel => exact ⟨j + 1, congrArg (Value.int .i64) (by omega), ⟨by have := HJ.out; omega⟩, ⟨HR.out.put (a + n + j) (by rw [fillN_len, HLL.out]; omega) 49⟩, ⟨Kd.R_far (p := ⟨g, a + n + j, none⟩) HO.out (fun q hq => by show q ≠ g; omega) _⟩, ⟨HB.out.setCell (p := ⟨g, a + n + j, none⟩) HGW.out _⟩⟩
          · have e : j = b - (a + n) := by have := HJ.out; omega
            have d1 : decide ((a : Int) + (n : Int) + (j : Int) < (b : Int)) = false := decide_eq_false (by omega)
            have c1 : ¬ (a : Int) + (n : Int) + (j : Int) < (b : Int) := by omega
            subst e
            go_wp2
            go_roundg g1
            case measure => omega
            case rel => exact ⟨i + 1, by go_num, ⟨by have := HE.out; omega⟩, ⟨by rw [HNX.out]; unfold gapS; rw [if_pos HNT.out]; exact HR.out⟩, HO, HB⟩
      · have HNT : Aside0 (¬ ((b - (a + n) : Nat) : Int) < t) := ⟨hnt⟩
        clear hnt
        go_loopg [10] (b - (a + n)) (fun kq v10 wi => ∃ j : Nat, v10 = .int .i64 ((a : Int) + (n : Int) + (j : Int)) ∧ Aside0 (j + kq = b - (a + n)) ∧ Aside0 (BRow wi g (l)) ∧ Aside0 (Kd.R k61 61 wi w.heap.size (fun q => g < q) (.slice (some ad) ps.length co) ps) ∧ Aside0 (Below w.heap.size w wi))
        case atStart => exact ⟨0, by simp, ⟨by omega⟩, ⟨q0.out.move rfl⟩, ⟨Kd.R_drewN q1.out nq⟩, ⟨pw_below_drewN q2.out nq⟩⟩
        case round =>
          clear q0 q1 q2 hx0 hx1 hy0 hy1 HR HO HB
          obtain ⟨j, rfl, HJ, HR, HO, HB⟩ := hrel
          obtain ⟨ad', he', hy0, hy1⟩ := at_T61 (Kd.R_reads' HO.out).2.2 ((i + 1 : Nat) : Int) (by omega) (by omega)
          rw [RT5.out, Int.toNat_natCast] at hy0 hy1
          obtain rfl := Option.some.inj he'
          clear he'
          by_cases hj : j < b - (a + n)
          · cases gk with
            | zero => have := HJ.out; omega
            | succ g2 =>
            have hll := HLL.out
            have b1 : a + n + j < s.size := by omega
            have d1 : decide ((a : Int) + (n : Int) + (j : Int) < (b : Int)) = true := decide_eq_true (by omega)
            have d2 : decide ((b : Int) - ((a : Int) + (n : Int)) < t) = false := decide_eq_false (by have := HNT.out; omega)
            have c1 : (a : Int) + (n : Int) + (j : Int) < (b : Int) := by omega
            have sm : IntKind.i64.wrap ((b : Int) - ((a : Int) + (n : Int))) = (b : Int) - ((a : Int) + (n : Int)) := by rw [IntWalk.i64_in _ ⟨by omega, by omega⟩]
            clear hll
            go_wp2
            go_roundg g2
            case measure => omega
            case rel => exact ⟨j + 1, congrArg (Value.int .i64) (by omega), ⟨by have := HJ.out; omega⟩, HR, HO, HB⟩
          · have e : j = b - (a + n) := by have := HJ.out; omega
            have d1 : decide ((a : Int) + (n : Int) + (j : Int) < (b : Int)) = false := decide_eq_false (by omega)
            have c1 : ¬ (a : Int) + (n : Int) + (j : Int) < (b : Int) := by omega
            subst e
            go_wp2
            go_roundg g1
            case measure => omega
            case rel => exact ⟨i + 1, by go_num, ⟨by have := HE.out; omega⟩, ⟨by rw [HNX.out]; unfold gapS; rw [if_neg (by first | exact HNT.out | exact Int.not_lt.mpr HNT.out)]; exact HR.out⟩, HO, HB⟩
    · have hR := HR.out
      have hgl := HGL.out
      rw [List.take_of_length_le (by have := HPL.out; have := HE.out; omega)] at hR
      have hl : (gapL t (bytesOf s) (gz us ds)).length = s.size := by rw [gapL_len, HBL0.out]
      have hcv := hR.string (P := Tryd.prog) Tryd.underlying39 Tryd.underlying5 Tryd.underlying9 cp
      rw [hl] at hcv
      clear hl hgl
      go_wp2
      go_ret2
      exact ⟨rfl, HB.out⟩
def impl_FillGaps.f (a0 : ByteArray) (a1 : Int) : Option (ByteArray × Bool) :=
  (impl_isFilter.f a0 a1).bind fun t => if t = true then some (strOfNums (gapL a1 (bytesOf a0) (gz (edg a0 49 a0.size) (dns a0))), true) else some (⟨#[]⟩, false)
theorem impl_FillGaps.calls (a0 : ByteArray) (a1 : Int) (r1 : ByteArray) (r2 : Bool) (w : World) (h : impl_FillGaps.f a0 a1 = some (r1, r2)) :
    Calls Tryd.prog 41 #[.string a0, .int .i64 a1] w fun e w' => e = .returned (.tuple #[.string r1, .bool r2]) ∧ Below w.heap.size w w' := by
  unfold impl_FillGaps.f at h
  obtain ⟨t, ht, h⟩ := Option.bind_eq_some_iff.mp h
  cases t with
  | false =>
    rw [if_neg (by simp)] at h
    simp only [Option.some.injEq, Prod.mk.injEq] at h
    obtain ⟨rfl, rfl⟩ := h
    exact Fill_no a0 a1 w ht
  | true =>
    rw [if_pos rfl] at h
    simp only [Option.some.injEq, Prod.mk.injEq] at h
    obtain ⟨rfl, rfl⟩ := h
    obtain ⟨hs, hL, _, _⟩ := isFilter_true ht
    exact Fill_yes a0 a1 _ _ _ 300001 rfl (gaps_of a0 hL) (Nat.le_trans (pz_len _ _) (Nat.le_trans (edg_len _ _ _) hs)) (runs_all a0 hL).len.symm w ht (pulses_eq 300001 a0 hs hL (by omega))
end Go.Proofs.YthkpnbelbaljdaaDoor.X
end
