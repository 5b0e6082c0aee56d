/- My own texts of this seat, merged: XFun, Xp0, XBRow, XMarks, XShelf, XIsWave, Xp17, Xp14, Xp18, Xp15, Xp13, XWaveLib, Xp12, Xp10, XPulses, Xp11, Xp9, XFilter, XDrop. Conditions: as each lemma says. -/
import Derived.Test.YtpmdiolkhmfphaaDoorProg
import Derived.Below
import Derived.Deep.Draws
import Derived.Deep.AppendLies
import Derived.OwnWalk
import Derived.Laws.OwnMore
import Derived.Deep.OwnRows
import Derived.Tactics
import Derived.Lib.ConvBytes
import Derived.Laws.Slices
import Derived.WalkKit
import Derived.KernelRfl
import Derived.RowKit3
import Derived.Deep.LoopGhost
import Derived.Deep.QuietTactic
import Derived.BigQuiet
import Derived.Deep.DeepCutAuto
import Derived.Deep.CutBlock
import Derived.OrdersHeld
import Derived.RowKit
import Derived.Test.YtpmdiolkhmfphaaDoorWWords
import Derived.Test.YtpmdiolkhmfphaaDoorWLast
import Derived.Test.YtpmdiolkhmfphaaDoorWKept
import Derived.Test.YtpmdiolkhmfphaaDoorWMore
import Derived.Maps.AppendAt
import Derived.Laws.BytesArg
import Derived.Laws.MakeOwn
import Derived.WideLaws
import Derived.Deep.RegionHeld3
import Derived.Laws.Rows
import Derived.Lib.AppendStr
import Derived.ArgAppend
import Derived.Laws.IdiomCopy
import Derived.Laws.BitsLemmas
import Derived.Test.YtpmdiolkhmfphaaDoorWTab
import Derived.Test.YtpmdiolkhmfphaaDoorWFour
import Derived.Test.YtpmdiolkhmfphaaDoorWQPut
import Derived.Test.YtpmdiolkhmfphaaDoorWApart
import Derived.Test.YtpmdiolkhmfphaaDoorWArr
import Derived.Test.YtpmdiolkhmfphaaDoorWZeros
import Derived.Test.YtpmdiolkhmfphaaDoorWFoot
import Derived.Test.YtpmdiolkhmfphaaDoorWShare
import Derived.Test.YtpmdiolkhmfphaaDoorWN
import Derived.Test.YtpmdiolkhmfphaaDoorWFootNe
import Derived.Test.YtpmdiolkhmfphaaDoorWAt
import Derived.Test.YtpmdiolkhmfphaaDoorWEqStruct
import Derived.Test.YtpmdiolkhmfphaaDoorWRepsOne
import Derived.Test.YtpmdiolkhmfphaaDoorWInv
import Derived.Test.YtpmdiolkhmfphaaDoorWInvWords
import Derived.Test.YtpmdiolkhmfphaaDoorWGuard
import Derived.Test.YtpmdiolkhmfphaaDoorWNEv
import Derived.Shelf.Strings.Trim
import Derived.Shelf.Small.Utf8
import Derived.Shelf.Small.Strs
import Derived.Shelf.Strings.Search1
import Derived.Shelf.Strings.Runes
import Derived.Shelf.Strings.AsciiSet
import Derived.Shelf.Unicode.DecodeSlow
import Derived.Shelf.Unicode.DecodeAny
import Derived.Shelf.Unicode.DecodeLast
import Derived.Shelf.Strings.SlTrimAscii
import Derived.Lib.SlTrimSet
/- Calls through a function value, as rules of the walk; small facts. Conditions: as each lemma says. -/
namespace Go.Proofs.YtpmdiolkhmfphaaDoor.X
open Go.RowKit Go.Proofs.YtpmdiolkhmfphaaDoorW.PrintWords Go.Proofs.YtpmdiolkhmfphaaDoorW.PrintLast Go.Proofs.YtpmdiolkhmfphaaDoorW.PrintMore

theorem to_below_d {w w' : World} (h : Drawn0 w w') : Below w.heap.size w w' := h.below
theorem to_below_b {w w' : World} (h : Below w.heap.size w w') : Below w.heap.size w w' := h
section
variable {P : Program} {ops : Array Oper} {Q : Exit → Act → World → Prop}
/-- A call of a function value in a plain region, as an arm of go_wp2_with. -/
theorem goesV_ {rest : List Oper} {oi : Oper} {a : Act} {w : World} (N : Option Tmp) (hd : oi.dst = N) (hg : oi.guard = none) {f : FuncId} {fn : Func} {caps : Array Value} {x : Operand} {zs : Array Operand} {ts : Array TypeId} (hf : P.funcs[f]? = some fn) (hname : (fn.name == "runtime.NumGoroutine") = false) (hb : fn.body.isSome = true) (args : Array Value)
    (hop : oi.op = .call { callee := .value x, args := zs, argTypes := ts }) (hx : a.eval x = .func (.func f) #[] caps) (hargs : zs.map a.eval = args)
    (h : Calls P f (args ++ caps) w fun e w' => ∃ v, e = .returned v ∧ wpList P ops Q rest (a.put N v) w') : wpList P ops Q (oi :: rest) a w := by
  refine wpList_plain hg fun K hK => ?_
  have he := enters_ hf hname hb (args ++ caps) w
  have hrun : (execOp a.eval oi).run P w = .ok (.enter f (args ++ caps)) w := by
    unfold execOp
    simp [hop, resolve, Deferred.ofValue, invoke, hx, hargs, he]
  unfold Oper.wp
  rw [hrun, Oper.upon_enter]
  refine h.mono fun e w'' hh => ?_
  obtain ⟨v, rfl, hk⟩ := hh
  subst hd
  exact hK _ _ hk
/-- .. and in a region that draws its order. -/
theorem goesR_ {oi : Oper} {N : Option Tmp} {a : Act} {w : World} {K : Act → World → Prop} {f : FuncId} {fn : Func} {caps : Array Value} {x : Operand} {zs : Array Operand} {ts : Array TypeId} (hf : P.funcs[f]? = some fn) (hname : (fn.name == "runtime.NumGoroutine") = false) (hb : fn.body.isSome = true) (args : Array Value)
    (hw : Region.wanted oi (yielded ops a.tmps) = true) (hN : oi.dst = N) (hop : oi.op = .call { callee := .value x, args := zs, argTypes := ts }) (hx : a.eval x = .func (.func f) #[] caps) (hargs : zs.map a.eval = args)
    (h : Calls P f (args ++ caps) w fun e w' => ∃ v, e = .returned v ∧ K (a.put N v) w') : if Region.wanted oi (yielded ops a.tmps) = true then Oper.wp P oi a w K Q else K (a.put N undef) w := by
  refine call_ f (args ++ caps) hw hN ?_ h
  have he := enters_ hf hname hb (args ++ caps) w
  unfold execOp
  simp [hop, resolve, Deferred.ofValue, invoke, hx, hargs, he]
end
/-- What a closure's number, text and captured variables are. -/
structure CloIs (P : Program) (f : Nat) (fn : Func) : Prop where
  hf : P.funcs[f]? = some fn
  hname : (fn.name == "runtime.NumGoroutine") = false
  hb : fn.body.isSome = true
end Go.Proofs.YtpmdiolkhmfphaaDoor.X

-- Written by a program of this session out of the kit's print of the loaded functions: a plain function of a Go function, and its contract.
namespace Go.Proofs.YtpmdiolkhmfphaaDoor.X
open Go.RowKit Go.Proofs.YtpmdiolkhmfphaaDoorW.PrintWords Go.Proofs.YtpmdiolkhmfphaaDoorW.PrintLast Go.Proofs.YtpmdiolkhmfphaaDoorW.PrintMore
attribute [local go_sem] max2_int min2_int max_two min_two max_three min_three max_four min_four   -- for this text's walks alone
set_option linter.unusedVariables false
set_option linter.unusedSimpArgs false



def errW : Option Int → Value
  | none => .nilIface
  | some c => .iface 0 (.int .i64 c)
theorem errW_none : errW none = .nilIface := rfl
theorem errW_some (c : Int) : errW (some c) = .iface 0 (.int .i64 c) := rfl

theorem info2 : (Tryd.prog.info? 2).map (fun i => (i.zero, i.size, i.bytes)) = some (some (.int .i64 0), 1, 8) := by kernel_rfl
theorem info32 : (Tryd.prog.info? 32).map (fun i => (i.zero, i.size, i.bytes)) = some (some (.agg #[(.int .i64 0), (.int .i64 0)]), 2, 16) := by kernel_rfl
-- the values' own types
/-! #### struct type 32 -/
structure S32 where
  f0 : Int
  f1 : Int
def z32 : S32 := ⟨(0 : Int), (0 : Int)⟩
def k32 : Kd S32 := Kd.iso (Kd.pair (Kd.int .i64) (Kd.int .i64)) (fun x : S32 => (x.f0, x.f1))
theorem k32_open {w : World} {x : S32} {cs : List Value} (h : k32.K w x cs) : cs = [.int .i64 x.f0, .int .i64 x.f1] := by
  obtain ⟨_, _, rfl, rfl, rfl⟩ := h
  exact rfl
theorem k32_openM {w : World} {base : Nat} {ok : Nat → Prop} {x : S32} {cs : List Value} (h : k32.M w base ok x cs) : cs = [.int .i64 x.f0, .int .i64 x.f1] := by
  obtain ⟨_, _, rfl, rfl, rfl⟩ := h
  exact rfl
theorem k32_mk (w : World) (x : S32)  : k32.K w x [.int .i64 x.f0, .int .i64 x.f1] := ⟨[.int .i64 x.f0], [.int .i64 x.f1], rfl, rfl, rfl⟩
theorem k32_mkM (w : World) (base : Nat) (ok : Nat → Prop) (x : S32)  : k32.M w base ok x [.int .i64 x.f0, .int .i64 x.f1] := ⟨[.int .i64 x.f0], [.int .i64 x.f1], rfl, rfl, rfl⟩
def rd_T32 (xs : List S32) (i : Int) : S32 := xs.getD i.toNat z32
theorem at_T32 {w : World} {A : Option Addr} {n : Nat} {xs : List S32} (h : Kd.C k32 w A n xs) (i : Int) (h0 : 0 ≤ i) (h1 : i < n) : ∃ ad , A = some ad ∧ w.cell? (ad.add (i.toNat * 2)) = some (.int .i64 (rd_T32 xs i).f0) ∧ w.cell? ⟨(ad.add (i.toNat * 2)).block, (ad.add (i.toNat * 2)).off + 1, none⟩ = some (.int .i64 (rd_T32 xs i).f1) := by
  obtain ⟨ad, c, e, _, hK, hc0⟩ := Kd.C_get h z32 i h0 h1
  have hc : ∀ j u, c[j]? = some u → w.cell? (ad.add (i.toNat * 2 + j)) = some u := hc0
  obtain rfl := k32_open hK
  exact ⟨ad, e, hc 0 _ rfl, by rw [← add_field _ _ 1 (by omega)]; exact hc 1 _ rfl⟩

end Go.Proofs.YtpmdiolkhmfphaaDoor.X

/- A text's bytes as a slice that is written: what its block holds. Conditions: as each lemma says. -/
namespace Go.Proofs.YtpmdiolkhmfphaaDoor.X
open Go.RowKit Go.Proofs.YtpmdiolkhmfphaaDoorW.PrintWords Go.Proofs.YtpmdiolkhmfphaaDoorW.PrintLast Go.Proofs.YtpmdiolkhmfphaaDoorW.PrintMore
set_option linter.unusedVariables false
set_option linter.unusedSimpArgs false
/-- The first cells of block g are a list's bytes; none of them is marked. -/
def BRow (w : World) (g : Nat) (l : List Int) : Prop := ∃ (cs : Array Value) (e : TypeId) (lo hi : Nat), w.heap[g]? = some (.cells cs e (lo, hi)) ∧ (l.length ≤ lo ∨ hi = 0) ∧ l.length ≤ cs.size ∧ ∀ j, j < l.length → cs[j]? = some (.int .u8 (l.getD j 0))
theorem BRow.lt {w : World} {g : Nat} {l : List Int} (h : BRow w g l) : g < w.heap.size := by
  obtain ⟨cs, e, lo, hi, hb, _⟩ := h
  exact blk_lt hb
theorem BRow.cell {w : World} {g : Nat} {l : List Int} (h : BRow w g l) (j : Nat) (hj : j < l.length) : w.cell? ⟨g, j, none⟩ = some (.int .u8 (l.getD j 0)) := by
  obtain ⟨cs, e, lo, hi, hb, _, _, hc⟩ := h
  simp [World.cell?, hb, hc j hj]
theorem BRow.free {w : World} {g : Nat} {l : List Int} (h : BRow w g l) (j : Nat) (hj : j < l.length) : w.frozen? ⟨g, j, none⟩ = false := by
  obtain ⟨cs, e, lo, hi, hb, hm, hl, _⟩ := h
  simp [World.frozen?, hb]
  omega
theorem BRow.put {w : World} {g : Nat} {l : List Int} (h : BRow w g l) (j : Nat) (hj : j < l.length) (x : Int) : BRow (w.setCell ⟨g, j, none⟩ (.int .u8 x)) g (l.set j x) := by
  obtain ⟨cs, e, lo, hi, hb, hm, hl, hc⟩ := h
  refine ⟨cs.setIfInBounds j (.int .u8 x), e, lo, hi, ?_, by simpa using hm, by simpa using hl, fun i hi2 => ?_⟩
  · simp [World.setCell, Array.getElem?_modify, hb]
  · have hi3 : i < l.length := by simpa using hi2
    rw [Array.getElem?_setIfInBounds]
    by_cases hij : j = i
    · subst hij
      rw [if_pos rfl, if_pos (by omega)]
      simp [List.getD_eq_getElem?_getD, hi3]
    · rw [if_neg hij, hc i hi3]
      simp [List.getD_eq_getElem?_getD, List.getElem?_set, hij]
theorem BRow.move {w w1 : World} {g : Nat} {l : List Int} (h : BRow w g l) (hm : w1.heap[g]? = w.heap[g]?) : BRow w1 g l := by
  obtain ⟨cs, e, lo, hi, hb, r⟩ := h
  exact ⟨cs, e, lo, hi, hm.trans hb, r⟩
theorem BRow.below {w w1 : World} {g : Nat} {l : List Int} (h : BRow w g l) (hb : Below w.heap.size w w1) : BRow w1 g l := h.move (hb.block g h.lt)
theorem BRow.far {w : World} {g : Nat} {l : List Int} (h : BRow w g l) {p : Addr} (hp : g ≠ p.block) (u : Value) : BRow (w.setCell p u) g l := h.move (Below.heap_setCell w p u g hp)
theorem BRow.of_bytes (W : World) (e : TypeId) (s : ByteArray) : BRow (Lib.bytesWorld W e s) W.heap.size (bytesOf s) := by
  have hsz : (bytesOf s).length ≤ (Lib.bytesCells W e s).size := by
    rw [bytesOf_length]
    simp [Lib.bytesCells]
  refine ⟨Lib.bytesCells W e s, e, (Lib.bytesCells W e s).size, (Lib.bytesCells W e s).size + 1, Lib.bytesWorld_at_new W e s, .inl hsz, hsz, fun j hj => ?_⟩
  rw [bytesOf_length] at hj
  have h := Lib.bytesWorld_cell W e s j hj
  simp only [World.cell?, Lib.bytesWorld_at_new] at h
  rw [if_neg (by simp)] at h
  rw [h]
  have h' : j < s.data.toList.length := by rw [data_length]; exact hj
  simp [bytesOf, List.getD_eq_getElem?_getD, List.getElem?_eq_getElem h']
theorem BRow.of_made (W : World) (e : TypeId) (m : Nat) : BRow (W.alloc (.cells (madeCells #[.int .u8 0] m) e)) W.heap.size (List.replicate m 0) := by
  refine ⟨madeCells #[.int .u8 0] m, e, 0, 0, blk_new W _, .inr rfl, by simp [madeCells], fun j hj => ?_⟩
  have hj2 : j < m := by simpa using hj
  simp [madeCells, hj2, Nat.mod_one, List.getD_eq_getElem?_getD]
theorem BRow.string {P : Program} {w : World} {g : Nat} {l : List Int} (h : BRow w g l) {src dst e : TypeId} (hs : P.underlying src = some (.slice e)) (he : P.underlying e = some (.int .u8)) (hd : P.underlying dst = some .string) (cap : Nat) :
    (convert src dst (.slice (some ⟨g, 0, none⟩) l.length cap)).run P w = .ok (.string (strOfNums l)) w :=
  run_convert_bytes_arg w src e hs he g 0 l.length cap l rfl (fun i hi => by rw [Nat.zero_add]; exact h.cell i hi) dst hd
/-- n places from a on are set to a value. -/
def fillN (l : List Int) (a : Nat) (v : Int) : Nat → List Int
  | 0 => l
  | n + 1 => (fillN l a v n).set (a + n) v
theorem fillN_len (l : List Int) (a : Nat) (v : Int) : ∀ n, (fillN l a v n).length = l.length
  | 0 => rfl
  | n + 1 => by rw [fillN, List.length_set, fillN_len l a v n]
theorem fillN_get (l : List Int) (a : Nat) (v : Int) (j : Nat) : ∀ n, a + n ≤ l.length → (fillN l a v n)[j]? = if a ≤ j ∧ j < a + n then some v else l[j]?
  | 0, _ => by rw [if_neg (by omega)]; rfl
  | n + 1, h => by
    rw [fillN, List.getElem?_set, fillN_len]
    have ih := fillN_get l a v j n (by omega)
    by_cases e : a + n = j
    · rw [if_pos e, if_pos (by omega), if_pos (by omega)]
    · rw [if_neg e, ih]
      by_cases c : a ≤ j ∧ j < a + n
      · rw [if_pos c, if_pos (by omega)]
      · rw [if_neg c, if_neg (by omega)]
end Go.Proofs.YtpmdiolkhmfphaaDoor.X

/- Small facts on numbers. Conditions: as each lemma says. -/
namespace Go.Proofs.YtpmdiolkhmfphaaDoor.X
open Go.RowKit Go.Proofs.YtpmdiolkhmfphaaDoorW.PrintWords Go.Proofs.YtpmdiolkhmfphaaDoorW.PrintLast Go.Proofs.YtpmdiolkhmfphaaDoorW.PrintMore

theorem w64 {n : Int} (h0 : -9223372036854775808 ≤ n) (h1 : n ≤ 9223372036854775807) : wrap64 n = n := by unfold wrap64; omega
theorem mx_eq (a b : Int) : mx a b = max a b := by unfold mx; split <;> omega
theorem mn_eq (a b : Int) : mn a b = min a b := by unfold mn; split <;> omega
theorem tdivp {a b : Int} (h : 0 ≤ a) : Int.tdiv a b = a / b := Int.tdiv_eq_ediv_of_nonneg h
theorem tmodp {a b : Int} (h : 0 ≤ a) : Int.tmod a b = a % b := Int.tmod_eq_emod_of_nonneg h
theorem rd_nat (l : List Int) (i : Nat) (h : i < l.length) : rd l (i : Int) = l[i] := by
  unfold rd
  simp [h]
end Go.Proofs.YtpmdiolkhmfphaaDoor.X

/- Contracts of Go's library, as the shelf lays them at this seat's translation. Conditions: as each says. -/
namespace Go.Proofs
open Go.Shelf
def Tryd.lays160_ren : Go.Shelf.Ren := ⟨fun | 160 => 19 | 232 => 21 | 231 => 20 | 227 => 22 | 234 => 24 | 233 => 23 | 236 => 26 | 235 => 25 | 228 => 27 | 271 => 30 | 151 => 29 | 197 => 28 | 120 => 33 | 152 => 32 | 260 => 31 | 137 => 34 | 119 => 35 | 224 => 36 | 225 => 37 | 217 => 38 | 266 => 39 | n => n, fun | 9 => 9 | 4 => 4 | 3 => 3 | 5 => 5 | 117 => 40 | 116 => 39 | 0 => 0 | 124 => 43 | 21 => 21 | 105 => 45 | 46 => 50 | 119 => 49 | 139 => 53 | 138 => 52 | n => n, fun | 3 => 0 | 4 => 1 | n => n⟩
theorem Tryd.lays160 : Go.Proofs.Lays.n160 Tryd.prog Tryd.lays160_ren := {
  mixed := by kernel_rfl
  f119 := Tryd.func35.trans (congrArg some (by kernel_rfl))
  f120 := Tryd.func33.trans (congrArg some (by kernel_rfl))
  f137 := Tryd.func34.trans (congrArg some (by kernel_rfl))
  f151 := Tryd.func29.trans (congrArg some (by kernel_rfl))
  f152 := Tryd.func32.trans (congrArg some (by kernel_rfl))
  f160 := Tryd.func19.trans (congrArg some (by kernel_rfl))
  f197 := Tryd.func28.trans (congrArg some (by kernel_rfl))
  f217 := Tryd.func38.trans (congrArg some (by kernel_rfl))
  f224 := Tryd.func36.trans (congrArg some (by kernel_rfl))
  f225 := Tryd.func37.trans (congrArg some (by kernel_rfl))
  f227 := Tryd.func22.trans (congrArg some (by kernel_rfl))
  f228 := Tryd.func27.trans (congrArg some (by kernel_rfl))
  f231 := Tryd.func20.trans (congrArg some (by kernel_rfl))
  f232 := Tryd.func21.trans (congrArg some (by kernel_rfl))
  f233 := Tryd.func23.trans (congrArg some (by kernel_rfl))
  f234 := Tryd.func24.trans (congrArg some (by kernel_rfl))
  f235 := Tryd.func25.trans (congrArg some (by kernel_rfl))
  f236 := Tryd.func26.trans (congrArg some (by kernel_rfl))
  f260 := Tryd.func31.trans (congrArg some (by kernel_rfl))
  f266 := Tryd.func39.trans (congrArg some (by kernel_rfl))
  f271 := Tryd.func30.trans (congrArg some (by kernel_rfl))
  t0 := Tryd.underlying0
  a0 := Tryd.isAgg0
  z0 := Tryd.sizeOf0
  v0 := Tryd.zeroValue0
  t3 := Tryd.underlying3
  a3 := Tryd.isAgg3
  z3 := Tryd.sizeOf3
  v3 := Tryd.zeroValue3
  t4 := Tryd.underlying4
  a4 := Tryd.isAgg4
  z4 := Tryd.sizeOf4
  v4 := Tryd.zeroValue4
  t5 := Tryd.underlying5
  a5 := Tryd.isAgg5
  z5 := Tryd.sizeOf5
  v5 := Tryd.zeroValue5
  t9 := Tryd.underlying9
  a9 := Tryd.isAgg9
  z9 := Tryd.sizeOf9
  v9 := Tryd.zeroValue9
  t21 := Tryd.underlying21
  a21 := Tryd.isAgg21
  z21 := Tryd.sizeOf21
  v21 := Tryd.zeroValue21
  t46 := Tryd.underlying50
  a46 := Tryd.isAgg50
  z46 := Tryd.sizeOf50
  v46 := Tryd.zeroValue50
  t105 := Tryd.underlying45
  a105 := Tryd.isAgg45
  z105 := Tryd.sizeOf45
  v105 := Tryd.zeroValue45
  t116 := Tryd.underlying39
  a116 := Tryd.isAgg39
  z116 := Tryd.sizeOf39
  t117 := Tryd.underlying40
  a117 := Tryd.isAgg40
  z117 := Tryd.sizeOf40
  v117 := Tryd.zeroValue40
  t119 := Tryd.underlying49
  a119 := Tryd.isAgg49
  z119 := Tryd.sizeOf49
  t124 := Tryd.underlying43
  a124 := Tryd.isAgg43
  z124 := Tryd.sizeOf43
  v124 := Tryd.zeroValue43
  t138 := Tryd.underlying52
  a138 := Tryd.isAgg52
  z138 := Tryd.sizeOf52
  v138 := Tryd.zeroValue52
  t139 := Tryd.underlying53
  a139 := Tryd.isAgg53
  z139 := Tryd.sizeOf53
  v139 := Tryd.zeroValue53
  g3 := by kernel_rfl
  g4 := by kernel_rfl }
open Go.RowKit in
/-- strings.Trim: "Trim returns a slice of the string s with all leading and trailing Unicode code points contained in cutset removed.": AT A cutset OF ONE ASCII BYTE. THE WORLD BEHIND IT: as it was, or (where s is not empty) with ONE DRAW MORE off the tape: the statement 'return trimLeftByte(trimRightByte(s, c), c)' draws its order of evaluation. (LAID: no walk: one application.) -/
theorem Tryd.strings_Trim_one (s : ByteArray) (c : UInt8) (hc : c.toNat < 128) (w : World) (hs : s.size ≤ 9223372036854775807) :
    Calls Tryd.prog 19 #[.string s, .string ⟨#[c]⟩] w fun e w' => e = .returned (.string ⟨(Lib.trimB s.data.toList c).toArray⟩) ∧ (w' = w ∨ w' = w.drew) := Any.strings_Trim_one Tryd.lays160 s c hc w hs

end Go.Proofs

/- The program's IsWave: whether a text has at most 400 bytes, each 0 or 1. No conditions. -/
namespace Go.Proofs.YtpmdiolkhmfphaaDoor.X
open Go.RowKit Go.Proofs.YtpmdiolkhmfphaaDoorW.PrintWords Go.Proofs.YtpmdiolkhmfphaaDoorW.PrintLast Go.Proofs.YtpmdiolkhmfphaaDoorW.PrintMore
set_option linter.unusedVariables false
set_option linter.unusedSimpArgs false

def isLev (c : UInt8) : Bool := c == 48 || c == 49
theorem lev_contains (c : UInt8) : ([48, 49] : List UInt8).contains c = isLev c := by
  unfold isLev
  simp only [List.contains, List.elem]
  cases (c == 48) <;> cases (c == 49) <;> rfl
theorem dropWhile_nil {l : List UInt8} (p : UInt8 → Bool) : l.dropWhile p = [] ↔ l.all p = true := by
  induction l with
  | nil => simp
  | cons a t ih => rw [List.dropWhile_cons]; cases h : p a <;> simp [h, ih]
theorem dropWhile_mem {l : List UInt8} (p : UInt8 → Bool) (h : l.dropWhile p ≠ []) : ∃ c ∈ l.dropWhile p, p c = false := by
  induction l with
  | nil => simp at h
  | cons a t ih =>
    rw [List.dropWhile_cons] at h ⊢
    cases hp : p a with
    | false => rw [if_neg (by simp [hp])]; exact ⟨a, by simp, hp⟩
    | true => rw [hp, if_pos rfl] at h; rw [if_pos rfl]; exact ih h
theorem trim_nil (l : List UInt8) : Lib.trimS l [48, 49] = [] ↔ l.all isLev = true := by
  have hf : (fun c => ([48, 49] : List UInt8).contains c) = isLev := funext lev_contains
  unfold Lib.trimS Lib.trimLeftS Lib.trimRightS
  rw [hf, dropWhile_nil]
  constructor
  · intro h
    by_cases he : l.reverse.dropWhile isLev = []
    · rw [dropWhile_nil] at he
      rw [List.all_reverse] at he
      exact he
    · obtain ⟨c, hc, hp⟩ := dropWhile_mem isLev he
      have := List.all_eq_true.1 h c (by simpa using hc)
      rw [hp] at this; cases this
  · intro h
    have h2 : l.reverse.dropWhile isLev = [] := by rw [dropWhile_nil, List.all_reverse]; exact h
    rw [h2]; rfl

/-- Whether a text is a wave. -/
def isW (s : ByteArray) : Bool := decide (s.size ≤ 400) && s.data.toList.all isLev
def impl_IsWave.f (a0 : ByteArray) : Option Bool := if a0.size ≤ 9223372036854775807 then some (isW a0) else none

set_option maxHeartbeats 4000000 in
set_option maxRecDepth 100000 in
theorem IsWave_long (s : ByteArray) (hs : ¬ s.size ≤ 400) (hs2 : s.size ≤ 9223372036854775807) (w : World) :
    Calls Tryd.prog 16 #[.string s] w fun e w' => e = .returned (.bool false) ∧ Below w.heap.size w w' := by
  have hd : decide (s.size ≤ 400) = false := decide_eq_false hs
  go_enter Tryd.func16, Tryd.ntmps16
  go_wp2
  go_ret
  exact ⟨rfl, Below.refl _ _⟩
set_option maxHeartbeats 4000000 in
set_option maxRecDepth 100000 in
theorem IsWave_fits (s : ByteArray) (hs : s.size ≤ 400) (w : World) (l : List UInt8) (hl : Lib.trimS s.data.toList [48, 49] = l) :
    Calls Tryd.prog 16 #[.string s] w fun e w' => e = .returned (.bool l.isEmpty) ∧ Below w.heap.size w w' := by
  have hcon := Aside0.mk (fun W => Any.strings_Trim_laid Tryd.lays160 (by kernel_rfl) s ⟨#[48, 49]⟩ W (by omega) (by decide) (ascii_of_all (by decide)))
  have hd : decide (s.size ≤ 400) = true := decide_eq_true hs
  have hcon2 : ∀ W, Calls Tryd.prog 19 #[.string s, .string ⟨#[48, 49]⟩] W (fun e w' => e = .returned (.string ⟨l.toArray⟩) ∧ Below W.heap.size W w') := by
    intro W
    have := hcon.out W
    rw [show (⟨#[48, 49]⟩ : ByteArray).data.toList = [48, 49] from rfl, hl] at this
    exact this
  have HC := Aside0.mk hcon2
  clear hcon hcon2 hl
  cases hc : l with
  | nil =>
    subst hc
    go_enter Tryd.func16, Tryd.ntmps16
    go_wp2_with (go_at_call 19; (with_reducible refine (HC.out _).mono ?_); rintro e wn ⟨rfl, hb⟩)
    go_ret
    exact ⟨rfl, hb⟩
  | cons a t =>
    subst hc
    go_enter Tryd.func16, Tryd.ntmps16
    go_wp2_with (go_at_call 19; (with_reducible refine (HC.out _).mono ?_); rintro e wn ⟨rfl, hb⟩)
    go_ret
    exact ⟨rfl, hb⟩
theorem impl_IsWave.calls (a0 : ByteArray) (r : Bool) (w : World) (h : impl_IsWave.f a0 = some r) :
    Calls Tryd.prog 16 #[.string a0] w fun e w' => e = .returned (.bool r) ∧ Below w.heap.size w w' := by
  unfold impl_IsWave.f at h
  by_cases hs2 : a0.size ≤ 9223372036854775807
  · rw [if_pos hs2] at h
    obtain rfl := Option.some.inj h
    by_cases hs : a0.size ≤ 400
    · have := IsWave_fits a0 hs w _ rfl
      have e : (Lib.trimS a0.data.toList [48, 49]).isEmpty = isW a0 := by
        unfold isW
        rw [decide_eq_true hs, Bool.true_and, Bool.eq_iff_iff, List.isEmpty_iff, trim_nil]
      rw [e] at this
      exact this
    · have e : isW a0 = false := by unfold isW; rw [decide_eq_false hs]; rfl
      rw [e]
      exact IsWave_long a0 hs hs2 w
  · rw [if_neg hs2] at h; cases h
end Go.Proofs.YtpmdiolkhmfphaaDoor.X

-- Written by a program of this session out of the kit's print of the loaded functions: a plain function of a Go function, and its contract.
namespace Go.Proofs.YtpmdiolkhmfphaaDoor.X
open Go.RowKit Go.Proofs.YtpmdiolkhmfphaaDoorW.PrintWords Go.Proofs.YtpmdiolkhmfphaaDoorW.PrintLast Go.Proofs.YtpmdiolkhmfphaaDoorW.PrintMore
attribute [local go_sem] max2_int min2_int max_two min_two max_three min_three max_four min_four   -- for this text's walks alone
set_option linter.unusedVariables false
set_option linter.unusedSimpArgs false

/-! ### impl_within: function 17 -/
def impl_within.f (a0 : Int) (a1 : Int) (a2 : Int) : Option (Bool) := if a0 ≥ a1 then (some (decide (a0 ≤ a2))) else (some false)
set_option maxHeartbeats 8000000 in
set_option maxRecDepth 100000 in
theorem impl_within.calls (a0 : Int) (a1 : Int) (a2 : Int) (r : Bool) (w : World) (h : impl_within.f a0 a1 a2 = some r) :
    Calls Tryd.prog 17 #[.int .i64 a0, .int .i64 a1, .int .i64 a2] w fun e w' => e = .returned (.bool r) ∧ Drawn0 w w' := by
  have H : (if a0 ≥ a1 then (some (decide (a0 ≤ a2))) else (some false)) = some r := h
  clear h
  by_cases c4 : a0 ≥ a1
  · rw [if_pos c4] at H
    have c4b0 : decide (a1 ≤ a0) = true := decide_eq_true c4
    clear c4
    obtain rfl := Option.some.inj H
    go_enter Tryd.func17, Tryd.ntmps17
    go_wp2
    go_ret
    exact ⟨by first | rfl | (simp; done) | (simp [*]; done), by repeat (first | exact Drawn0.refl _ | apply Drawn0.step)⟩
  · rw [if_neg c4] at H
    have c4b0 : decide (a1 ≤ a0) = false := decide_eq_false c4
    clear c4
    obtain rfl := Option.some.inj H
    go_enter Tryd.func17, Tryd.ntmps17
    go_wp2
    go_ret
    exact ⟨by first | rfl | (simp; done) | (simp [*]; done), by repeat (first | exact Drawn0.refl _ | apply Drawn0.step)⟩

end Go.Proofs.YtpmdiolkhmfphaaDoor.X

-- Written by a program of this session out of the kit's print of the loaded functions: a plain function of a Go function, and its contract.
namespace Go.Proofs.YtpmdiolkhmfphaaDoor.X
open Go.RowKit Go.Proofs.YtpmdiolkhmfphaaDoorW.PrintWords Go.Proofs.YtpmdiolkhmfphaaDoorW.PrintLast Go.Proofs.YtpmdiolkhmfphaaDoorW.PrintMore
attribute [local go_sem] max2_int min2_int max_two min_two max_three min_three max_four min_four   -- for this text's walks alone
set_option linter.unusedVariables false
set_option linter.unusedSimpArgs false

/-! ### spec_l00In: function 14 -/
def spec_l00In.f (a0 : Int) (a1 : Int) (a2 : Int) : Option (Bool) := if a0 ≥ a1 then (some (decide (a0 ≤ a2))) else (some false)
set_option maxHeartbeats 8000000 in
set_option maxRecDepth 100000 in
theorem spec_l00In.calls (a0 : Int) (a1 : Int) (a2 : Int) (r : Bool) (w : World) (h : spec_l00In.f a0 a1 a2 = some r) :
    Calls Tryd.prog 14 #[.int .i64 a0, .int .i64 a1, .int .i64 a2] w fun e w' => e = .returned (.bool r) ∧ Drawn0 w w' := by
  have H : (if a0 ≥ a1 then (some (decide (a0 ≤ a2))) else (some false)) = some r := h
  clear h
  by_cases c4 : a0 ≥ a1
  · rw [if_pos c4] at H
    have c4b0 : decide (a1 ≤ a0) = true := decide_eq_true c4
    clear c4
    obtain rfl := Option.some.inj H
    go_enter Tryd.func14, Tryd.ntmps14
    go_wp2
    go_ret
    exact ⟨by first | rfl | (simp; done) | (simp [*]; done), by repeat (first | exact Drawn0.refl _ | apply Drawn0.step)⟩
  · rw [if_neg c4] at H
    have c4b0 : decide (a1 ≤ a0) = false := decide_eq_false c4
    clear c4
    obtain rfl := Option.some.inj H
    go_enter Tryd.func14, Tryd.ntmps14
    go_wp2
    go_ret
    exact ⟨by first | rfl | (simp; done) | (simp [*]; done), by repeat (first | exact Drawn0.refl _ | apply Drawn0.step)⟩

end Go.Proofs.YtpmdiolkhmfphaaDoor.X

-- Written by a program of this session out of the kit's print of the loaded functions: a plain function of a Go function, and its contract.
namespace Go.Proofs.YtpmdiolkhmfphaaDoor.X
open Go.RowKit Go.Proofs.YtpmdiolkhmfphaaDoorW.PrintWords Go.Proofs.YtpmdiolkhmfphaaDoorW.PrintLast Go.Proofs.YtpmdiolkhmfphaaDoorW.PrintMore
attribute [local go_sem] max2_int min2_int max_two min_two max_three min_three max_four min_four   -- for this text's walks alone
set_option linter.unusedVariables false
set_option linter.unusedSimpArgs false

/-! ### impl_changesTo: function 18 -/
def impl_changesTo.l0 : Nat → ByteArray → Int → List Int → Int → Int → Int → Option (List Int)
  | 0, _, _, _, _, _, _ => none
  | k + 1, x0, x1, x5, x6, x10, x11 => if x11 < x10 then (if 0 ≤ x11 then (if x11 < (x0.size : Int) then (if (bt x0 x11) = x6 then (impl_changesTo.l0 k x0 x1 x5 (bt x0 x11) x10 (wrap64 (x11 + 1))) else (if (bt x0 x11) = x1 then (if x5.length < 17592186044416 then (impl_changesTo.l0 k x0 x1 (x5 ++ [x11]) (bt x0 x11) x10 (wrap64 (x11 + 1))) else (none)) else (impl_changesTo.l0 k x0 x1 x5 (bt x0 x11) x10 (wrap64 (x11 + 1))))) else (none)) else (none)) else (some x5)
def impl_changesTo.f (k : Nat) (a0 : ByteArray) (a1 : Int) : Option (List Int) := impl_changesTo.l0 k a0 a1 (([] : List Int)) 48 (a0.size : Int) 0
theorem impl_changesTo.mono_l : ∀ k, (∀ y0 y1 y2 y3 y4 y5, LeO (impl_changesTo.l0 k y0 y1 y2 y3 y4 y5) (impl_changesTo.l0 (k + 1) y0 y1 y2 y3 y4 y5))
  | 0 => fun _ _ _ _ _ _ r h => by simp [impl_changesTo.l0] at h
  | k + 1 => by
    have ih0 := impl_changesTo.mono_l k
    · intro y0 y1 y2 y3 y4 y5
      unfold impl_changesTo.l0
      repeat' first
      | (with_reducible exact ih0 _ _ _ _ _ _)
      | (with_reducible exact LeO.refl _)
      | (with_reducible exact LeO.none _)
      | (with_reducible refine LeO.ite ?_ ?_)
      | (with_reducible refine LeO.bind ?_ (fun _ => ?_))
      | exact ih0 _ _ _ _ _ _
      | exact LeO.none _
      | refine LeO.ite ?_ ?_
      | refine LeO.bind ?_ (fun _ => ?_)
theorem impl_changesTo.mono : ∀ a0 a1 k, LeO (impl_changesTo.f k a0 a1) (impl_changesTo.f (k + 1) a0 a1) := by
  intro a0 a1 k
  have ih0 := impl_changesTo.mono_l k
  unfold impl_changesTo.f
  repeat' first
      | (with_reducible exact ih0 _ _ _ _ _ _)
      | (with_reducible exact LeO.refl _)
      | (with_reducible exact LeO.none _)
      | (with_reducible refine LeO.ite ?_ ?_)
      | (with_reducible refine LeO.bind ?_ (fun _ => ?_))
      | exact ih0 _ _ _ _ _ _
      | exact LeO.none _
      | refine LeO.ite ?_ ?_
      | refine LeO.bind ?_ (fun _ => ?_)
set_option maxHeartbeats 8000000 in
set_option maxRecDepth 100000 in
theorem impl_changesTo.calls (k : Nat) (a0 : ByteArray) (a1 : Int) (r : List Int) (w : World) (h : impl_changesTo.f k a0 a1 = some r) :
    Calls Tryd.prog 18 #[.string a0, .int .u8 a1] w fun e w' => ∃ v0_ : Value, e = .returned (v0_) ∧ Kd.R (Kd.int .i64) 2 w' w.heap.size (fun _ => True) v0_ r ∧ Below w.heap.size w w' := by
  have HB := Aside0.mk (Below.refl w.heap.size w)
  have H : (impl_changesTo.l0 k a0 a1 (([] : List Int)) 48 (a0.size : Int) 0) = some r := h
  clear h
  obtain ⟨y123, hy123⟩ : ∃ y_ : List Int, y_ = (([] : List Int)) := ⟨_, rfl⟩
  replace H : (impl_changesTo.l0 k a0 a1 y123 48 (a0.size : Int) 0) = some r := by first | (rw [hy123]; with_reducible exact H) | (have H2_ := (Option.bind_some _ _).symm.trans H; rw [hy123]; with_reducible exact H2_) | (have H2_ := (Option.bind_some _ _).symm.trans H; with_reducible exact H2_) | with_reducible exact H | (rw [hy123]; exact H) | exact H
  have Ny123 := Aside0.mk hy123
  clear hy123
  have H' := Aside0.mk H
  clear H
  go_enter Tryd.func18, Tryd.ntmps18
  go_wp2_with (first | ((with_reducible refine gate_dst (N := 8) rfl ?_); refine Kd.R_lit (Kd.int .i64) _ 2 ?hg (N := 8) ?hd (xs := ([] : List Int)) (inner := []) (ok := fun _ => True) (okp := fun _ => True) ?hr ?hp (fun _ hk => hk) trivial (Below.refl _ _) (Nat.le_refl _) (by simp) ?_; (case hd => rfl); (case hg => rfl); (case hr => first | (go_simp; done) | (go_simp; rfl)); (case hp => exact (Reps.none _ _)); intro v124 w3 ho4 hb hg_ hnew_; clear hg_ hnew_; (first | rw [← Ny123.out] at ho4 | (simp only [Int.reduceToNat] at ho4; rw [← Ny123.out] at ho4)); have n0_ := Aside0.mk (Kd.R_lower ho4 (below_size (by repeat (first | (with_reducible first | exact HB.out | apply below_alloc | apply pw_below_drewN | apply below_drew1) | exact HB.out)))); have n1_ := Aside0.mk (below_step (by repeat (first | (with_reducible first | exact HB.out | apply below_alloc | apply pw_below_drewN | apply below_drew1) | exact HB.out)) hb); clear HB; have HO125 := n0_; have HB := n1_; clear n0_ n1_; clear hb ho4))
  go_loopg [5, 6, 11] k (fun kq v5 v6 v11 w' => ∃ (x5_1 : List Int) (x6_1 : Int) (x11_1 : Int), v6 = .int .u8 x6_1 ∧ v11 = .int .i64 x11_1 ∧ Aside0 (impl_changesTo.l0 kq a0 a1 x5_1 x6_1 (a0.size : Int) x11_1 = some r) ∧ Aside0 (kq ≤ k) ∧ Aside0 (Kd.R (Kd.int .i64) 2 w' w.heap.size (fun _ => True) v5 x5_1) ∧ Aside0 (Below w.heap.size w w'))
  case atStart => exact ⟨(y123), (48), (0), (by first | rfl | (simp; done) | (simp [*]; done)), (by first | rfl | (simp; done) | (simp [*]; done)), H', ⟨Nat.le_refl _⟩, ⟨by (with_reducible repeat (first | apply Kd.R_alloc | apply Kd.R_drewN | apply Kd.R_drew)); exact HO125.out⟩, ⟨by repeat (first | (with_reducible first | exact HB.out | apply below_alloc | apply pw_below_drewN | apply below_drew1) | exact HB.out)⟩⟩
  case round =>
    clear H'
    try clear c1
    try clear p2
    obtain ⟨x5_1, x6_1, x11_1, rfl, rfl, HA, HK1, HO_5, HB⟩ := hrel
    cases gk with
    | zero => exact absurd HA.out (by simp [impl_changesTo.l0])
    | succ k1 =>
      have H := HA.out
      clear HA
      simp only [impl_changesTo.l0] at H
      by_cases c5 : x11_1 < (a0.size : Int)
      · rw [if_pos c5] at H
        have c5b0 : decide (x11_1 < (a0.size : Int)) = true := decide_eq_true c5
        clear c5
        by_cases c6 : 0 ≤ x11_1
        · rw [if_pos c6] at H
          have c6b0 : decide (0 ≤ x11_1) = true := decide_eq_true c6
          clear c6
          by_cases c7 : x11_1 < (a0.size : Int)
          · rw [if_pos c7] at H
            have c7b0 : decide (x11_1 < (a0.size : Int)) = true := decide_eq_true c7
            clear c7
            by_cases c9 : (bt a0 x11_1) = x6_1
            · rw [if_pos c9] at H
              have c9b0 : ((bt a0 x11_1) == x6_1) = true := beq_iff_eq.mpr c9
              have c9b1 : ((bt a0 x11_1) != x6_1) = false := bne_eq_false_iff_eq.mpr c9
              clear c9
              have H' := Aside0.mk H
              clear H
              have p8 : 0 ≤ (x11_1 : Int) := of_decide_eq_true (by first | (with_reducible assumption) | assumption)
              have q8 : x11_1 < (a0.size : Int) := of_decide_eq_true (by first | (with_reducible assumption) | assumption)
              have hx8 := bt_at a0 x11_1
              replace p8 := eq_true p8
              replace q8 := eq_true q8
              have p10 : 0 ≤ (x11_1 : Int) := of_decide_eq_true (by first | (with_reducible assumption) | assumption)
              have q10 : x11_1 < (a0.size : Int) := of_decide_eq_true (by first | (with_reducible assumption) | assumption)
              have hx10 := bt_at a0 x11_1
              replace p10 := eq_true p10
              replace q10 := eq_true q10
              go_wp2
              go_roundg k1
              case measure => have := HK1.out; omega
              case rel => exact ⟨(x5_1), (bt a0 x11_1), (wrap64 (x11_1 + 1)), (by first | rfl | (simp; done) | (simp [*]; done)), (by first | rfl | (simp; done) | (simp [*]; done)), H', ⟨by have := HK1.out; omega⟩, ⟨by (with_reducible repeat (first | apply Kd.R_alloc | apply Kd.R_drewN | apply Kd.R_drew)); exact HO_5.out⟩, ⟨by repeat (first | (with_reducible first | exact HB.out | apply below_alloc | apply pw_below_drewN | apply below_drew1) | exact HB.out)⟩⟩
            · rw [if_neg c9] at H
              have c9b0 : ((bt a0 x11_1) == x6_1) = false := beq_eq_false_iff_ne.mpr c9
              have c9b1 : ((bt a0 x11_1) != x6_1) = true := bne_iff_ne.mpr c9
              by_cases c12 : (bt a0 x11_1) = a1
              · rw [if_pos c12] at H
                have c12b0 : ((bt a0 x11_1) == a1) = true := beq_iff_eq.mpr c12
                have c12b1 : ((bt a0 x11_1) != a1) = false := bne_eq_false_iff_eq.mpr c12
                clear c12
                by_cases c13 : x5_1.length < 17592186044416
                · rw [if_pos c13] at H
                  have LMc13 := Aside0.mk c13
                  clear c13
                  obtain ⟨y126, hy126⟩ : ∃ y_ : List Int, y_ = (x5_1 ++ [x11_1]) := ⟨_, rfl⟩
                  replace H : (impl_changesTo.l0 k1 a0 a1 y126 (bt a0 x11_1) (a0.size : Int) (wrap64 (x11_1 + 1))) = some r := by first | (rw [hy126]; with_reducible exact H) | (have H2_ := (Option.bind_some _ _).symm.trans H; rw [hy126]; with_reducible exact H2_) | (have H2_ := (Option.bind_some _ _).symm.trans H; with_reducible exact H2_) | with_reducible exact H | (rw [hy126]; exact H) | exact H
                  have Ny126 := Aside0.mk hy126
                  clear hy126
                  have H' := Aside0.mk H
                  clear H
                  have p8 : 0 ≤ (x11_1 : Int) := of_decide_eq_true (by first | (with_reducible assumption) | assumption)
                  have q8 : x11_1 < (a0.size : Int) := of_decide_eq_true (by first | (with_reducible assumption) | assumption)
                  have hx8 := bt_at a0 x11_1
                  replace p8 := eq_true p8
                  replace q8 := eq_true q8
                  have p11 : 0 ≤ (x11_1 : Int) := of_decide_eq_true (by first | (with_reducible assumption) | assumption)
                  have q11 : x11_1 < (a0.size : Int) := of_decide_eq_true (by first | (with_reducible assumption) | assumption)
                  have hx11 := bt_at a0 x11_1
                  replace p11 := eq_true p11
                  replace q11 := eq_true q11
                  go_wp2_with (first | ((with_reducible refine gate_builtin (b := .append) (xs := #[.tmp 26, .tmp 28]) rfl ?_); at_builtin; refine Kd.R_append (Kd.int .i64) (w0 := w) w.heap.size rfl (.tmp 26) (.tmp 28) 25 2 (.int .i64 0) 8 rfl Tryd.underlying25 info2 rfl (by decide) (by omega) u5 x5_1 x11_1 [.int .i64 x11_1] (fun _ => True) (fun _ => False) rfl rfl ?aP (fun _ hk => hk.elim) ?aF ?aO ?aB ?aS ?aL ?_; (case aP => exact rfl); (case aB => exact (by repeat (first | (with_reducible first | exact HB.out | apply below_alloc | apply pw_below_drewN | apply below_drew1) | exact HB.out))); (case aF => exact (fun _ _ => trivial)); (case aO => exact (by (with_reducible repeat (first | apply Kd.R_alloc | apply Kd.R_drewN | apply Kd.R_drew)); exact HO_5.out)); (case aS => exact (below_size (by repeat (first | (with_reducible first | exact HB.out | apply below_alloc | apply pw_below_drewN | apply below_drew1) | exact HB.out)))); (case aL => have := LMc13.out; omega); intro v127 w15 ho hb hg hat; rw [← Ny126.out] at ho; have n0_ := Aside0.mk (hb); have n1_ := Aside0.mk (ho); clear HB; clear HO_5; have HB := n0_; have HO128 := n1_; clear n0_ n1_; clear ho hb hg hat; have p14 : 0 ≤ (x11_1 : Int) := of_decide_eq_true (by first | (with_reducible assumption) | assumption); have q14 : x11_1 < (a0.size : Int) := of_decide_eq_true (by first | (with_reducible assumption) | assumption); have hx14 := bt_at a0 x11_1; replace p14 := eq_true p14; replace q14 := eq_true q14))
                  go_roundg k1
                  case measure => have := HK1.out; omega
                  case rel => exact ⟨(y126), (bt a0 x11_1), (wrap64 (x11_1 + 1)), (by first | rfl | (simp; done) | (simp [*]; done)), (by first | rfl | (simp; done) | (simp [*]; done)), H', ⟨by have := HK1.out; omega⟩, ⟨by (with_reducible repeat (first | apply Kd.R_alloc | apply Kd.R_drewN | apply Kd.R_drew)); exact HO128.out⟩, ⟨by repeat (first | (with_reducible first | exact HB.out | apply below_alloc | apply pw_below_drewN | apply below_drew1) | exact HB.out)⟩⟩
                · rw [if_neg c13] at H
                  exact absurd H (by simp)
              · rw [if_neg c12] at H
                have c12b0 : ((bt a0 x11_1) == a1) = false := beq_eq_false_iff_ne.mpr c12
                have c12b1 : ((bt a0 x11_1) != a1) = true := bne_iff_ne.mpr c12
                have H' := Aside0.mk H
                clear H
                have p8 : 0 ≤ (x11_1 : Int) := of_decide_eq_true (by first | (with_reducible assumption) | assumption)
                have q8 : x11_1 < (a0.size : Int) := of_decide_eq_true (by first | (with_reducible assumption) | assumption)
                have hx8 := bt_at a0 x11_1
                replace p8 := eq_true p8
                replace q8 := eq_true q8
                have p11 : 0 ≤ (x11_1 : Int) := of_decide_eq_true (by first | (with_reducible assumption) | assumption)
                have q11 : x11_1 < (a0.size : Int) := of_decide_eq_true (by first | (with_reducible assumption) | assumption)
                have hx11 := bt_at a0 x11_1
                replace p11 := eq_true p11
                replace q11 := eq_true q11
                have p16 : 0 ≤ (x11_1 : Int) := of_decide_eq_true (by first | (with_reducible assumption) | assumption)
                have q16 : x11_1 < (a0.size : Int) := of_decide_eq_true (by first | (with_reducible assumption) | assumption)
                have hx16 := bt_at a0 x11_1
                replace p16 := eq_true p16
                replace q16 := eq_true q16
                go_wp2
                go_roundg k1
                case measure => have := HK1.out; omega
                case rel => exact ⟨(x5_1), (bt a0 x11_1), (wrap64 (x11_1 + 1)), (by first | rfl | (simp; done) | (simp [*]; done)), (by first | rfl | (simp; done) | (simp [*]; done)), H', ⟨by have := HK1.out; omega⟩, ⟨by (with_reducible repeat (first | apply Kd.R_alloc | apply Kd.R_drewN | apply Kd.R_drew)); exact HO_5.out⟩, ⟨by repeat (first | (with_reducible first | exact HB.out | apply below_alloc | apply pw_below_drewN | apply below_drew1) | exact HB.out)⟩⟩
          · rw [if_neg c7] at H
            exact absurd H (by simp)
        · rw [if_neg c6] at H
          exact absurd H (by simp)
      · rw [if_neg c5] at H
        have c5b0 : decide (x11_1 < (a0.size : Int)) = false := decide_eq_false c5
        clear c5
        obtain rfl := Option.some.inj H
        go_wp2
        go_ret
        exact ⟨_, by first | rfl | (simp [errW_none, errW_some] <;> rfl) | (simp [*, errW_none, errW_some] <;> rfl), by (with_reducible repeat (first | apply Kd.R_alloc | apply Kd.R_drewN | apply Kd.R_drew)); exact HO_5.out, by repeat (first | (with_reducible first | exact HB.out | apply below_alloc | apply pw_below_drewN | apply below_drew1) | exact HB.out)⟩

end Go.Proofs.YtpmdiolkhmfphaaDoor.X

-- Written by a program of this session out of the kit's print of the loaded functions: a plain function of a Go function, and its contract.
namespace Go.Proofs.YtpmdiolkhmfphaaDoor.X
open Go.RowKit Go.Proofs.YtpmdiolkhmfphaaDoorW.PrintWords Go.Proofs.YtpmdiolkhmfphaaDoorW.PrintLast Go.Proofs.YtpmdiolkhmfphaaDoorW.PrintMore
attribute [local go_sem] max2_int min2_int max_two min_two max_three min_three max_four min_four   -- for this text's walks alone
set_option linter.unusedVariables false
set_option linter.unusedSimpArgs false

/-! ### spec_l01Edges: function 15 -/
def spec_l01Edges.l0 : Nat → ByteArray → Int → List Int → Int → Int → Option (List Int)
  | 0, _, _, _, _, _ => none
  | k + 1, x0, x1, x5, x6, x7 => if x7 < (x0.size : Int) then (if 0 ≤ x7 then (if (bt x0 x7) = x1 then (if x6 = x1 then (spec_l01Edges.l0 k x0 x1 x5 (bt x0 x7) (wrap64 (x7 + 1))) else (if x5.length < 17592186044416 then (spec_l01Edges.l0 k x0 x1 (x5 ++ [x7]) (bt x0 x7) (wrap64 (x7 + 1))) else (none))) else (spec_l01Edges.l0 k x0 x1 x5 (bt x0 x7) (wrap64 (x7 + 1)))) else (none)) else (some x5)
def spec_l01Edges.f (k : Nat) (a0 : ByteArray) (a1 : Int) : Option (List Int) := spec_l01Edges.l0 k a0 a1 (([] : List Int)) 48 0
theorem spec_l01Edges.mono_l : ∀ k, (∀ y0 y1 y2 y3 y4, LeO (spec_l01Edges.l0 k y0 y1 y2 y3 y4) (spec_l01Edges.l0 (k + 1) y0 y1 y2 y3 y4))
  | 0 => fun _ _ _ _ _ r h => by simp [spec_l01Edges.l0] at h
  | k + 1 => by
    have ih0 := spec_l01Edges.mono_l k
    · intro y0 y1 y2 y3 y4
      unfold spec_l01Edges.l0
      repeat' first
      | (with_reducible exact ih0 _ _ _ _ _)
      | (with_reducible exact LeO.refl _)
      | (with_reducible exact LeO.none _)
      | (with_reducible refine LeO.ite ?_ ?_)
      | (with_reducible refine LeO.bind ?_ (fun _ => ?_))
      | exact ih0 _ _ _ _ _
      | exact LeO.none _
      | refine LeO.ite ?_ ?_
      | refine LeO.bind ?_ (fun _ => ?_)
theorem spec_l01Edges.mono : ∀ a0 a1 k, LeO (spec_l01Edges.f k a0 a1) (spec_l01Edges.f (k + 1) a0 a1) := by
  intro a0 a1 k
  have ih0 := spec_l01Edges.mono_l k
  unfold spec_l01Edges.f
  repeat' first
      | (with_reducible exact ih0 _ _ _ _ _)
      | (with_reducible exact LeO.refl _)
      | (with_reducible exact LeO.none _)
      | (with_reducible refine LeO.ite ?_ ?_)
      | (with_reducible refine LeO.bind ?_ (fun _ => ?_))
      | exact ih0 _ _ _ _ _
      | exact LeO.none _
      | refine LeO.ite ?_ ?_
      | refine LeO.bind ?_ (fun _ => ?_)
set_option maxHeartbeats 8000000 in
set_option maxRecDepth 100000 in
theorem spec_l01Edges.calls (k : Nat) (a0 : ByteArray) (a1 : Int) (r : List Int) (w : World) (h : spec_l01Edges.f k a0 a1 = some r) :
    Calls Tryd.prog 15 #[.string a0, .int .u8 a1] w fun e w' => ∃ v0_ : Value, e = .returned (v0_) ∧ Kd.R (Kd.int .i64) 2 w' w.heap.size (fun _ => True) v0_ r ∧ Below w.heap.size w w' := by
  have HB := Aside0.mk (Below.refl w.heap.size w)
  have H : (spec_l01Edges.l0 k a0 a1 (([] : List Int)) 48 0) = some r := h
  clear h
  obtain ⟨y103, hy103⟩ : ∃ y_ : List Int, y_ = (([] : List Int)) := ⟨_, rfl⟩
  replace H : (spec_l01Edges.l0 k a0 a1 y103 48 0) = some r := by first | (rw [hy103]; with_reducible exact H) | (have H2_ := (Option.bind_some _ _).symm.trans H; rw [hy103]; with_reducible exact H2_) | (have H2_ := (Option.bind_some _ _).symm.trans H; with_reducible exact H2_) | with_reducible exact H | (rw [hy103]; exact H) | exact H
  have Ny103 := Aside0.mk hy103
  clear hy103
  have H' := Aside0.mk H
  clear H
  go_enter Tryd.func15, Tryd.ntmps15
  go_wp2_with (first | ((with_reducible refine gate_dst (N := 8) rfl ?_); refine Kd.R_lit (Kd.int .i64) _ 2 ?hg (N := 8) ?hd (xs := ([] : List Int)) (inner := []) (ok := fun _ => True) (okp := fun _ => True) ?hr ?hp (fun _ hk => hk) trivial (Below.refl _ _) (Nat.le_refl _) (by simp) ?_; (case hd => rfl); (case hg => rfl); (case hr => first | (go_simp; done) | (go_simp; rfl)); (case hp => exact (Reps.none _ _)); intro v104 w3 ho4 hb hg_ hnew_; clear hg_ hnew_; (first | rw [← Ny103.out] at ho4 | (simp only [Int.reduceToNat] at ho4; rw [← Ny103.out] at ho4)); have n0_ := Aside0.mk (Kd.R_lower ho4 (below_size (by repeat (first | (with_reducible first | exact HB.out | apply below_alloc | apply pw_below_drewN | apply below_drew1) | exact HB.out)))); have n1_ := Aside0.mk (below_step (by repeat (first | (with_reducible first | exact HB.out | apply below_alloc | apply pw_below_drewN | apply below_drew1) | exact HB.out)) hb); clear HB; have HO105 := n0_; have HB := n1_; clear n0_ n1_; clear hb ho4))
  go_loopg [5, 6, 7] k (fun kq v5 v6 v7 w' => ∃ (x5_1 : List Int) (x6_1 : Int) (x7_1 : Int), v6 = .int .u8 x6_1 ∧ v7 = .int .i64 x7_1 ∧ Aside0 (spec_l01Edges.l0 kq a0 a1 x5_1 x6_1 x7_1 = some r) ∧ Aside0 (kq ≤ k) ∧ Aside0 (Kd.R (Kd.int .i64) 2 w' w.heap.size (fun _ => True) v5 x5_1) ∧ Aside0 (Below w.heap.size w w'))
  case atStart => exact ⟨(y103), (48), (0), (by first | rfl | (simp; done) | (simp [*]; done)), (by first | rfl | (simp; done) | (simp [*]; done)), H', ⟨Nat.le_refl _⟩, ⟨by (with_reducible repeat (first | apply Kd.R_alloc | apply Kd.R_drewN | apply Kd.R_drew)); exact HO105.out⟩, ⟨by repeat (first | (with_reducible first | exact HB.out | apply below_alloc | apply pw_below_drewN | apply below_drew1) | exact HB.out)⟩⟩
  case round =>
    clear H'
    try clear c1
    try clear p2
    obtain ⟨x5_1, x6_1, x7_1, rfl, rfl, HA, HK1, HO_5, HB⟩ := hrel
    cases gk with
    | zero => exact absurd HA.out (by simp [spec_l01Edges.l0])
    | succ k1 =>
      have H := HA.out
      clear HA
      simp only [spec_l01Edges.l0] at H
      by_cases c5 : x7_1 < (a0.size : Int)
      · rw [if_pos c5] at H
        have c5b0 : decide (x7_1 < (a0.size : Int)) = true := decide_eq_true c5
        clear c5
        by_cases c6 : 0 ≤ x7_1
        · rw [if_pos c6] at H
          have c6b0 : decide (0 ≤ x7_1) = true := decide_eq_true c6
          clear c6
          by_cases c8 : (bt a0 x7_1) = a1
          · rw [if_pos c8] at H
            have c8b0 : ((bt a0 x7_1) == a1) = true := beq_iff_eq.mpr c8
            have c8b1 : ((bt a0 x7_1) != a1) = false := bne_eq_false_iff_eq.mpr c8
            clear c8
            by_cases c9 : x6_1 = a1
            · rw [if_pos c9] at H
              have c9b0 : (x6_1 == a1) = true := beq_iff_eq.mpr c9
              have c9b1 : (x6_1 != a1) = false := bne_eq_false_iff_eq.mpr c9
              clear c9
              have H' := Aside0.mk H
              clear H
              have p7 : 0 ≤ (x7_1 : Int) := of_decide_eq_true (by first | (with_reducible assumption) | assumption)
              have q7 : x7_1 < (a0.size : Int) := of_decide_eq_true (by first | (with_reducible assumption) | assumption)
              have hx7 := bt_at a0 x7_1
              replace p7 := eq_true p7
              replace q7 := eq_true q7
              have p10 : 0 ≤ (x7_1 : Int) := of_decide_eq_true (by first | (with_reducible assumption) | assumption)
              have q10 : x7_1 < (a0.size : Int) := of_decide_eq_true (by first | (with_reducible assumption) | assumption)
              have hx10 := bt_at a0 x7_1
              replace p10 := eq_true p10
              replace q10 := eq_true q10
              go_wp2
              go_roundg k1
              case measure => have := HK1.out; omega
              case rel => exact ⟨(x5_1), (bt a0 x7_1), (wrap64 (x7_1 + 1)), (by first | rfl | (simp; done) | (simp [*]; done)), (by first | rfl | (simp; done) | (simp [*]; done)), H', ⟨by have := HK1.out; omega⟩, ⟨by (with_reducible repeat (first | apply Kd.R_alloc | apply Kd.R_drewN | apply Kd.R_drew)); exact HO_5.out⟩, ⟨by repeat (first | (with_reducible first | exact HB.out | apply below_alloc | apply pw_below_drewN | apply below_drew1) | exact HB.out)⟩⟩
            · rw [if_neg c9] at H
              have c9b0 : (x6_1 == a1) = false := beq_eq_false_iff_ne.mpr c9
              have c9b1 : (x6_1 != a1) = true := bne_iff_ne.mpr c9
              by_cases c11 : x5_1.length < 17592186044416
              · rw [if_pos c11] at H
                have LMc11 := Aside0.mk c11
                clear c11
                obtain ⟨y106, hy106⟩ : ∃ y_ : List Int, y_ = (x5_1 ++ [x7_1]) := ⟨_, rfl⟩
                replace H : (spec_l01Edges.l0 k1 a0 a1 y106 (bt a0 x7_1) (wrap64 (x7_1 + 1))) = some r := by first | (rw [hy106]; with_reducible exact H) | (have H2_ := (Option.bind_some _ _).symm.trans H; rw [hy106]; with_reducible exact H2_) | (have H2_ := (Option.bind_some _ _).symm.trans H; with_reducible exact H2_) | with_reducible exact H | (rw [hy106]; exact H) | exact H
                have Ny106 := Aside0.mk hy106
                clear hy106
                have H' := Aside0.mk H
                clear H
                have p7 : 0 ≤ (x7_1 : Int) := of_decide_eq_true (by first | (with_reducible assumption) | assumption)
                have q7 : x7_1 < (a0.size : Int) := of_decide_eq_true (by first | (with_reducible assumption) | assumption)
                have hx7 := bt_at a0 x7_1
                replace p7 := eq_true p7
                replace q7 := eq_true q7
                go_wp2_with (first | ((with_reducible refine gate_builtin (b := .append) (xs := #[.tmp 25, .tmp 27]) rfl ?_); at_builtin; refine Kd.R_append (Kd.int .i64) (w0 := w) w.heap.size rfl (.tmp 25) (.tmp 27) 25 2 (.int .i64 0) 8 rfl Tryd.underlying25 info2 rfl (by decide) (by omega) u5 x5_1 x7_1 [.int .i64 x7_1] (fun _ => True) (fun _ => False) rfl rfl ?aP (fun _ hk => hk.elim) ?aF ?aO ?aB ?aS ?aL ?_; (case aP => exact rfl); (case aB => exact (by repeat (first | (with_reducible first | exact HB.out | apply below_alloc | apply pw_below_drewN | apply below_drew1) | exact HB.out))); (case aF => exact (fun _ _ => trivial)); (case aO => exact (by (with_reducible repeat (first | apply Kd.R_alloc | apply Kd.R_drewN | apply Kd.R_drew)); exact HO_5.out)); (case aS => exact (below_size (by repeat (first | (with_reducible first | exact HB.out | apply below_alloc | apply pw_below_drewN | apply below_drew1) | exact HB.out)))); (case aL => have := LMc11.out; omega); intro v107 w13 ho hb hg hat; rw [← Ny106.out] at ho; have n0_ := Aside0.mk (hb); have n1_ := Aside0.mk (ho); clear HB; clear HO_5; have HB := n0_; have HO108 := n1_; clear n0_ n1_; clear ho hb hg hat; have p12 : 0 ≤ (x7_1 : Int) := of_decide_eq_true (by first | (with_reducible assumption) | assumption); have q12 : x7_1 < (a0.size : Int) := of_decide_eq_true (by first | (with_reducible assumption) | assumption); have hx12 := bt_at a0 x7_1; replace p12 := eq_true p12; replace q12 := eq_true q12))
                go_roundg k1
                case measure => have := HK1.out; omega
                case rel => exact ⟨(y106), (bt a0 x7_1), (wrap64 (x7_1 + 1)), (by first | rfl | (simp; done) | (simp [*]; done)), (by first | rfl | (simp; done) | (simp [*]; done)), H', ⟨by have := HK1.out; omega⟩, ⟨by (with_reducible repeat (first | apply Kd.R_alloc | apply Kd.R_drewN | apply Kd.R_drew)); exact HO108.out⟩, ⟨by repeat (first | (with_reducible first | exact HB.out | apply below_alloc | apply pw_below_drewN | apply below_drew1) | exact HB.out)⟩⟩
              · rw [if_neg c11] at H
                exact absurd H (by simp)
          · rw [if_neg c8] at H
            have c8b0 : ((bt a0 x7_1) == a1) = false := beq_eq_false_iff_ne.mpr c8
            have c8b1 : ((bt a0 x7_1) != a1) = true := bne_iff_ne.mpr c8
            have H' := Aside0.mk H
            clear H
            have p7 : 0 ≤ (x7_1 : Int) := of_decide_eq_true (by first | (with_reducible assumption) | assumption)
            have q7 : x7_1 < (a0.size : Int) := of_decide_eq_true (by first | (with_reducible assumption) | assumption)
            have hx7 := bt_at a0 x7_1
            replace p7 := eq_true p7
            replace q7 := eq_true q7
            have p14 : 0 ≤ (x7_1 : Int) := of_decide_eq_true (by first | (with_reducible assumption) | assumption)
            have q14 : x7_1 < (a0.size : Int) := of_decide_eq_true (by first | (with_reducible assumption) | assumption)
            have hx14 := bt_at a0 x7_1
            replace p14 := eq_true p14
            replace q14 := eq_true q14
            go_wp2
            go_roundg k1
            case measure => have := HK1.out; omega
            case rel => exact ⟨(x5_1), (bt a0 x7_1), (wrap64 (x7_1 + 1)), (by first | rfl | (simp; done) | (simp [*]; done)), (by first | rfl | (simp; done) | (simp [*]; done)), H', ⟨by have := HK1.out; omega⟩, ⟨by (with_reducible repeat (first | apply Kd.R_alloc | apply Kd.R_drewN | apply Kd.R_drew)); exact HO_5.out⟩, ⟨by repeat (first | (with_reducible first | exact HB.out | apply below_alloc | apply pw_below_drewN | apply below_drew1) | exact HB.out)⟩⟩
        · rw [if_neg c6] at H
          exact absurd H (by simp)
      · rw [if_neg c5] at H
        have c5b0 : decide (x7_1 < (a0.size : Int)) = false := decide_eq_false c5
        clear c5
        obtain rfl := Option.some.inj H
        go_wp2
        go_ret
        exact ⟨_, by first | rfl | (simp [errW_none, errW_some] <;> rfl) | (simp [*, errW_none, errW_some] <;> rfl), by (with_reducible repeat (first | apply Kd.R_alloc | apply Kd.R_drewN | apply Kd.R_drew)); exact HO_5.out, by repeat (first | (with_reducible first | exact HB.out | apply below_alloc | apply pw_below_drewN | apply below_drew1) | exact HB.out)⟩

end Go.Proofs.YtpmdiolkhmfphaaDoor.X

-- Written by a program of this session out of the kit's print of the loaded functions: a plain function of a Go function, and its contract.
namespace Go.Proofs.YtpmdiolkhmfphaaDoor.X
open Go.RowKit Go.Proofs.YtpmdiolkhmfphaaDoorW.PrintWords Go.Proofs.YtpmdiolkhmfphaaDoorW.PrintLast Go.Proofs.YtpmdiolkhmfphaaDoorW.PrintMore
attribute [local go_sem] max2_int min2_int max_two min_two max_three min_three max_four min_four   -- for this text's walks alone
set_option linter.unusedVariables false
set_option linter.unusedSimpArgs false

/-! ### spec_l01Wave: function 13 -/
def spec_l01Wave.l0 : Nat → ByteArray → Int → Option (Bool)
  | 0, _, _ => none
  | k + 1, x0, x3 => if x3 < (x0.size : Int) then (if 0 ≤ x3 then (if (bt x0 x3) = 48 then (spec_l01Wave.l0 k x0 (wrap64 (x3 + 1))) else (if (bt x0 x3) = 49 then (spec_l01Wave.l0 k x0 (wrap64 (x3 + 1))) else (some false))) else (none)) else (some (decide ((x0.size : Int) ≤ 400)))
def spec_l01Wave.f (k : Nat) (a0 : ByteArray) : Option (Bool) := spec_l01Wave.l0 k a0 0
theorem spec_l01Wave.mono_l : ∀ k, (∀ y0 y1, LeO (spec_l01Wave.l0 k y0 y1) (spec_l01Wave.l0 (k + 1) y0 y1))
  | 0 => fun _ _ r h => by simp [spec_l01Wave.l0] at h
  | k + 1 => by
    have ih0 := spec_l01Wave.mono_l k
    · intro y0 y1
      unfold spec_l01Wave.l0
      repeat' first
      | (with_reducible exact ih0 _ _)
      | (with_reducible exact LeO.refl _)
      | (with_reducible exact LeO.none _)
      | (with_reducible refine LeO.ite ?_ ?_)
      | (with_reducible refine LeO.bind ?_ (fun _ => ?_))
      | exact ih0 _ _
      | exact LeO.none _
      | refine LeO.ite ?_ ?_
      | refine LeO.bind ?_ (fun _ => ?_)
theorem spec_l01Wave.mono : ∀ a0 k, LeO (spec_l01Wave.f k a0) (spec_l01Wave.f (k + 1) a0) := by
  intro a0 k
  have ih0 := spec_l01Wave.mono_l k
  unfold spec_l01Wave.f
  repeat' first
      | (with_reducible exact ih0 _ _)
      | (with_reducible exact LeO.refl _)
      | (with_reducible exact LeO.none _)
      | (with_reducible refine LeO.ite ?_ ?_)
      | (with_reducible refine LeO.bind ?_ (fun _ => ?_))
      | exact ih0 _ _
      | exact LeO.none _
      | refine LeO.ite ?_ ?_
      | refine LeO.bind ?_ (fun _ => ?_)
set_option maxHeartbeats 8000000 in
set_option maxRecDepth 100000 in
theorem spec_l01Wave.calls (k : Nat) (a0 : ByteArray) (r : Bool) (w : World) (h : spec_l01Wave.f k a0 = some r) :
    Calls Tryd.prog 13 #[.string a0] w fun e w' => e = .returned (.bool r) ∧ Drawn0 w w' := by
  have H : (spec_l01Wave.l0 k a0 0) = some r := h
  clear h
  have H' := Aside0.mk H
  clear H
  go_enter Tryd.func13, Tryd.ntmps13
  go_wp2
  go_loopg [3] k (fun kq v3 w' => ∃ (x3_1 : Int), v3 = .int .i64 x3_1 ∧ Aside0 (spec_l01Wave.l0 kq a0 x3_1 = some r) ∧ Aside0 (kq ≤ k) ∧ Drawn0 w w')
  case atStart => exact ⟨(0), (by first | rfl | (simp; done) | (simp [*]; done)), H', ⟨Nat.le_refl _⟩, by repeat (first | exact Drawn0.refl _ | apply Drawn0.step)⟩
  case round =>
    clear H'
    try clear c1
    obtain ⟨x3_1, rfl, HA, HK1, ⟨m1, rfl⟩⟩ := hrel
    cases gk with
    | zero => exact absurd HA.out (by simp [spec_l01Wave.l0])
    | succ k1 =>
      have H := HA.out
      clear HA
      simp only [spec_l01Wave.l0] at H
      by_cases c2 : x3_1 < (a0.size : Int)
      · rw [if_pos c2] at H
        have c2b0 : decide (x3_1 < (a0.size : Int)) = true := decide_eq_true c2
        clear c2
        by_cases c3 : 0 ≤ x3_1
        · rw [if_pos c3] at H
          have c3b0 : decide (0 ≤ x3_1) = true := decide_eq_true c3
          clear c3
          by_cases c5 : (bt a0 x3_1) = 48
          · rw [if_pos c5] at H
            have c5b0 : ((bt a0 x3_1) == 48) = true := beq_iff_eq.mpr c5
            have c5b1 : ((bt a0 x3_1) != 48) = false := bne_eq_false_iff_eq.mpr c5
            clear c5
            have H' := Aside0.mk H
            clear H
            have p4 : 0 ≤ (x3_1 : Int) := of_decide_eq_true (by first | (with_reducible assumption) | assumption)
            have q4 : x3_1 < (a0.size : Int) := of_decide_eq_true (by first | (with_reducible assumption) | assumption)
            have hx4 := bt_at a0 x3_1
            replace p4 := eq_true p4
            replace q4 := eq_true q4
            go_wp2
            go_roundg k1
            case measure => have := HK1.out; omega
            case rel => exact ⟨(wrap64 (x3_1 + 1)), (by first | rfl | (simp; done) | (simp [*]; done)), H', ⟨by have := HK1.out; omega⟩, by repeat (first | exact Drawn0.refl _ | apply Drawn0.step)⟩
          · rw [if_neg c5] at H
            have c5b0 : ((bt a0 x3_1) == 48) = false := beq_eq_false_iff_ne.mpr c5
            have c5b1 : ((bt a0 x3_1) != 48) = true := bne_iff_ne.mpr c5
            by_cases c7 : (bt a0 x3_1) = 49
            · rw [if_pos c7] at H
              have c7b0 : ((bt a0 x3_1) == 49) = true := beq_iff_eq.mpr c7
              have c7b1 : ((bt a0 x3_1) != 49) = false := bne_eq_false_iff_eq.mpr c7
              clear c7
              have H' := Aside0.mk H
              clear H
              have p4 : 0 ≤ (x3_1 : Int) := of_decide_eq_true (by first | (with_reducible assumption) | assumption)
              have q4 : x3_1 < (a0.size : Int) := of_decide_eq_true (by first | (with_reducible assumption) | assumption)
              have hx4 := bt_at a0 x3_1
              replace p4 := eq_true p4
              replace q4 := eq_true q4
              have p6 : 0 ≤ (x3_1 : Int) := of_decide_eq_true (by first | (with_reducible assumption) | assumption)
              have q6 : x3_1 < (a0.size : Int) := of_decide_eq_true (by first | (with_reducible assumption) | assumption)
              have hx6 := bt_at a0 x3_1
              replace p6 := eq_true p6
              replace q6 := eq_true q6
              go_wp2
              go_roundg k1
              case measure => have := HK1.out; omega
              case rel => exact ⟨(wrap64 (x3_1 + 1)), (by first | rfl | (simp; done) | (simp [*]; done)), H', ⟨by have := HK1.out; omega⟩, by repeat (first | exact Drawn0.refl _ | apply Drawn0.step)⟩
            · rw [if_neg c7] at H
              have c7b0 : ((bt a0 x3_1) == 49) = false := beq_eq_false_iff_ne.mpr c7
              have c7b1 : ((bt a0 x3_1) != 49) = true := bne_iff_ne.mpr c7
              obtain rfl := Option.some.inj H
              have p4 : 0 ≤ (x3_1 : Int) := of_decide_eq_true (by first | (with_reducible assumption) | assumption)
              have q4 : x3_1 < (a0.size : Int) := of_decide_eq_true (by first | (with_reducible assumption) | assumption)
              have hx4 := bt_at a0 x3_1
              replace p4 := eq_true p4
              replace q4 := eq_true q4
              have p6 : 0 ≤ (x3_1 : Int) := of_decide_eq_true (by first | (with_reducible assumption) | assumption)
              have q6 : x3_1 < (a0.size : Int) := of_decide_eq_true (by first | (with_reducible assumption) | assumption)
              have hx6 := bt_at a0 x3_1
              replace p6 := eq_true p6
              replace q6 := eq_true q6
              go_wp2
              go_ret
              exact ⟨by first | rfl | (simp; done) | (simp [*]; done), by repeat (first | exact Drawn0.refl _ | apply Drawn0.step)⟩
        · rw [if_neg c3] at H
          exact absurd H (by simp)
      · rw [if_neg c2] at H
        have c2b0 : decide (x3_1 < (a0.size : Int)) = false := decide_eq_false c2
        clear c2
        obtain rfl := Option.some.inj H
        go_wp2
        go_ret
        exact ⟨by first | rfl | (simp; done) | (simp [*]; done), by repeat (first | exact Drawn0.refl _ | apply Drawn0.step)⟩

end Go.Proofs.YtpmdiolkhmfphaaDoor.X

/- Waves in plain numbers: what the program's and the reference's ways of reading them tell. Conditions: as each lemma says. -/
namespace Go.Proofs.YtpmdiolkhmfphaaDoor.X
open Go.RowKit Go.Proofs.YtpmdiolkhmfphaaDoorW.PrintWords Go.Proofs.YtpmdiolkhmfphaaDoorW.PrintLast Go.Proofs.YtpmdiolkhmfphaaDoorW.PrintMore
set_option linter.unusedVariables false
set_option linter.unusedSimpArgs false

theorem within_eq (a b c : Int) : impl_within.f a b c = some (decide (b ≤ a ∧ a ≤ c)) := by
  unfold impl_within.f; by_cases h : a ≥ b <;> simp [h] <;> omega
theorem l00In_eq (a b c : Int) : spec_l00In.f a b c = some (decide (b ≤ a ∧ a ≤ c)) := by
  unfold spec_l00In.f; by_cases h : a ≥ b <;> simp [h] <;> omega

theorem bt_get (s : ByteArray) (i : Nat) (h : i < s.size) : bt s (i : Int) = ((s.data[i]'h).toNat : Int) := by
  unfold bt
  rw [dif_pos (by simpa using h)]
  rfl
theorem lev_bt (c : UInt8) : isLev c = true ↔ ((c.toNat : Int) = 48 ∨ (c.toNat : Int) = 49) := by
  unfold isLev
  rw [Bool.or_eq_true, beq_iff_eq, beq_iff_eq, ← UInt8.toNat_inj, ← UInt8.toNat_inj]
  constructor
  · rintro (h | h)
    · left; rw [h]; rfl
    · right; rw [h]; rfl
  · rintro (h | h)
    · left; have : c.toNat = 48 := by omega
      rw [this]; rfl
    · right; have : c.toNat = 49 := by omega
      rw [this]; rfl
/-- All levels are 0 or 1. -/
def Lev (s : ByteArray) : Prop := ∀ i : Nat, i < s.size → bt s (i : Int) = 48 ∨ bt s (i : Int) = 49
theorem all_lev (s : ByteArray) : s.data.toList.all isLev = true ↔ Lev s := by
  rw [List.all_eq_true]
  constructor
  · intro h i hi
    rw [bt_get s i hi]
    exact (lev_bt _).1 (h _ (by simp))
  · intro h c hc
    obtain ⟨i, hi, rfl⟩ := List.getElem_of_mem hc
    have h2 : i < s.size := by simpa using hi
    have := h i h2
    rw [bt_get s i h2] at this
    exact (lev_bt _).2 (by simpa using this)
theorem isW_iff (s : ByteArray) : isW s = true ↔ s.size ≤ 400 ∧ Lev s := by
  unfold isW; rw [Bool.and_eq_true, decide_eq_true_eq, all_lev]
theorem wave_eq (s : ByteArray) (h : s.size ≤ 140737488351232) : impl_IsWave.f s = some (isW s) := by unfold impl_IsWave.f; rw [if_pos (by omega)]

theorem wave_loop (s : ByteArray) (hs : s.size ≤ 140737488351232) : ∀ (d k i : Nat), i + d = s.size → d < k → (∀ j : Nat, j < i → bt s (j : Int) = 48 ∨ bt s (j : Int) = 49) → spec_l01Wave.l0 k s i = some (isW s)
  | 0, k, i, hi, hk, hj => by
    cases k with
    | zero => omega
    | succ k =>
      have hl : Lev s := fun j h => hj j (by omega)
      have e : isW s = decide ((s.size : Int) ≤ 400) := by
        rw [Bool.eq_iff_iff, isW_iff, decide_eq_true_eq]
        constructor
        · intro h; omega
        · intro h; exact ⟨by omega, hl⟩
      rw [spec_l01Wave.l0, if_neg (by omega), e]
  | d + 1, k, i, hi, hk, hj => by
    cases k with
    | zero => omega
    | succ k =>
      rw [spec_l01Wave.l0, if_pos (by omega), if_pos (by omega), w64 (by omega) (by omega)]
      have ih := fun hx => wave_loop s hs d k (i + 1) (by omega) (by omega) hx
      rw [Int.natCast_add, Int.natCast_one] at ih
      by_cases h0 : bt s (i : Int) = 48
      · rw [if_pos h0]
        exact ih (fun j hlt => by
          rcases Nat.lt_or_ge j i with h | h
          · exact hj j h
          · have : j = i := by omega
            subst this; exact .inl h0)
      · rw [if_neg h0]
        by_cases h1 : bt s (i : Int) = 49
        · rw [if_pos h1]
          exact ih (fun j hlt => by
            rcases Nat.lt_or_ge j i with h | h
            · exact hj j h
            · have : j = i := by omega
              subst this; exact .inr h1)
        · rw [if_neg h1]
          have : isW s = false := by
            rw [Bool.eq_false_iff]
            intro h
            rcases ((isW_iff s).1 h).2 i (by omega) with h2 | h2
            · exact h0 h2
            · exact h1 h2
          rw [this]
theorem swave_eq (k : Nat) (s : ByteArray) (hs : s.size ≤ 140737488351232) (hk : s.size < k) : spec_l01Wave.f k s = some (isW s) := by
  unfold spec_l01Wave.f
  exact wave_loop s hs s.size k 0 (by omega) hk (fun j h => absurd h (by omega))

/-- The level before a tick. -/
def prv (s : ByteArray) (i : Nat) : Int := if i = 0 then 48 else bt s ((i - 1 : Nat) : Int)
theorem prv_succ (s : ByteArray) (i : Nat) : prv s (i + 1) = bt s (i : Int) := by unfold prv; rw [if_neg (by omega)]; rfl
def isE (s : ByteArray) (c : Int) (i : Nat) : Bool := decide (bt s (i : Int) = c) && !decide (prv s i = c)
/-- The ticks before n at which a text changes to a level. -/
def edg (s : ByteArray) (c : Int) (n : Nat) : List Int := ((List.range n).filter (isE s c)).map fun (i : Nat) => (i : Int)
theorem edg_len (s : ByteArray) (c : Int) (n : Nat) : (edg s c n).length ≤ n := by
  unfold edg; rw [List.length_map]
  have := List.length_filter_le (isE s c) (List.range n)
  simpa using this
theorem edg_succ (s : ByteArray) (c : Int) (n : Nat) : edg s c (n + 1) = if isE s c n = true then edg s c n ++ [(n : Int)] else edg s c n := by
  unfold edg
  rw [List.range_succ, List.filter_append, List.map_append, List.filter_cons]
  split <;> simp
theorem edg_mem (s : ByteArray) (c : Int) (n : Nat) (x : Int) : x ∈ edg s c n ↔ ∃ i : Nat, i < n ∧ isE s c i = true ∧ x = i := by
  unfold edg
  simp only [List.mem_map, List.mem_filter, List.mem_range]
  constructor
  · rintro ⟨i, ⟨h1, h2⟩, rfl⟩; exact ⟨i, h1, h2, rfl⟩
  · rintro ⟨i, h1, h2, rfl⟩; exact ⟨i, ⟨h1, h2⟩, rfl⟩
theorem edges_loop (s : ByteArray) (c : Int) (hs : s.size ≤ 1000000) : ∀ (d k i : Nat), i + d = s.size → d < k →
    impl_changesTo.l0 k s c (edg s c i) (prv s i) s.size i = some (edg s c s.size) ∧ spec_l01Edges.l0 k s c (edg s c i) (prv s i) i = some (edg s c s.size)
  | 0, k, i, hi, hk => by
    cases k with
    | zero => omega
    | succ k =>
      constructor
      · rw [impl_changesTo.l0, if_neg (by omega), show i = s.size by omega]
      · rw [spec_l01Edges.l0, if_neg (by omega), show i = s.size by omega]
  | d + 1, k, i, hi, hk => by
    cases k with
    | zero => omega
    | succ k =>
      have ih := edges_loop s c hs d k (i + 1) (by omega) (by omega)
      have hl := edg_len s c i
      rw [prv_succ, edg_succ, Int.natCast_add, Int.natCast_one] at ih
      constructor
      · rw [impl_changesTo.l0, if_pos (by omega), if_pos (by omega), if_pos (by omega), w64 (by omega) (by omega), if_pos (show (edg s c i).length < 17592186044416 by omega)]
        by_cases h1 : bt s (i : Int) = prv s i
        · rw [if_pos h1]
          have : isE s c i = false := by unfold isE; rw [h1]; cases decide (prv s i = c) <;> rfl
          rw [this] at ih; exact ih.1
        · rw [if_neg h1]
          by_cases h2 : bt s (i : Int) = c
          · have : isE s c i = true := by
              unfold isE
              rw [decide_eq_true h2, decide_eq_false (by intro h; exact h1 (h2.trans h.symm))]; rfl
            rw [if_pos h2]
            rw [this] at ih; exact ih.1
          · have : isE s c i = false := by unfold isE; rw [decide_eq_false h2]; rfl
            rw [if_neg h2]
            rw [this] at ih; exact ih.1
      · rw [spec_l01Edges.l0, if_pos (by omega), if_pos (by omega), w64 (by omega) (by omega), if_pos (show (edg s c i).length < 17592186044416 by omega)]
        by_cases h2 : bt s (i : Int) = c
        · rw [if_pos h2]
          by_cases h3 : prv s i = c
          · have : isE s c i = false := by unfold isE; rw [decide_eq_true h3]; cases decide (bt s (i : Int) = c) <;> rfl
            rw [if_pos h3]
            rw [this] at ih; exact ih.2
          · have : isE s c i = true := by unfold isE; rw [decide_eq_true h2, decide_eq_false h3]; rfl
            rw [if_neg h3]
            rw [this] at ih; exact ih.2
        · have : isE s c i = false := by unfold isE; rw [decide_eq_false h2]; rfl
          rw [if_neg h2]
          rw [this] at ih; exact ih.2
theorem changes_eq (k : Nat) (s : ByteArray) (c : Int) (hs : s.size ≤ 1000000) (hk : s.size < k) : impl_changesTo.f k s c = some (edg s c s.size) := by
  unfold impl_changesTo.f
  have := (edges_loop s c hs s.size k 0 (by omega) hk).1
  simpa [edg, prv] using this
theorem edges_eq (k : Nat) (s : ByteArray) (c : Int) (hs : s.size ≤ 1000000) (hk : s.size < k) : spec_l01Edges.f k s c = some (edg s c s.size) := by
  unfold spec_l01Edges.f
  have := (edges_loop s c hs s.size k 0 (by omega) hk).2
  simpa [edg, prv] using this
end Go.Proofs.YtpmdiolkhmfphaaDoor.X

-- Written by a program of this session out of the kit's print of the loaded functions: a plain function of a Go function, and its contract.
namespace Go.Proofs.YtpmdiolkhmfphaaDoor.X
open Go.RowKit Go.Proofs.YtpmdiolkhmfphaaDoorW.PrintWords Go.Proofs.YtpmdiolkhmfphaaDoorW.PrintLast Go.Proofs.YtpmdiolkhmfphaaDoorW.PrintMore
attribute [local go_sem] max2_int min2_int max_two min_two max_three min_three max_four min_four   -- for this text's walks alone
set_option linter.unusedVariables false
set_option linter.unusedSimpArgs false

/-! ### impl_pulses: function 12 -/
mutual
def impl_pulses.l0 : Nat → ByteArray → List (S32) → List Int → Int → Int → Option ((List (S32)))
  | 0, _, _, _, _, _ => none
  | k + 1, x0, x3, x10, x11, x12 => if x12 < x11 then (if 0 ≤ x12 then (if x12 < (x10.length : Int) then (impl_pulses.l1 k x0 x3 (rd x10 x12) 0 (rd x10 x12) x10 x11 x12) else (none)) else (none)) else (some x3)
def impl_pulses.l1 : Nat → ByteArray → List (S32) → Int → Int → Int → List Int → Int → Int → Option ((List (S32)))
  | 0, _, _, _, _, _, _, _, _ => none
  | k + 1, x0, x3, x5, x6, x7, x10, x11, x12 => if x7 < (x0.size : Int) then (if 0 ≤ x7 then (if (bt x0 x7) = 49 then (impl_pulses.l1 k x0 x3 x5 (wrap64 (x6 + 1)) (wrap64 (x7 + 1)) x10 x11 x12) else (if x3.length < 8796093022208 then (impl_pulses.l0 k x0 (x3 ++ [(⟨x5, x6⟩ : S32)]) x10 x11 (wrap64 (x12 + 1))) else (none))) else (none)) else (if x3.length < 8796093022208 then (impl_pulses.l0 k x0 (x3 ++ [(⟨x5, x6⟩ : S32)]) x10 x11 (wrap64 (x12 + 1))) else (none))
end
def impl_pulses.f (k : Nat) (a0 : ByteArray) : Option ((List (S32))) := (impl_changesTo.f k a0 49).bind fun t132 => (impl_pulses.l0 k a0 (([] : List (S32))) t132 (t132.length : Int) 0)
theorem impl_pulses.mono_l : ∀ k, (∀ y0 y1 y2 y3 y4, LeO (impl_pulses.l0 k y0 y1 y2 y3 y4) (impl_pulses.l0 (k + 1) y0 y1 y2 y3 y4)) ∧ (∀ y0 y1 y2 y3 y4 y5 y6 y7, LeO (impl_pulses.l1 k y0 y1 y2 y3 y4 y5 y6 y7) (impl_pulses.l1 (k + 1) y0 y1 y2 y3 y4 y5 y6 y7))
  | 0 => ⟨fun _ _ _ _ _ r h => by simp [impl_pulses.l0] at h, fun _ _ _ _ _ _ _ _ r h => by simp [impl_pulses.l1] at h⟩
  | k + 1 => by
    obtain ⟨ih0, ih1⟩ := impl_pulses.mono_l k
    refine ⟨?_, ?_⟩
    · intro y0 y1 y2 y3 y4
      unfold impl_pulses.l0
      repeat' first
      | (with_reducible exact ih0 _ _ _ _ _)
      | (with_reducible exact ih1 _ _ _ _ _ _ _ _)
      | (with_reducible exact impl_changesTo.mono _ _ _)
      | (with_reducible exact LeO.refl _)
      | (with_reducible exact LeO.none _)
      | (with_reducible refine LeO.ite ?_ ?_)
      | (with_reducible refine LeO.bind ?_ (fun _ => ?_))
      | exact ih0 _ _ _ _ _
      | exact ih1 _ _ _ _ _ _ _ _
      | exact impl_changesTo.mono _ _ _
      | exact LeO.none _
      | refine LeO.ite ?_ ?_
      | refine LeO.bind ?_ (fun _ => ?_)
    · intro y0 y1 y2 y3 y4 y5 y6 y7
      unfold impl_pulses.l1
      repeat' first
      | (with_reducible exact ih0 _ _ _ _ _)
      | (with_reducible exact ih1 _ _ _ _ _ _ _ _)
      | (with_reducible exact impl_changesTo.mono _ _ _)
      | (with_reducible exact LeO.refl _)
      | (with_reducible exact LeO.none _)
      | (with_reducible refine LeO.ite ?_ ?_)
      | (with_reducible refine LeO.bind ?_ (fun _ => ?_))
      | exact ih0 _ _ _ _ _
      | exact ih1 _ _ _ _ _ _ _ _
      | exact impl_changesTo.mono _ _ _
      | exact LeO.none _
      | refine LeO.ite ?_ ?_
      | refine LeO.bind ?_ (fun _ => ?_)
theorem impl_pulses.mono : ∀ a0 k, LeO (impl_pulses.f k a0) (impl_pulses.f (k + 1) a0) := by
  intro a0 k
  obtain ⟨ih0, ih1⟩ := impl_pulses.mono_l k
  unfold impl_pulses.f
  repeat' first
      | (with_reducible exact ih0 _ _ _ _ _)
      | (with_reducible exact ih1 _ _ _ _ _ _ _ _)
      | (with_reducible exact impl_changesTo.mono _ _ _)
      | (with_reducible exact LeO.refl _)
      | (with_reducible exact LeO.none _)
      | (with_reducible refine LeO.ite ?_ ?_)
      | (with_reducible refine LeO.bind ?_ (fun _ => ?_))
      | exact ih0 _ _ _ _ _
      | exact ih1 _ _ _ _ _ _ _ _
      | exact impl_changesTo.mono _ _ _
      | exact LeO.none _
      | refine LeO.ite ?_ ?_
      | refine LeO.bind ?_ (fun _ => ?_)
set_option maxHeartbeats 8000000 in
set_option maxRecDepth 100000 in
theorem impl_pulses.calls (k : Nat) (a0 : ByteArray) (r : List (S32)) (w : World) (h : impl_pulses.f k a0 = some r) :
    Calls Tryd.prog 12 #[.string a0] w fun e w' => ∃ v0_ : Value, e = .returned (v0_) ∧ Kd.R k32 32 w' w.heap.size (fun _ => True) v0_ r ∧ Below w.heap.size w w' := by
  have hu32 := Tryd.underlying32
  have HB := Aside0.mk (Below.refl w.heap.size w)
  have H : ((impl_changesTo.f k a0 49).bind fun t132 => (impl_pulses.l0 k a0 (([] : List (S32))) t132 (t132.length : Int) 0)) = some r := h
  clear h
  obtain ⟨y129, hy129⟩ : ∃ y_ : List (S32), y_ = (([] : List (S32))) := ⟨_, rfl⟩
  replace H : ((impl_changesTo.f k a0 49).bind fun t132 => (impl_pulses.l0 k a0 y129 t132 (t132.length : Int) 0)) = some r := by first | (rw [hy129]; with_reducible exact H) | (have H2_ := (Option.bind_some _ _).symm.trans H; rw [hy129]; with_reducible exact H2_) | (have H2_ := (Option.bind_some _ _).symm.trans H; with_reducible exact H2_) | with_reducible exact H | (rw [hy129]; exact H) | exact H
  have Ny129 := Aside0.mk hy129
  clear hy129
  replace H := Option.bind_eq_some_iff.mp H
  obtain ⟨t132, A20, H⟩ := H
  replace H : (impl_pulses.l0 k a0 y129 t132 (t132.length : Int) 0) = some r := H
  have A2 := Aside0.mk A20
  clear A20
  have H' := Aside0.mk H
  clear H
  go_enter Tryd.func12, Tryd.ntmps12
  go_wp2_with (first | ((with_reducible refine gate_dst (N := 8) rfl ?_); refine Kd.R_lit k32 _ 32 ?hg (N := 8) ?hd (xs := ([] : List (S32))) (inner := []) (ok := fun _ => True) (okp := fun _ => True) ?hr ?hp (fun _ hk => hk) trivial (Below.refl _ _) (Nat.le_refl _) (by simp) ?_; (case hd => rfl); (case hg => rfl); (case hr => first | (go_simp; done) | (go_simp; rfl)); (case hp => exact (Reps.none _ _)); intro v130 w3 ho4 hb hg_ hnew_; clear hg_ hnew_; (first | rw [← Ny129.out] at ho4 | (simp only [Int.reduceToNat] at ho4; rw [← Ny129.out] at ho4)); have n0_ := Aside0.mk (Kd.R_lower ho4 (below_size (by repeat (first | (with_reducible first | exact HB.out | apply below_alloc | apply pw_below_drewN | apply below_drew1) | exact HB.out)))); have n1_ := Aside0.mk (below_step (by repeat (first | (with_reducible first | exact HB.out | apply below_alloc | apply pw_below_drewN | apply below_drew1) | exact HB.out)) hb); clear HB; have HO131 := n0_; have HB := n1_; clear n0_ n1_; clear hb ho4) | ((with_reducible refine gate_callee (f := 18) rfl ?_); refine goesL_ (some 10) rfl rfl Tryd.func18 (by kernel_rfl) rfl #[.string a0, .int .u8 49] rfl (by (try simp only [List.map_toArray, List.map_cons, List.map_nil]); first | done | rfl | (simp only [List.length_drop, List.length_take]; rfl)) ?_; (with_reducible refine (impl_changesTo.calls k a0 49 t132 _ A2.out).mono ?_); rintro e w5 ⟨v133, rfl, ho0, hb⟩; refine ⟨_, rfl, ?_⟩; have n0_ := Aside0.mk (Kd.R_below (by (with_reducible repeat (first | apply Kd.R_alloc | apply Kd.R_drewN | apply Kd.R_drew)); exact HO131.out) hb); have n1_ := Aside0.mk (Kd.R_lower ho0 (below_size (by repeat (first | (with_reducible first | exact HB.out | apply below_alloc | apply pw_below_drewN | apply below_drew1) | exact HB.out)))); have n2_ := Aside0.mk (below_step (by repeat (first | (with_reducible first | exact HB.out | apply below_alloc | apply pw_below_drewN | apply below_drew1) | exact HB.out)) hb); clear HO131; clear HB; have HO131 := n0_; have HO134 := n1_; have HB := n2_; clear n0_ n1_ n2_; (try clear hb); (try clear hb2); (try clear hk); (try clear hi); (try clear ho0); obtain ⟨Ao6, co6, eo6⟩ := Kd.R_slice HO134.out; subst eo6))
  go_loopg [3, 12] k (fun kq v3 v12 w' => ∃ (x3_1 : List (S32)) (x12_1 : Int), v12 = .int .i64 x12_1 ∧ Aside0 (impl_pulses.l0 kq a0 x3_1 t132 (t132.length : Int) x12_1 = some r) ∧ Aside0 (kq ≤ k) ∧ Aside0 (Kd.R k32 32 w' w.heap.size (fun _ => True) v3 x3_1) ∧ Aside0 (Kd.R (Kd.int .i64) 2 w' w.heap.size (fun _ => True) (.slice Ao6 t132.length co6) t132) ∧ Aside0 (Below w.heap.size w w'))
  case atStart => exact ⟨(y129), (0), (by first | rfl | (simp; done) | (simp [*]; done)), H', ⟨Nat.le_refl _⟩, ⟨by (with_reducible repeat (first | apply Kd.R_alloc | apply Kd.R_drewN | apply Kd.R_drew)); exact HO131.out⟩, ⟨by (with_reducible repeat (first | apply Kd.R_alloc | apply Kd.R_drewN | apply Kd.R_drew)); exact HO134.out⟩, ⟨by repeat (first | (with_reducible first | exact HB.out | apply below_alloc | apply pw_below_drewN | apply below_drew1) | exact HB.out)⟩⟩
  case round =>
    clear H'
    try clear c1
    try clear p2
    obtain ⟨x3_1, x12_1, rfl, HA, HK1, HO_3, HO_10, HB⟩ := hrel
    cases gk with
    | zero => exact absurd HA.out (by simp [impl_pulses.l0])
    | succ k1 =>
      have H := HA.out
      clear HA
      simp only [impl_pulses.l0] at H
      by_cases c7 : x12_1 < (t132.length : Int)
      · rw [if_pos c7] at H
        have c7b0 : decide (x12_1 < (t132.length : Int)) = true := decide_eq_true c7
        clear c7
        by_cases c8 : 0 ≤ x12_1
        · rw [if_pos c8] at H
          have c8b0 : decide (0 ≤ x12_1) = true := decide_eq_true c8
          clear c8
          by_cases c9 : x12_1 < (t132.length : Int)
          · rw [if_pos c9] at H
            have c9b0 : decide (x12_1 < (t132.length : Int)) = true := decide_eq_true c9
            clear c9
            have H' := Aside0.mk H
            clear H
            have p135 : 0 ≤ (x12_1 : Int) := of_decide_eq_true (by first | (with_reducible assumption) | assumption)
            have q135 : x12_1 < (t132.length : Int) := of_decide_eq_true (by first | (with_reducible assumption) | assumption)
            obtain ⟨ad135, e135, hx135_0⟩ := Kd.at_int (Kd.R_reads' HO_10.out).2.2 x12_1 p135 q135
            cases e135
            replace p135 := eq_true p135
            replace q135 := eq_true q135
            go_wp2
            go_loopg [6, 7] k1 (fun kq v6 v7 w' => ∃ (x6_2 : Int) (x7_2 : Int), v6 = .int .i64 x6_2 ∧ v7 = .int .i64 x7_2 ∧ Aside0 (impl_pulses.l1 kq a0 x3_1 (rd t132 x12_1) x6_2 x7_2 t132 (t132.length : Int) x12_1 = some r) ∧ Aside0 (kq ≤ k1) ∧ Aside0 (Kd.R k32 32 w' w.heap.size (fun _ => True) u3 x3_1) ∧ Aside0 (Kd.R (Kd.int .i64) 2 w' w.heap.size (fun _ => True) (.slice (some ad135) t132.length co6) t132) ∧ Aside0 (Below w.heap.size w w'))
            case atStart => exact ⟨(0), (rd t132 x12_1), (by first | rfl | (simp; done) | (simp [*]; done)), (by first | rfl | (simp; done) | (simp [*]; done)), H', ⟨Nat.le_refl _⟩, ⟨by (with_reducible repeat (first | apply Kd.R_alloc | apply Kd.R_drewN | apply Kd.R_drew)); exact HO_3.out⟩, ⟨by (with_reducible repeat (first | apply Kd.R_alloc | apply Kd.R_drewN | apply Kd.R_drew)); exact HO_10.out⟩, ⟨by repeat (first | (with_reducible first | exact HB.out | apply below_alloc | apply pw_below_drewN | apply below_drew1) | exact HB.out)⟩⟩
            case round =>
              clear H'
              try clear c1
              try clear p1
              try clear q1
              try clear hx1
              try clear p2
              try clear c7
              try clear c7b0
              try clear c8
              try clear c8b0
              try clear c9
              try clear c9b0
              try clear hx135_0
              try clear p135
              try clear p2
              try clear q135
              obtain ⟨x6_2, x7_2, rfl, rfl, HA, HK2, HO_3, HO_10, HB⟩ := hrel
              cases gk with
              | zero => exact absurd HA.out (by simp [impl_pulses.l1])
              | succ k2 =>
                have H := HA.out
                clear HA
                simp only [impl_pulses.l1] at H
                by_cases c10 : x7_2 < (a0.size : Int)
                · rw [if_pos c10] at H
                  have c10b0 : decide (x7_2 < (a0.size : Int)) = true := decide_eq_true c10
                  clear c10
                  by_cases c11 : 0 ≤ x7_2
                  · rw [if_pos c11] at H
                    have c11b0 : decide (0 ≤ x7_2) = true := decide_eq_true c11
                    clear c11
                    by_cases c13 : (bt a0 x7_2) = 49
                    · rw [if_pos c13] at H
                      have c13b0 : ((bt a0 x7_2) == 49) = true := beq_iff_eq.mpr c13
                      have c13b1 : ((bt a0 x7_2) != 49) = false := bne_eq_false_iff_eq.mpr c13
                      clear c13
                      have H' := Aside0.mk H
                      clear H
                      have p12 : 0 ≤ (x7_2 : Int) := of_decide_eq_true (by first | (with_reducible assumption) | assumption)
                      have q12 : x7_2 < (a0.size : Int) := of_decide_eq_true (by first | (with_reducible assumption) | assumption)
                      have hx12 := bt_at a0 x7_2
                      replace p12 := eq_true p12
                      replace q12 := eq_true q12
                      go_wp2
                      go_roundg k2
                      case measure => have := HK1.out; have := HK2.out; omega
                      case rel => exact ⟨(wrap64 (x6_2 + 1)), (wrap64 (x7_2 + 1)), (by first | rfl | (simp; done) | (simp [*]; done)), (by first | rfl | (simp; done) | (simp [*]; done)), H', ⟨by have := HK1.out; have := HK2.out; omega⟩, ⟨by (with_reducible repeat (first | apply Kd.R_alloc | apply Kd.R_drewN | apply Kd.R_drew)); exact HO_3.out⟩, ⟨by (with_reducible repeat (first | apply Kd.R_alloc | apply Kd.R_drewN | apply Kd.R_drew)); exact HO_10.out⟩, ⟨by repeat (first | (with_reducible first | exact HB.out | apply below_alloc | apply pw_below_drewN | apply below_drew1) | exact HB.out)⟩⟩
                    · rw [if_neg c13] at H
                      have c13b0 : ((bt a0 x7_2) == 49) = false := beq_eq_false_iff_ne.mpr c13
                      have c13b1 : ((bt a0 x7_2) != 49) = true := bne_iff_ne.mpr c13
                      by_cases c14 : x3_1.length < 8796093022208
                      · rw [if_pos c14] at H
                        have LMc14 := Aside0.mk c14
                        clear c14
                        obtain ⟨y136, hy136⟩ : ∃ y_ : List (S32), y_ = (x3_1 ++ [(⟨(rd t132 x12_1), x6_2⟩ : S32)]) := ⟨_, rfl⟩
                        replace H : (impl_pulses.l0 k2 a0 y136 t132 (t132.length : Int) (wrap64 (x12_1 + 1))) = some r := by first | (rw [hy136]; with_reducible exact H) | (have H2_ := (Option.bind_some _ _).symm.trans H; rw [hy136]; with_reducible exact H2_) | (have H2_ := (Option.bind_some _ _).symm.trans H; with_reducible exact H2_) | with_reducible exact H | (rw [hy136]; exact H) | exact H
                        have Ny136 := Aside0.mk hy136
                        clear hy136
                        have H' := Aside0.mk H
                        clear H
                        have p12 : 0 ≤ (x7_2 : Int) := of_decide_eq_true (by first | (with_reducible assumption) | assumption)
                        have q12 : x7_2 < (a0.size : Int) := of_decide_eq_true (by first | (with_reducible assumption) | assumption)
                        have hx12 := bt_at a0 x7_2
                        replace p12 := eq_true p12
                        replace q12 := eq_true q12
                        go_wp2_with (first | ((with_reducible refine gate_builtin (b := .append) (xs := #[.tmp 31, .tmp 35]) rfl ?_); at_builtin; refine Kd.R_append k32 (w0 := w) w.heap.size rfl (.tmp 31) (.tmp 35) 29 32 (.agg #[(.int .i64 0), (.int .i64 0)]) 16 rfl Tryd.underlying29 info32 rfl (by decide) (by omega) u3 x3_1 (⟨(rd t132 x12_1), x6_2⟩ : S32) [.int .i64 (rd t132 x12_1), .int .i64 x6_2] (fun _ => True) (fun _ => False) rfl rfl ?aP (fun _ hk => hk.elim) ?aF ?aO ?aB ?aS ?aL ?_; (case aP => exact k32_mkM _ _ _ (⟨(rd t132 x12_1), x6_2⟩ : S32)); (case aB => exact (by repeat (first | (with_reducible first | exact HB.out | apply below_alloc | apply pw_below_drewN | apply below_drew1) | exact HB.out))); (case aF => exact (fun _ _ => trivial)); (case aO => exact (by (with_reducible repeat (first | apply Kd.R_alloc | apply Kd.R_drewN | apply Kd.R_drew)); exact HO_3.out)); (case aS => exact (below_size (by repeat (first | (with_reducible first | exact HB.out | apply below_alloc | apply pw_below_drewN | apply below_drew1) | exact HB.out)))); (case aL => have := LMc14.out; omega); intro v137 w15 ho hb hg hat; rw [← Ny136.out] at ho; have n0_ := Aside0.mk (Kd.R_over' (by (with_reducible repeat (first | apply Kd.R_alloc | apply Kd.R_drewN | apply Kd.R_drew)); exact HO_10.out) (Kd.R_typed (by (with_reducible repeat (first | apply Kd.R_alloc | apply Kd.R_drewN | apply Kd.R_drew)); exact HO_3.out)) (by decide) hg); have n1_ := Aside0.mk (hb); have n2_ := Aside0.mk (ho); clear HO_10; clear HB; clear HO_3; have HO_10 := n0_; have HB := n1_; have HO138 := n2_; clear n0_ n1_ n2_; clear ho hb hg hat))
                        go_roundg k2
                        case measure => have := HK1.out; have := HK2.out; omega
                        case rel => exact ⟨(y136), (wrap64 (x12_1 + 1)), (by first | rfl | (simp; done) | (simp [*]; done)), H', ⟨by have := HK1.out; have := HK2.out; omega⟩, ⟨by (with_reducible repeat (first | apply Kd.R_alloc | apply Kd.R_drewN | apply Kd.R_drew)); exact HO138.out⟩, ⟨by (with_reducible repeat (first | apply Kd.R_alloc | apply Kd.R_drewN | apply Kd.R_drew)); exact HO_10.out⟩, ⟨by repeat (first | (with_reducible first | exact HB.out | apply below_alloc | apply pw_below_drewN | apply below_drew1) | exact HB.out)⟩⟩
                      · rw [if_neg c14] at H
                        exact absurd H (by simp)
                  · rw [if_neg c11] at H
                    exact absurd H (by simp)
                · rw [if_neg c10] at H
                  have c10b0 : decide (x7_2 < (a0.size : Int)) = false := decide_eq_false c10
                  clear c10
                  by_cases c16 : x3_1.length < 8796093022208
                  · rw [if_pos c16] at H
                    have LMc16 := Aside0.mk c16
                    clear c16
                    obtain ⟨y139, hy139⟩ : ∃ y_ : List (S32), y_ = (x3_1 ++ [(⟨(rd t132 x12_1), x6_2⟩ : S32)]) := ⟨_, rfl⟩
                    replace H : (impl_pulses.l0 k2 a0 y139 t132 (t132.length : Int) (wrap64 (x12_1 + 1))) = some r := by first | (rw [hy139]; with_reducible exact H) | (have H2_ := (Option.bind_some _ _).symm.trans H; rw [hy139]; with_reducible exact H2_) | (have H2_ := (Option.bind_some _ _).symm.trans H; with_reducible exact H2_) | with_reducible exact H | (rw [hy139]; exact H) | exact H
                    have Ny139 := Aside0.mk hy139
                    clear hy139
                    have H' := Aside0.mk H
                    clear H
                    go_wp2_with (first | ((with_reducible refine gate_builtin (b := .append) (xs := #[.tmp 31, .tmp 35]) rfl ?_); at_builtin; refine Kd.R_append k32 (w0 := w) w.heap.size rfl (.tmp 31) (.tmp 35) 29 32 (.agg #[(.int .i64 0), (.int .i64 0)]) 16 rfl Tryd.underlying29 info32 rfl (by decide) (by omega) u3 x3_1 (⟨(rd t132 x12_1), x6_2⟩ : S32) [.int .i64 (rd t132 x12_1), .int .i64 x6_2] (fun _ => True) (fun _ => False) rfl rfl ?aP (fun _ hk => hk.elim) ?aF ?aO ?aB ?aS ?aL ?_; (case aP => exact k32_mkM _ _ _ (⟨(rd t132 x12_1), x6_2⟩ : S32)); (case aB => exact (by repeat (first | (with_reducible first | exact HB.out | apply below_alloc | apply pw_below_drewN | apply below_drew1) | exact HB.out))); (case aF => exact (fun _ _ => trivial)); (case aO => exact (by (with_reducible repeat (first | apply Kd.R_alloc | apply Kd.R_drewN | apply Kd.R_drew)); exact HO_3.out)); (case aS => exact (below_size (by repeat (first | (with_reducible first | exact HB.out | apply below_alloc | apply pw_below_drewN | apply below_drew1) | exact HB.out)))); (case aL => have := LMc16.out; omega); intro v140 w17 ho hb hg hat; rw [← Ny139.out] at ho; have n0_ := Aside0.mk (Kd.R_over' (by (with_reducible repeat (first | apply Kd.R_alloc | apply Kd.R_drewN | apply Kd.R_drew)); exact HO_10.out) (Kd.R_typed (by (with_reducible repeat (first | apply Kd.R_alloc | apply Kd.R_drewN | apply Kd.R_drew)); exact HO_3.out)) (by decide) hg); have n1_ := Aside0.mk (hb); have n2_ := Aside0.mk (ho); clear HO_10; clear HB; clear HO_3; have HO_10 := n0_; have HB := n1_; have HO141 := n2_; clear n0_ n1_ n2_; clear ho hb hg hat))
                    go_roundg k2
                    case measure => have := HK1.out; have := HK2.out; omega
                    case rel => exact ⟨(y139), (wrap64 (x12_1 + 1)), (by first | rfl | (simp; done) | (simp [*]; done)), H', ⟨by have := HK1.out; have := HK2.out; omega⟩, ⟨by (with_reducible repeat (first | apply Kd.R_alloc | apply Kd.R_drewN | apply Kd.R_drew)); exact HO141.out⟩, ⟨by (with_reducible repeat (first | apply Kd.R_alloc | apply Kd.R_drewN | apply Kd.R_drew)); exact HO_10.out⟩, ⟨by repeat (first | (with_reducible first | exact HB.out | apply below_alloc | apply pw_below_drewN | apply below_drew1) | exact HB.out)⟩⟩
                  · rw [if_neg c16] at H
                    exact absurd H (by simp)
          · rw [if_neg c9] at H
            exact absurd H (by simp)
        · rw [if_neg c8] at H
          exact absurd H (by simp)
      · rw [if_neg c7] at H
        have c7b0 : decide (x12_1 < (t132.length : Int)) = false := decide_eq_false c7
        clear c7
        obtain rfl := Option.some.inj H
        go_wp2
        go_ret
        exact ⟨_, by first | rfl | (simp [errW_none, errW_some] <;> rfl) | (simp [*, errW_none, errW_some] <;> rfl), by (with_reducible repeat (first | apply Kd.R_alloc | apply Kd.R_drewN | apply Kd.R_drew)); exact HO_3.out, by repeat (first | (with_reducible first | exact HB.out | apply below_alloc | apply pw_below_drewN | apply below_drew1) | exact HB.out)⟩

end Go.Proofs.YtpmdiolkhmfphaaDoor.X

-- Written by a program of this session out of the kit's print of the loaded functions: a plain function of a Go function, and its contract.
namespace Go.Proofs.YtpmdiolkhmfphaaDoor.X
open Go.RowKit Go.Proofs.YtpmdiolkhmfphaaDoorW.PrintWords Go.Proofs.YtpmdiolkhmfphaaDoorW.PrintLast Go.Proofs.YtpmdiolkhmfphaaDoorW.PrintMore
attribute [local go_sem] max2_int min2_int max_two min_two max_three min_three max_four min_four   -- for this text's walks alone
set_option linter.unusedVariables false
set_option linter.unusedSimpArgs false

/-! ### spec_l07Pulses: function 10 -/
def spec_l07Pulses.f (k : Nat) (a0 : ByteArray) : Option (List Int × List Int) := (spec_l01Edges.f k a0 49).bind fun t109 => ((spec_l01Edges.f k a0 48).bind fun t112 => (if (t112.length : Int) < (t109.length : Int) then (if t112.length < 17592186044416 then (some (t109, (t112 ++ [(a0.size : Int)]))) else (none)) else (some (t109, t112))))
theorem spec_l07Pulses.mono : ∀ a0 k, LeO (spec_l07Pulses.f k a0) (spec_l07Pulses.f (k + 1) a0) := by
  intro a0 k
  unfold spec_l07Pulses.f
  repeat' first
      | (with_reducible exact spec_l01Edges.mono _ _ _)
      | (with_reducible exact LeO.refl _)
      | (with_reducible exact LeO.none _)
      | (with_reducible refine LeO.ite ?_ ?_)
      | (with_reducible refine LeO.bind ?_ (fun _ => ?_))
      | exact spec_l01Edges.mono _ _ _
      | exact LeO.none _
      | refine LeO.ite ?_ ?_
      | refine LeO.bind ?_ (fun _ => ?_)
set_option maxHeartbeats 8000000 in
set_option maxRecDepth 100000 in
theorem spec_l07Pulses.calls (k : Nat) (a0 : ByteArray) (r1 : List Int) (r2 : List Int) (w : World) (h : spec_l07Pulses.f k a0 = some (r1, r2)) :
    Calls Tryd.prog 10 #[.string a0] w fun e w' => ∃ v0_ v1_ : Value, e = .returned (.tuple #[v0_, v1_]) ∧ Kd.R (Kd.int .i64) 2 w' w.heap.size (fun k_ => some k_ ≠ (v1_ : Value).ownBlock) v0_ r1 ∧ Kd.R (Kd.int .i64) 2 w' w.heap.size (fun k_ => some k_ ≠ (v0_ : Value).ownBlock) v1_ r2 ∧ Below w.heap.size w w' := by
  have HB := Aside0.mk (Below.refl w.heap.size w)
  have H : ((spec_l01Edges.f k a0 49).bind fun t109 => ((spec_l01Edges.f k a0 48).bind fun t112 => (if (t112.length : Int) < (t109.length : Int) then (if t112.length < 17592186044416 then (some (t109, (t112 ++ [(a0.size : Int)]))) else (none)) else (some (t109, t112))))) = some (r1, r2) := h
  clear h
  replace H := Option.bind_eq_some_iff.mp H
  obtain ⟨t109, A20, H⟩ := H
  replace H : ((spec_l01Edges.f k a0 48).bind fun t112 => (if (t112.length : Int) < (t109.length : Int) then (if t112.length < 17592186044416 then (some (t109, (t112 ++ [(a0.size : Int)]))) else (none)) else (some (t109, t112)))) = some (r1, r2) := H
  have A2 := Aside0.mk A20
  clear A20
  replace H := Option.bind_eq_some_iff.mp H
  obtain ⟨t112, A30, H⟩ := H
  replace H : (if (t112.length : Int) < (t109.length : Int) then (if t112.length < 17592186044416 then (some (t109, (t112 ++ [(a0.size : Int)]))) else (none)) else (some (t109, t112))) = some (r1, r2) := H
  have A3 := Aside0.mk A30
  clear A30
  by_cases c4 : (t112.length : Int) < (t109.length : Int)
  · rw [if_pos c4] at H
    have c4b0 : decide ((t112.length : Int) < (t109.length : Int)) = true := decide_eq_true c4
    have c4b1 : decide (t112.length < t109.length) = true := decide_eq_true (Int.ofNat_lt.mp c4)
    clear c4
    by_cases c5 : t112.length < 17592186044416
    · rw [if_pos c5] at H
      have LMc5 := Aside0.mk c5
      clear c5
      obtain ⟨y115, hy115⟩ : ∃ y_ : List Int, y_ = (t112 ++ [(a0.size : Int)]) := ⟨_, rfl⟩
      replace H : (some (t109, y115)) = some (r1, r2) := by first | (rw [hy115]; with_reducible exact H) | (have H2_ := (Option.bind_some _ _).symm.trans H; rw [hy115]; with_reducible exact H2_) | (have H2_ := (Option.bind_some _ _).symm.trans H; with_reducible exact H2_) | with_reducible exact H | (rw [hy115]; exact H) | exact H
      have Ny115 := Aside0.mk hy115
      clear hy115
      simp only [Option.some.injEq, Prod.mk.injEq] at H
      obtain ⟨rfl, rfl⟩ := H
      go_enter Tryd.func10, Tryd.ntmps10
      go_wp2_with (first | ((with_reducible refine gate_callee (f := 15) rfl ?_); refine goesL_ (some 7) rfl rfl Tryd.func15 (by kernel_rfl) rfl #[.string a0, .int .u8 49] rfl (by (try simp only [List.map_toArray, List.map_cons, List.map_nil]); first | done | rfl | (simp only [List.length_drop, List.length_take]; rfl)) ?_; (with_reducible refine (spec_l01Edges.calls k a0 49 t109 _ A2.out).mono ?_); rintro e w6 ⟨v110, rfl, ho0, hb⟩; refine ⟨_, rfl, ?_⟩; have n0_ := Aside0.mk (Kd.R_lower ho0 (below_size (by repeat (first | (with_reducible first | exact HB.out | apply below_alloc | apply pw_below_drewN | apply below_drew1) | exact HB.out)))); have n1_ := Aside0.mk (below_step (by repeat (first | (with_reducible first | exact HB.out | apply below_alloc | apply pw_below_drewN | apply below_drew1) | exact HB.out)) hb); clear HB; have HO111 := n0_; have HB := n1_; clear n0_ n1_; (try clear hb); (try clear hb2); (try clear hk); (try clear hi); (try clear ho0)) | ((with_reducible refine gate_callee (f := 15) rfl ?_); refine goesL_ (some 9) rfl rfl Tryd.func15 (by kernel_rfl) rfl #[.string a0, .int .u8 48] rfl (by (try simp only [List.map_toArray, List.map_cons, List.map_nil]); first | done | rfl | (simp only [List.length_drop, List.length_take]; rfl)) ?_; (with_reducible refine (spec_l01Edges.calls k a0 48 t112 _ A3.out).mono ?_); rintro e w7 ⟨v113, rfl, ho0, hb⟩; refine ⟨_, rfl, ?_⟩; have n0_ := Aside0.mk (Kd.R_elder' (by (with_reducible repeat (first | apply Kd.R_alloc | apply Kd.R_drewN | apply Kd.R_drew)); exact HO111.out) (Kd.R_base ho0) hb); have n1_ := Aside0.mk (Kd.R_lower (Kd.R_new' ho0 (Kd.R_lt (by (with_reducible repeat (first | apply Kd.R_alloc | apply Kd.R_drewN | apply Kd.R_drew)); exact HO111.out))) (below_size (by repeat (first | (with_reducible first | exact HB.out | apply below_alloc | apply pw_below_drewN | apply below_drew1) | exact HB.out)))); have n2_ := Aside0.mk (below_step (by repeat (first | (with_reducible first | exact HB.out | apply below_alloc | apply pw_below_drewN | apply below_drew1) | exact HB.out)) hb); clear HO111; clear HB; have HO111 := n0_; have HO114 := n1_; have HB := n2_; clear n0_ n1_ n2_; (try clear hb); (try clear hb2); (try clear hk); (try clear hi); (try clear ho0); obtain ⟨Ao8, co8, eo8⟩ := Kd.R_slice HO114.out; subst eo8; obtain ⟨Ao9, co9, eo9⟩ := Kd.R_slice HO111.out; subst eo9) | ((with_reducible refine gate_builtin (b := .append) (xs := #[.tmp 15, .tmp 18]) rfl ?_); at_builtin; refine Kd.R_append (Kd.int .i64) (w0 := w) w.heap.size rfl (.tmp 15) (.tmp 18) 25 2 (.int .i64 0) 8 rfl Tryd.underlying25 info2 rfl (by decide) (by omega) (.slice Ao8 t112.length co8) t112 (a0.size : Int) [.int .i64 (a0.size : Int)] (fun k_ => some k_ ≠ (.slice Ao9 t109.length co9 : Value).ownBlock) (fun _ => False) rfl rfl ?aP (fun _ hk => hk.elim) ?aF ?aO ?aB ?aS ?aL ?_; (case aP => exact rfl); (case aB => exact (by repeat (first | (with_reducible first | exact HB.out | apply below_alloc | apply pw_below_drewN | apply below_drew1) | exact HB.out))); (case aF => exact (fun k_ hk => Kd.fresh' (Kd.R_lt (by (with_reducible repeat (first | apply Kd.R_alloc | apply Kd.R_drewN | apply Kd.R_drew)); exact HO111.out)) k_ hk)); (case aO => exact (by (with_reducible repeat (first | apply Kd.R_alloc | apply Kd.R_drewN | apply Kd.R_drew)); exact Kd.R_mono HO114.out (fun _ hk => hk.2))); (case aS => exact (below_size (by repeat (first | (with_reducible first | exact HB.out | apply below_alloc | apply pw_below_drewN | apply below_drew1) | exact HB.out)))); (case aL => have := LMc5.out; omega); intro v116 w10 ho hb hg hat; rw [← Ny115.out] at ho; have n0_ := Aside0.mk (Kd.R_after (ok := (fun _ => True)) (by (with_reducible repeat (first | apply Kd.R_alloc | apply Kd.R_drewN | apply Kd.R_drew)); exact HO111.out) hg hat); have n1_ := Aside0.mk (hb); have n2_ := Aside0.mk (ho); clear HO111; clear HB; clear HO114; have HO111 := n0_; have HB := n1_; have HO117 := n2_; clear n0_ n1_ n2_; clear ho hb hg hat))
      go_ret2
      exact ⟨_, _, by first | rfl | (simp [errW_none, errW_some] <;> rfl) | (simp [*, errW_none, errW_some] <;> rfl), by (with_reducible repeat (first | apply Kd.R_alloc | apply Kd.R_drewN | apply Kd.R_drew)); exact Kd.R_mono HO111.out (fun _ hk => hk.2), by (with_reducible repeat (first | apply Kd.R_alloc | apply Kd.R_drewN | apply Kd.R_drew)); exact HO117.out, by repeat (first | (with_reducible first | exact HB.out | apply below_alloc | apply pw_below_drewN | apply below_drew1) | exact HB.out)⟩
    · rw [if_neg c5] at H
      exact absurd H (by simp)
  · rw [if_neg c4] at H
    have c4b0 : decide ((t112.length : Int) < (t109.length : Int)) = false := decide_eq_false c4
    have c4b1 : decide (t112.length < t109.length) = false := decide_eq_false (fun h => c4 (Int.ofNat_lt.mpr h))
    clear c4
    simp only [Option.some.injEq, Prod.mk.injEq] at H
    obtain ⟨rfl, rfl⟩ := H
    go_enter Tryd.func10, Tryd.ntmps10
    go_wp2_with (first | ((with_reducible refine gate_callee (f := 15) rfl ?_); refine goesL_ (some 7) rfl rfl Tryd.func15 (by kernel_rfl) rfl #[.string a0, .int .u8 49] rfl (by (try simp only [List.map_toArray, List.map_cons, List.map_nil]); first | done | rfl | (simp only [List.length_drop, List.length_take]; rfl)) ?_; (with_reducible refine (spec_l01Edges.calls k a0 49 t109 _ A2.out).mono ?_); rintro e w11 ⟨v110, rfl, ho0, hb⟩; refine ⟨_, rfl, ?_⟩; have n0_ := Aside0.mk (Kd.R_lower ho0 (below_size (by repeat (first | (with_reducible first | exact HB.out | apply below_alloc | apply pw_below_drewN | apply below_drew1) | exact HB.out)))); have n1_ := Aside0.mk (below_step (by repeat (first | (with_reducible first | exact HB.out | apply below_alloc | apply pw_below_drewN | apply below_drew1) | exact HB.out)) hb); clear HB; have HO111 := n0_; have HB := n1_; clear n0_ n1_; (try clear hb); (try clear hb2); (try clear hk); (try clear hi); (try clear ho0)) | ((with_reducible refine gate_callee (f := 15) rfl ?_); refine goesL_ (some 9) rfl rfl Tryd.func15 (by kernel_rfl) rfl #[.string a0, .int .u8 48] rfl (by (try simp only [List.map_toArray, List.map_cons, List.map_nil]); first | done | rfl | (simp only [List.length_drop, List.length_take]; rfl)) ?_; (with_reducible refine (spec_l01Edges.calls k a0 48 t112 _ A3.out).mono ?_); rintro e w12 ⟨v113, rfl, ho0, hb⟩; refine ⟨_, rfl, ?_⟩; have n0_ := Aside0.mk (Kd.R_elder' (by (with_reducible repeat (first | apply Kd.R_alloc | apply Kd.R_drewN | apply Kd.R_drew)); exact HO111.out) (Kd.R_base ho0) hb); have n1_ := Aside0.mk (Kd.R_lower (Kd.R_new' ho0 (Kd.R_lt (by (with_reducible repeat (first | apply Kd.R_alloc | apply Kd.R_drewN | apply Kd.R_drew)); exact HO111.out))) (below_size (by repeat (first | (with_reducible first | exact HB.out | apply below_alloc | apply pw_below_drewN | apply below_drew1) | exact HB.out)))); have n2_ := Aside0.mk (below_step (by repeat (first | (with_reducible first | exact HB.out | apply below_alloc | apply pw_below_drewN | apply below_drew1) | exact HB.out)) hb); clear HO111; clear HB; have HO111 := n0_; have HO114 := n1_; have HB := n2_; clear n0_ n1_ n2_; (try clear hb); (try clear hb2); (try clear hk); (try clear hi); (try clear ho0); obtain ⟨Ao13, co13, eo13⟩ := Kd.R_slice HO114.out; subst eo13; obtain ⟨Ao14, co14, eo14⟩ := Kd.R_slice HO111.out; subst eo14))
    go_ret2
    exact ⟨_, _, by first | rfl | (simp [errW_none, errW_some] <;> rfl) | (simp [*, errW_none, errW_some] <;> rfl), by (with_reducible repeat (first | apply Kd.R_alloc | apply Kd.R_drewN | apply Kd.R_drew)); exact Kd.R_mono HO111.out (fun _ hk => hk.2), by (with_reducible repeat (first | apply Kd.R_alloc | apply Kd.R_drewN | apply Kd.R_drew)); exact Kd.R_mono HO114.out (fun _ hk => hk.2), by repeat (first | (with_reducible first | exact HB.out | apply below_alloc | apply pw_below_drewN | apply below_drew1) | exact HB.out)⟩

end Go.Proofs.YtpmdiolkhmfphaaDoor.X

/- The pulses of a wave: what the program's and the reference's ways of finding them tell. Conditions: as each lemma says. -/
namespace Go.Proofs.YtpmdiolkhmfphaaDoor.X
open Go.RowKit Go.Proofs.YtpmdiolkhmfphaaDoorW.PrintWords Go.Proofs.YtpmdiolkhmfphaaDoorW.PrintLast Go.Proofs.YtpmdiolkhmfphaaDoorW.PrintMore
set_option linter.unusedVariables false
set_option linter.unusedSimpArgs false

/-- From u up to d, and no farther, a text's levels are high. -/
def Run (s : ByteArray) (u d : Int) : Prop := ∃ a b : Nat, u = a ∧ d = b ∧ a < b ∧ b ≤ s.size ∧ (∀ j : Nat, a ≤ j → j < b → bt s (j : Int) = 49) ∧ (b < s.size → bt s (b : Int) = 48)
def Runs (s : ByteArray) : List Int → List Int → Prop
  | [], [] => True
  | u :: us, d :: ds => Run s u d ∧ Runs s us ds
  | _, _ => False
theorem Runs.len {s : ByteArray} : ∀ {us ds : List Int}, Runs s us ds → us.length = ds.length
  | [], [], _ => rfl
  | _ :: _, _ :: _, h => by simp [Runs.len h.2]
  | [], _ :: _, h => h.elim
  | _ :: _, [], h => h.elim
theorem Runs.snoc {s : ByteArray} {u d : Int} (hr : Run s u d) : ∀ {us ds : List Int}, Runs s us ds → Runs s (us ++ [u]) (ds ++ [d])
  | [], [], _ => ⟨hr, trivial⟩
  | _ :: _, _ :: _, h => ⟨h.1, Runs.snoc hr h.2⟩
  | [], _ :: _, h => h.elim
  | _ :: _, [], h => h.elim
theorem runs_at (s : ByteArray) (hL : Lev s) : ∀ n : Nat, n ≤ s.size → (prv s n = 48 ∧ Runs s (edg s 49 n) (edg s 48 n)) ∨
    (prv s n = 49 ∧ ∃ (us : List Int) (a : Nat), edg s 49 n = us ++ [(a : Int)] ∧ Runs s us (edg s 48 n) ∧ a < n ∧ ∀ j : Nat, a ≤ j → j < n → bt s (j : Int) = 49)
  | 0, _ => .inl ⟨rfl, trivial⟩
  | n + 1, hn => by
    rw [prv_succ, edg_succ, edg_succ]
    rcases runs_at s hL n (by omega) with ⟨hp, hr⟩ | ⟨hp, us, a, he, hr, ha, hj⟩
    · rcases hL n (by omega) with hb | hb
      · have e1 : isE s 49 n = false := by unfold isE; rw [hb]; rfl
        have e2 : isE s 48 n = false := by unfold isE; rw [hb, hp]; rfl
        rw [e1, e2]; exact .inl ⟨hb, hr⟩
      · have e1 : isE s 49 n = true := by unfold isE; rw [hb, hp]; rfl
        have e2 : isE s 48 n = false := by unfold isE; rw [hb]; rfl
        rw [e1, e2]
        exact .inr ⟨hb, _, n, rfl, hr, by omega, fun j h1 h2 => by
          have : j = n := by omega
          rw [this]; exact hb⟩
    · rcases hL n (by omega) with hb | hb
      · have e1 : isE s 49 n = false := by unfold isE; rw [hb]; rfl
        have e2 : isE s 48 n = true := by unfold isE; rw [hb, hp]; rfl
        rw [e1, e2]
        refine .inl ⟨hb, ?_⟩
        rw [if_neg (by decide), if_pos rfl, he]
        exact Runs.snoc ⟨a, n, rfl, rfl, ha, by omega, hj, fun _ => hb⟩ hr
      · have e1 : isE s 49 n = false := by unfold isE; rw [hb, hp]; rfl
        have e2 : isE s 48 n = false := by unfold isE; rw [hb]; rfl
        rw [e1, e2]
        refine .inr ⟨hb, us, a, he, hr, by omega, fun j h1 h2 => ?_⟩
        rcases Nat.lt_or_ge j n with h | h
        · exact hj j h1 h
        · have : j = n := by omega
          rw [this]; exact hb
/-- Where the pulses of a text end. -/
def dns (s : ByteArray) : List Int := if (edg s 48 s.size).length < (edg s 49 s.size).length then edg s 48 s.size ++ [(s.size : Int)] else edg s 48 s.size
theorem runs_all (s : ByteArray) (hL : Lev s) : Runs s (edg s 49 s.size) (dns s) := by
  unfold dns
  rcases runs_at s hL s.size (Nat.le_refl _) with ⟨_, hr⟩ | ⟨_, us, a, he, hr, ha, hj⟩
  · rw [if_neg (by rw [hr.len]; omega)]; exact hr
  · have hl := hr.len
    rw [if_pos (by rw [he, ← hl]; simp), he]
    exact Runs.snoc ⟨a, s.size, rfl, rfl, ha, Nat.le_refl _, hj, fun h => absurd h (by omega)⟩ hr
theorem l07_eq (k : Nat) (s : ByteArray) (hs : s.size ≤ 1000000) (hk : s.size < k) : spec_l07Pulses.f k s = some (edg s 49 s.size, dns s) := by
  unfold spec_l07Pulses.f dns
  have hl := edg_len s 48 s.size
  rw [edges_eq k s 49 hs hk, edges_eq k s 48 hs hk, Option.bind_some, Option.bind_some]
  by_cases h : (edg s 48 s.size).length < (edg s 49 s.size).length
  · rw [if_pos h, if_pos (by omega), if_pos (by omega)]
  · rw [if_neg h, if_neg (by omega)]
/-- The pulses, each by its begin and its length. -/
def pz (us ds : List Int) : List S32 := List.zipWith (fun u d => (⟨u, d - u⟩ : S32)) us ds
theorem rd_mid (pre post : List Int) (x : Int) : rd (pre ++ x :: post) (pre.length : Int) = x := by
  rw [rd_nat _ _ (by simp)]; simp
theorem rdp_mid (pre post : List S32) (x : S32) : rd_T32 (pre ++ x :: post) (pre.length : Int) = x := by
  unfold rd_T32; simp
theorem pulse_in (s : ByteArray) (hs : s.size ≤ 400) (out : List S32) (ho : out.length ≤ 1000) (a b : Nat) (l : List Int) (n : Int) (i : Nat) (hi : i ≤ 1000) (hab : b ≤ s.size) (hall : ∀ j : Nat, a ≤ j → j < b → bt s (j : Int) = 49) (hend : b < s.size → bt s (b : Int) = 48)
    (K : Nat) (v : Option (List S32)) (hv : ∀ k, K < k → impl_pulses.l0 k s (out ++ [(⟨(a : Int), (b : Int) - a⟩ : S32)]) l n ((i : Int) + 1) = v) : ∀ (d m k : Nat), a + m + d = b → K + d + 1 < k →
    impl_pulses.l1 k s out a m ((a : Int) + m) l n i = v
  | 0, m, k, hm, hk => by
    cases k with
    | zero => omega
    | succ k =>
      have e1 : (⟨(a : Int), (m : Int)⟩ : S32) = ⟨(a : Int), (b : Int) - a⟩ := by congr 1; omega
      have hv2 := hv k (by omega)
      rw [impl_pulses.l1, w64 (n := (i : Int) + 1) (by omega) (by omega), e1, if_pos (show out.length < 8796093022208 by omega)]
      by_cases h : (a : Int) + m < s.size
      · have hb := hend (by omega)
        rw [show (b : Int) = (a : Int) + m by omega] at hb
        rw [if_pos h, if_pos (by omega), hb, if_neg (by decide)]
        exact hv2
      · rw [if_neg h]; exact hv2
  | d + 1, m, k, hm, hk => by
    cases k with
    | zero => omega
    | succ k =>
      have hb := hall (a + m) (by omega) (by omega)
      rw [Int.natCast_add] at hb
      have ih := pulse_in s hs out ho a b l n i hi hab hall hend K v hv d (m + 1) k (by omega) (by omega)
      rw [impl_pulses.l1, if_pos (by omega), if_pos (by omega), hb, if_pos rfl, w64 (n := (m : Int) + 1) (by omega) (by omega), w64 (n := (a : Int) + m + 1) (by omega) (by omega)]
      rw [Int.natCast_add, Int.natCast_one, ← Int.add_assoc] at ih
      exact ih
theorem pulse_out (s : ByteArray) (hs : s.size ≤ 400) : ∀ (us ds pre : List Int) (out : List S32), Runs s us ds → out.length = pre.length → pre.length + us.length ≤ 400 →
    ∀ k, 500 * us.length + 1 < k → impl_pulses.l0 k s out (pre ++ us) ((pre ++ us).length : Int) (pre.length : Int) = some (out ++ pz us ds)
  | [], [], pre, out, _, ho, hl, k, hk => by
    cases k with
    | zero => omega
    | succ k => rw [impl_pulses.l0, if_neg (by simp)]; simp [pz]
  | u :: us, d :: ds, pre, out, hr, ho, hl, k, hk => by
    obtain ⟨⟨a, b, rfl, rfl, hab, hbs, hall, hend⟩, hr2⟩ := hr
    simp only [List.length_cons] at hl hk
    have key : ∀ k, 500 * us.length + 1 < k → impl_pulses.l0 k s (out ++ [(⟨(a : Int), (b : Int) - a⟩ : S32)]) (pre ++ (a : Int) :: us) ((pre ++ (a : Int) :: us).length : Int) ((pre.length : Int) + 1) = some (out ++ pz ((a : Int) :: us) ((b : Int) :: ds)) := by
      intro k hk
      have ih := pulse_out s hs us ds (pre ++ [(a : Int)]) (out ++ [(⟨(a : Int), (b : Int) - a⟩ : S32)]) hr2 (by simp [ho]) (by simp; omega) k hk
      simp only [List.append_assoc, List.singleton_append, List.length_append, List.length_cons, List.length_nil] at ih
      simp only [List.length_append, List.length_cons]
      have e : ((pre.length + (0 + 1) : Nat) : Int) = (pre.length : Int) + 1 := by omega
      rw [e] at ih
      rw [ih]; rfl
    cases k with
    | zero => omega
    | succ k =>
      have h := pulse_in s hs out (by omega) a b (pre ++ (a : Int) :: us) ((pre ++ (a : Int) :: us).length : Int) pre.length (by omega) hbs hall hend (500 * us.length + 1) _ key (b - a) 0 k (by omega) (by omega)
      rw [impl_pulses.l0, if_pos (by simp; omega), if_pos (by omega), if_pos (by simp; omega), rd_mid]
      simpa using h
  | [], _ :: _, _, _, hr, _, _, _, _ => hr.elim
  | _ :: _, [], _, _, hr, _, _, _, _ => hr.elim
theorem pulses_eq (k : Nat) (s : ByteArray) (hs : s.size ≤ 400) (hL : Lev s) (hk : 300000 < k) : impl_pulses.f k s = some (pz (edg s 49 s.size) (dns s)) := by
  unfold impl_pulses.f
  have hl := edg_len s 49 s.size
  rw [changes_eq k s 49 (by omega) (by omega), Option.bind_some]
  have := pulse_out s hs (edg s 49 s.size) (dns s) [] [] (runs_all s hL) rfl (by simp; omega) k (by omega)
  simpa using this
end Go.Proofs.YtpmdiolkhmfphaaDoor.X

-- Written by a program of this session out of the kit's print of the loaded functions: a plain function of a Go function, and its contract.
namespace Go.Proofs.YtpmdiolkhmfphaaDoor.X
open Go.RowKit Go.Proofs.YtpmdiolkhmfphaaDoorW.PrintWords Go.Proofs.YtpmdiolkhmfphaaDoorW.PrintLast Go.Proofs.YtpmdiolkhmfphaaDoorW.PrintMore
attribute [local go_sem] max2_int min2_int max_two min_two max_three min_three max_four min_four   -- for this text's walks alone
set_option linter.unusedVariables false
set_option linter.unusedSimpArgs false

/-! ### impl_isFilter: function 11 -/
def impl_isFilter.f (a0 : ByteArray) (a1 : Int) : Option (Bool) := (impl_IsWave.f a0).bind fun t121 => (if t121 = true then ((impl_within.f a1 1 50).bind fun t122 => (some t122)) else (some false))
set_option maxHeartbeats 8000000 in
set_option maxRecDepth 100000 in
theorem impl_isFilter.calls (a0 : ByteArray) (a1 : Int) (r : Bool) (w : World) (h : impl_isFilter.f a0 a1 = some r) :
    Calls Tryd.prog 11 #[.string a0, .int .i64 a1] w fun e w' => e = .returned (.bool r) ∧ Below w.heap.size w w' := by
  have HB := Aside0.mk (Below.refl w.heap.size w)
  have H : ((impl_IsWave.f a0).bind fun t121 => (if t121 = true then ((impl_within.f a1 1 50).bind fun t122 => (some t122)) else (some false))) = some r := h
  clear h
  replace H := Option.bind_eq_some_iff.mp H
  obtain ⟨t121, A30, H⟩ := H
  replace H : (if t121 = true then ((impl_within.f a1 1 50).bind fun t122 => (some t122)) else (some false)) = some r := H
  have A3 := Aside0.mk A30
  clear A30
  by_cases c4 : t121 = true
  · subst c4
    have H1 : ((impl_within.f a1 1 50).bind fun t122 => (some t122)) = some r := by rw [if_pos rfl] at H; exact H
    clear H
    have H := H1
    clear H1
    replace H := Option.bind_eq_some_iff.mp H
    obtain ⟨t122, A50, H⟩ := H
    replace H : (some t122) = some r := H
    have A5 := Aside0.mk A50
    clear A50
    obtain rfl := Option.some.inj H
    go_enter Tryd.func11, Tryd.ntmps11
    go_wp2_with (first | ((with_reducible refine gate_callee (f := 16) rfl ?_); refine goesL_ (some 6) rfl rfl Tryd.func16 (by kernel_rfl) rfl #[.string a0] rfl (by (try simp only [List.map_toArray, List.map_cons, List.map_nil]); first | done | rfl | (simp only [List.length_drop, List.length_take]; rfl)) ?_; (with_reducible refine (impl_IsWave.calls a0 true _ A3.out).mono ?_); rintro e w6 ⟨rfl, hb⟩; refine ⟨_, rfl, ?_⟩; have n0_ := Aside0.mk (below_step (by repeat (first | (with_reducible first | exact HB.out | apply below_alloc | apply pw_below_drewN | apply below_drew1) | exact HB.out)) hb); clear HB; have HB := n0_; clear n0_; (try clear hb); (try clear hb2); (try clear hk); (try clear hi)) | (go_at_call 17; (with_reducible refine (impl_within.calls a1 1 50 t122 _ A5.out).mono ?_); rintro e w' ⟨rfl, ⟨nd, rfl⟩⟩))
    go_ret
    exact ⟨by first | rfl | (simp [errW_none, errW_some] <;> rfl) | (simp [*, errW_none, errW_some] <;> rfl), by repeat (first | (with_reducible first | exact HB.out | apply below_alloc | apply pw_below_drewN | apply below_drew1) | exact HB.out)⟩
  · replace c4 := Bool.eq_false_iff.mpr c4
    subst c4
    have H1 : (some false) = some r := by rw [if_neg (show ¬ (false = true) by decide)] at H; exact H
    clear H
    have H := H1
    clear H1
    obtain rfl := Option.some.inj H
    go_enter Tryd.func11, Tryd.ntmps11
    go_wp2_with (first | ((with_reducible refine gate_callee (f := 16) rfl ?_); refine goesL_ (some 6) rfl rfl Tryd.func16 (by kernel_rfl) rfl #[.string a0] rfl (by (try simp only [List.map_toArray, List.map_cons, List.map_nil]); first | done | rfl | (simp only [List.length_drop, List.length_take]; rfl)) ?_; (with_reducible refine (impl_IsWave.calls a0 false _ A3.out).mono ?_); rintro e w7 ⟨rfl, hb⟩; refine ⟨_, rfl, ?_⟩; have n0_ := Aside0.mk (below_step (by repeat (first | (with_reducible first | exact HB.out | apply below_alloc | apply pw_below_drewN | apply below_drew1) | exact HB.out)) hb); clear HB; have HB := n0_; clear n0_; (try clear hb); (try clear hb2); (try clear hk); (try clear hi)))
    go_ret
    exact ⟨by first | rfl | (simp [errW_none, errW_some] <;> rfl) | (simp [*, errW_none, errW_some] <;> rfl), by repeat (first | (with_reducible first | exact HB.out | apply below_alloc | apply pw_below_drewN | apply below_drew1) | exact HB.out)⟩

end Go.Proofs.YtpmdiolkhmfphaaDoor.X

-- Written by a program of this session out of the kit's print of the loaded functions: a plain function of a Go function, and its contract.
namespace Go.Proofs.YtpmdiolkhmfphaaDoor.X
open Go.RowKit Go.Proofs.YtpmdiolkhmfphaaDoorW.PrintWords Go.Proofs.YtpmdiolkhmfphaaDoorW.PrintLast Go.Proofs.YtpmdiolkhmfphaaDoorW.PrintMore
attribute [local go_sem] max2_int min2_int max_two min_two max_three min_three max_four min_four   -- for this text's walks alone
set_option linter.unusedVariables false
set_option linter.unusedSimpArgs false

/-! ### spec_l09Filter: function 9 -/
def spec_l09Filter.f (k : Nat) (a0 : ByteArray) (a1 : Int) : Option (Bool) := (spec_l01Wave.f k a0).bind fun t101 => (if t101 = true then ((spec_l00In.f a1 1 50).bind fun t102 => (some t102)) else (some false))
theorem spec_l09Filter.mono : ∀ a0 a1 k, LeO (spec_l09Filter.f k a0 a1) (spec_l09Filter.f (k + 1) a0 a1) := by
  intro a0 a1 k
  unfold spec_l09Filter.f
  repeat' first
      | (with_reducible exact spec_l01Wave.mono _ _)
      | (with_reducible exact LeO.refl _)
      | (with_reducible exact LeO.none _)
      | (with_reducible refine LeO.ite ?_ ?_)
      | (with_reducible refine LeO.bind ?_ (fun _ => ?_))
      | exact spec_l01Wave.mono _ _
      | exact LeO.none _
      | refine LeO.ite ?_ ?_
      | refine LeO.bind ?_ (fun _ => ?_)
set_option maxHeartbeats 8000000 in
set_option maxRecDepth 100000 in
theorem spec_l09Filter.calls (k : Nat) (a0 : ByteArray) (a1 : Int) (r : Bool) (w : World) (h : spec_l09Filter.f k a0 a1 = some r) :
    Calls Tryd.prog 9 #[.string a0, .int .i64 a1] w fun e w' => e = .returned (.bool r) ∧ Drawn0 w w' := by
  have H : ((spec_l01Wave.f k a0).bind fun t101 => (if t101 = true then ((spec_l00In.f a1 1 50).bind fun t102 => (some t102)) else (some false))) = some r := h
  clear h
  replace H := Option.bind_eq_some_iff.mp H
  obtain ⟨t101, A30, H⟩ := H
  replace H : (if t101 = true then ((spec_l00In.f a1 1 50).bind fun t102 => (some t102)) else (some false)) = some r := H
  have A3 := Aside0.mk A30
  clear A30
  by_cases c4 : t101 = true
  · subst c4
    have H1 : ((spec_l00In.f a1 1 50).bind fun t102 => (some t102)) = some r := by rw [if_pos rfl] at H; exact H
    clear H
    have H := H1
    clear H1
    replace H := Option.bind_eq_some_iff.mp H
    obtain ⟨t102, A50, H⟩ := H
    replace H : (some t102) = some r := H
    have A5 := Aside0.mk A50
    clear A50
    obtain rfl := Option.some.inj H
    go_enter Tryd.func9, Tryd.ntmps9
    go_wp2_with (first | ((with_reducible refine gate_callee (f := 13) rfl ?_); refine goesL_ (some 6) rfl rfl Tryd.func13 (by kernel_rfl) rfl #[.string a0] rfl (by (try simp only [List.map_toArray, List.map_cons, List.map_nil]); first | done | rfl | (simp only [List.length_drop, List.length_take]; rfl)) ?_; (with_reducible refine (spec_l01Wave.calls k a0 true _ A3.out).mono ?_); rintro e w' ⟨rfl, ⟨nd, rfl⟩⟩; refine ⟨_, rfl, ?_⟩) | (go_at_call 14; (with_reducible refine (spec_l00In.calls a1 1 50 t102 _ A5.out).mono ?_); rintro e w' ⟨rfl, ⟨nd, rfl⟩⟩))
    go_ret
    exact ⟨by first | rfl | (simp; done) | (simp [*]; done), by repeat (first | exact Drawn0.refl _ | apply Drawn0.step)⟩
  · replace c4 := Bool.eq_false_iff.mpr c4
    subst c4
    have H1 : (some false) = some r := by rw [if_neg (show ¬ (false = true) by decide)] at H; exact H
    clear H
    have H := H1
    clear H1
    obtain rfl := Option.some.inj H
    go_enter Tryd.func9, Tryd.ntmps9
    go_wp2_with (first | ((with_reducible refine gate_callee (f := 13) rfl ?_); refine goesL_ (some 6) rfl rfl Tryd.func13 (by kernel_rfl) rfl #[.string a0] rfl (by (try simp only [List.map_toArray, List.map_cons, List.map_nil]); first | done | rfl | (simp only [List.length_drop, List.length_take]; rfl)) ?_; (with_reducible refine (spec_l01Wave.calls k a0 false _ A3.out).mono ?_); rintro e w' ⟨rfl, ⟨nd, rfl⟩⟩; refine ⟨_, rfl, ?_⟩))
    go_ret
    exact ⟨by first | rfl | (simp; done) | (simp [*]; done), by repeat (first | exact Drawn0.refl _ | apply Drawn0.step)⟩

end Go.Proofs.YtpmdiolkhmfphaaDoor.X

/- Whether a text and ticks are those of a filter: what the program and the reference say. Conditions: as each lemma says. -/
namespace Go.Proofs.YtpmdiolkhmfphaaDoor.X
open Go.RowKit Go.Proofs.YtpmdiolkhmfphaaDoorW.PrintWords Go.Proofs.YtpmdiolkhmfphaaDoorW.PrintLast Go.Proofs.YtpmdiolkhmfphaaDoorW.PrintMore
set_option linter.unusedVariables false
set_option linter.unusedSimpArgs false
theorem isFilter_true {s : ByteArray} {a : Int} (h : impl_isFilter.f s a = some true) : s.size ≤ 400 ∧ Lev s ∧ 1 ≤ a ∧ a ≤ 50 := by
  unfold impl_isFilter.f impl_IsWave.f at h
  by_cases hs : s.size ≤ 9223372036854775807
  · rw [if_pos (by omega), Option.bind_some] at h
    cases hw : isW s
    · rw [hw, if_neg (by decide)] at h; cases h
    · rw [hw, if_pos rfl, within_eq, Option.bind_some] at h
      have h2 := of_decide_eq_true (Option.some.inj h)
      exact ⟨((isW_iff s).1 hw).1, ((isW_iff s).1 hw).2, h2⟩
  · rw [if_neg (by omega)] at h; cases h
end Go.Proofs.YtpmdiolkhmfphaaDoor.X

/- The program's DropPulses: what it answers. Conditions: none. -/
namespace Go.Proofs.YtpmdiolkhmfphaaDoor.X
open Go.RowKit Go.Proofs.YtpmdiolkhmfphaaDoorW.PrintWords Go.Proofs.YtpmdiolkhmfphaaDoorW.PrintLast Go.Proofs.YtpmdiolkhmfphaaDoorW.PrintMore
set_option linter.unusedVariables false
set_option linter.unusedSimpArgs false
/-- What DropPulses does with one pulse, and with all. -/
def dropS (t : Int) (l : List Int) (p : S32) : List Int := if p.f1 < t then fillN l p.f0.toNat 48 p.f1.toNat else l
def dropL (t : Int) (l : List Int) (ps : List S32) : List Int := ps.foldl (dropS t) l
theorem dropS_len (t : Int) (l : List Int) (p : S32) : (dropS t l p).length = l.length := by unfold dropS; split <;> simp [fillN_len]
theorem dropL_len (t : Int) (ps : List S32) : ∀ l : List Int, (dropL t l ps).length = l.length := by
  induction ps with
  | nil => intro l; rfl
  | cons p r ih => intro l; show (dropL t (dropS t l p) r).length = _; rw [ih, dropS_len]
theorem dropL_snoc (t : Int) (l : List Int) (ps : List S32) (i : Nat) (h : i < ps.length) : dropL t l (ps.take (i + 1)) = dropS t (dropL t l (ps.take i)) ps[i] := by
  unfold dropL
  rw [List.take_succ_eq_append_getElem h, List.foldl_append]; rfl
set_option maxHeartbeats 4000000 in
set_option maxRecDepth 100000 in
theorem Drop_no (s : ByteArray) (t : Int) (w : World) (h1 : impl_isFilter.f s t = some false) :
    Calls Tryd.prog 8 #[.string s, .int .i64 t] w fun e w' => e = .returned (.tuple #[.string ⟨#[]⟩, .bool false]) ∧ Below w.heap.size w w' := by
  have H1 := Aside0.mk h1
  clear h1
  go_enter Tryd.func8, Tryd.ntmps8
  go_wp2_with (go_at_call 11; (with_reducible refine (impl_isFilter.calls s t false _ H1.out).mono ?_); rintro e wn ⟨rfl, hb0⟩; (first | have hb := to_below_d hb0 | have hb := to_below_b hb0); have HB := Aside0.mk hb; clear hb hb0)
  go_ret2
  exact ⟨rfl, HB.out⟩
set_option maxHeartbeats 8000000 in
set_option maxRecDepth 100000 in
theorem Drop_yes (s : ByteArray) (t : Int) (ps : List S32) (k : Nat) (hin : ∀ p ∈ ps, ∃ a n : Nat, p = ⟨(a : Int), (n : Int)⟩ ∧ a + n ≤ s.size) (hlen : ps.length ≤ 400) (w : World) (h1 : impl_isFilter.f s t = some true) (h2 : impl_pulses.f k s = some ps) :
    Calls Tryd.prog 8 #[.string s, .int .i64 t] w fun e w' => e = .returned (.tuple #[.string (strOfNums (dropL t (bytesOf s) ps)), .bool true]) ∧ Below w.heap.size w w' := by
  obtain ⟨hs, hL, ht1, ht2⟩ := isFilter_true h1
  have H1 := Aside0.mk h1
  have H2 := Aside0.mk h2
  have HIN := Aside0.mk hin
  clear h1 h2 hin hL
  have hcv := fun W : World => print_bytes (P := Tryd.prog) 9 28 5 Tryd.underlying9 Tryd.underlying28 Tryd.underlying5 s W
  have HCV := Aside0.mk hcv
  clear hcv
  have hbl0 : (bytesOf s).length = s.size := bytesOf_length s
  have HBL0 := Aside0.mk hbl0
  clear hbl0
  go_enter Tryd.func8, Tryd.ntmps8
  go_wp2_with (first
    | (go_at_call 11; (with_reducible refine (impl_isFilter.calls s t true _ H1.out).mono ?_); rintro e w1 ⟨rfl, hb0⟩; (first | have hb := to_below_d hb0 | have hb := to_below_b hb0); have HB := Aside0.mk hb; clear hb hb0; have hcv := HCV.out w1)
    | (go_at_call 12; (with_reducible refine (impl_pulses.calls k s ps _ H2.out).mono ?_); rintro e w2 ⟨v2, rfl, ho0, hb⟩; have g1 := BRow.of_bytes w1 5 s; obtain ⟨g, hg⟩ : ∃ g, g = w1.heap.size := ⟨_, rfl⟩; rw [← hg] at g1; have hgl := g1.lt; have HR := Aside0.mk (g1.below hb); have HGW := Aside0.mk (show w.heap.size ≤ g by rw [hg]; exact below_size HB.out); have HO := Aside0.mk (Kd.R_mono (Kd.R_lower (Kd.R_bound ho0) (below_size (bytes_below HB.out (below_size HB.out) 5 s))) (ok' := fun q => g < q) (fun q hq => Nat.lt_of_lt_of_le hgl hq.2.1)); have n0_ := Aside0.mk (below_step (bytes_below HB.out (below_size HB.out) 5 s) hb); clear HB g1 hgl hb ho0 hcv; have HB := n0_; clear n0_; have HG := Aside0.mk hg; clear hg; obtain ⟨Ao, co, eo⟩ := Kd.R_slice HO.out; subst eo))
  rw [← HG.out]
  clear HCV H1 H2 HG
  obtain ⟨cp, hcp⟩ : ∃ cp, grownCap w1 s.size 0 5 = cp := ⟨_, rfl⟩
  rw [hcp]
  clear hcp
  go_loopg [19] ps.length (fun kq v19 wr => ∃ i : Nat, v19 = .int .i64 (i : Int) ∧ Aside0 (i + kq = ps.length) ∧ Aside0 (BRow wr g (dropL t (bytesOf s) (ps.take i))) ∧ Aside0 (Kd.R k32 32 wr w.heap.size (fun q => g < q) (.slice Ao ps.length co) ps) ∧ Aside0 (Below w.heap.size w wr))
  case atStart => exact ⟨0, rfl, ⟨by omega⟩, HR, HO, HB⟩
  case round =>
    clear HR HO HB
    obtain ⟨i, rfl, HE, HR, HO, HB⟩ := hrel
    by_cases hlt : i < ps.length
    · cases gk with
      | zero => have := HE.out; omega
      | succ g1 =>
      obtain ⟨a, n, hp, han⟩ := HIN.out ps[i] (List.getElem_mem hlt)
      obtain ⟨ad, he, hx0, hx1⟩ := at_T32 (Kd.R_reads' HO.out).2.2 (i : Int) (by omega) (by omega)
      have hrd : rd_T32 ps (i : Int) = ⟨(a : Int), (n : Int)⟩ := by
        unfold rd_T32
        rw [Int.toNat_natCast, List.getD_eq_getElem?_getD, List.getElem?_eq_getElem hlt, Option.getD_some, hp]
      rw [hrd, Int.toNat_natCast] at hx0 hx1
      subst he
      have HP := Aside0.mk hp
      clear hp hrd
      go_wp2_with (((with_reducible refine gate_dst (N := 8) rfl ?_); refine box_event ?hg (N := 8) ?hd (cs := #[.int .i64 0, .int .i64 0]) (t := 32) ?hr ?_; (case hd => rfl); (case hg => rfl); (case hr => first | (go_simp; done) | (go_simp; rfl)); intro gb hg wn hbox hb; have n0_ := Aside0.mk (HR.out.below hb); have n1_ := Aside0.mk (Kd.R_below HO.out hb); have n2_ := Aside0.mk (below_step HB.out hb); have BK := Aside0.mk hbox; have GE := Aside0.mk (by rw [hg]; exact below_size HB.out : w.heap.size ≤ gb); have NE := Aside0.mk (show g ≠ gb by have := HR.out.lt; omega); have NR := Aside0.mk (Kd.R_elderB HO.out gb (by omega)); clear HR HO HB; have HR := n0_; have HO := n1_; have HB := n2_; clear n0_ n1_ n2_; have NR2 := Aside0.mk (Kd.R_below NR.out hb); clear NR hb hbox hg; have z0 : wn.cell? ⟨gb, 0, none⟩ = some (.int .i64 0) := (blk_cell BK.out 0).trans rfl; have z1 : wn.cell? ⟨gb, 1, none⟩ = some (.int .i64 0) := (blk_cell BK.out 1).trans rfl; have f0 := blk_frozen BK.out 0; have f1 := blk_frozen BK.out 1))
      have p0 := Aside0.mk (blk_put (blk_put BK.out 0 (.int .i64 (a : Int)) (cs' := #[.int .i64 (a : Int), .int .i64 0]) rfl) 1 (.int .i64 (n : Int)) (cs' := #[.int .i64 (a : Int), .int .i64 (n : Int)]) rfl)
      have p1 := Aside0.mk ((HR.out.far (p := ⟨gb, 0, none⟩) NE.out (.int .i64 (a : Int))).far (p := ⟨gb, 1, none⟩) NE.out (.int .i64 (n : Int)))
      have p2 := Aside0.mk (Kd.R_mono (Kd.R_far (p := ⟨gb, 1, none⟩) (Kd.R_far (p := ⟨gb, 0, none⟩) NR2.out (fun q hq => hq.2) (.int .i64 (a : Int))) (fun q hq => hq.2) (.int .i64 (n : Int))) (fun q hq => hq.1))
      have p3 := Aside0.mk (below_set (j := 1) (v := .int .i64 (n : Int)) (below_set (j := 0) (v := .int .i64 (a : Int)) HB.out GE.out) GE.out)
      obtain ⟨l, hl⟩ : ∃ l, l = dropL t (bytesOf s) (ps.take i) := ⟨_, rfl⟩
      have hll : l.length = s.size := by rw [hl, dropL_len, HBL0.out]
      have HLL := Aside0.mk hll
      rw [← hl] at p1
      have hnx : dropL t (bytesOf s) (ps.take (i + 1)) = dropS t l ⟨(a : Int), (n : Int)⟩ := by rw [dropL_snoc t _ ps i hlt, hl, HP.out]
      have HNX := Aside0.mk hnx
      clear HR HO HB NR2 BK z0 z1 f0 f1 hl hnx hll hx0 hx1
      by_cases hnt : (n : Int) < t
      · go_loopg [25] n (fun kq v25 wi => ∃ j : Nat, v25 = .int .i64 (j : Int) ∧ Aside0 (j + kq = n) ∧ Aside0 (wi.heap[gb]? = some (.cells #[.int .i64 (a : Int), .int .i64 (n : Int)] 32 (0, 0))) ∧ Aside0 (BRow wi g (fillN l a 48 j)) ∧ Aside0 (Kd.R k32 32 wi w.heap.size (fun q => g < q) (.slice (some ad) ps.length co) ps) ∧ Aside0 (Below w.heap.size w wi))
        case atStart => exact ⟨0, rfl, ⟨by omega⟩, p0, p1, p2, p3⟩
        case round =>
          clear p0 p1 p2 p3
          obtain ⟨j, rfl, HJ, BK, HR, HO, HB⟩ := hrel
          by_cases hjn : j < n
          · cases gk with
            | zero => have := HJ.out; omega
            | succ g2 =>
            have hll := HLL.out
            have hc := HR.out.cell (a + j) (by rw [fillN_len]; omega)
            have hf := HR.out.free (a + j) (by rw [fillN_len]; omega)
            have x0 := (blk_cell BK.out 0).trans (show (#[Value.int .i64 (a : Int), .int .i64 (n : Int)] : Array Value)[0]? = some (.int .i64 (a : Int)) from rfl)
            have x1 := (blk_cell BK.out 1).trans (show (#[Value.int .i64 (a : Int), .int .i64 (n : Int)] : Array Value)[1]? = some (.int .i64 (n : Int)) from rfl)
            have b1 : a + j < s.size := by omega
            clear hll
            go_wp2
            go_roundg g2
            case measure => omega
            case rel => exact ⟨j + 1, by go_num, ⟨by have := HJ.out; omega⟩, ⟨blk_far BK.out (p := ⟨g, a + j, none⟩) (Ne.symm NE.out) _⟩, ⟨HR.out.put (a + j) (by rw [fillN_len, HLL.out]; omega) 48⟩, ⟨Kd.R_far (p := ⟨g, a + j, none⟩) HO.out (fun q hq => by show q ≠ g; omega) _⟩, ⟨HB.out.setCell (p := ⟨g, a + j, none⟩) HGW.out _⟩⟩
          · have e : j = n := by have := HJ.out; omega
            subst e
            go_wp2
            go_roundg g1
            case measure => omega
            case rel => exact ⟨i + 1, by go_num, ⟨by have := HE.out; omega⟩, ⟨by rw [HNX.out]; unfold dropS; rw [if_pos hnt]; exact HR.out⟩, HO, HB⟩
      · have HNT := Aside0.mk hnt
        go_loopg [25] n (fun kq v25 wi => ∃ j : Nat, v25 = .int .i64 (j : Int) ∧ Aside0 (j + kq = n) ∧ Aside0 (wi.heap[gb]? = some (.cells #[.int .i64 (a : Int), .int .i64 (n : Int)] 32 (0, 0))) ∧ Aside0 (BRow wi g l) ∧ Aside0 (Kd.R k32 32 wi w.heap.size (fun q => g < q) (.slice (some ad) ps.length co) ps) ∧ Aside0 (Below w.heap.size w wi))
        case atStart => exact ⟨0, rfl, ⟨by omega⟩, p0, p1, p2, p3⟩
        case round =>
          clear p0 p1 p2 p3
          obtain ⟨j, rfl, HJ, BK, HR, HO, HB⟩ := hrel
          by_cases hjn : j < n
          · cases gk with
            | zero => have := HJ.out; omega
            | succ g2 =>
            have hll := HLL.out
            have x0 := (blk_cell BK.out 0).trans (show (#[Value.int .i64 (a : Int), .int .i64 (n : Int)] : Array Value)[0]? = some (.int .i64 (a : Int)) from rfl)
            have x1 := (blk_cell BK.out 1).trans (show (#[Value.int .i64 (a : Int), .int .i64 (n : Int)] : Array Value)[1]? = some (.int .i64 (n : Int)) from rfl)
            have b1 : a + j < s.size := by omega
            clear hll
            go_wp2
            go_roundg g2
            case measure => omega
            case rel => exact ⟨j + 1, by go_num, ⟨by have := HJ.out; omega⟩, BK, HR, HO, HB⟩
          · have e : j = n := by have := HJ.out; omega
            subst e
            go_wp2
            go_roundg g1
            case measure => omega
            case rel => exact ⟨i + 1, by go_num, ⟨by have := HE.out; omega⟩, ⟨by rw [HNX.out]; unfold dropS; rw [if_neg (by first | exact HNT.out | exact Int.not_lt.mpr HNT.out)]; exact HR.out⟩, HO, HB⟩
    · have e : i = ps.length := by have := HE.out; omega
      subst e
      have hR := HR.out
      rw [List.take_length] at hR
      have hl : (dropL t (bytesOf s) ps).length = s.size := by rw [dropL_len, HBL0.out]
      have hcv := hR.string (P := Tryd.prog) Tryd.underlying28 Tryd.underlying5 Tryd.underlying9 cp
      rw [hl] at hcv
      clear hl
      go_wp2
      go_ret2
      exact ⟨rfl, HB.out⟩
def impl_DropPulses.f (a0 : ByteArray) (a1 : Int) : Option (ByteArray × Bool) :=
  (impl_isFilter.f a0 a1).bind fun t => if t = true then some (strOfNums (dropL a1 (bytesOf a0) (pz (edg a0 49 a0.size) (dns a0))), true) else some (⟨#[]⟩, false)
theorem pz_in (s : ByteArray) : ∀ us ds : List Int, Runs s us ds → ∀ p ∈ pz us ds, ∃ a n : Nat, p = ⟨(a : Int), (n : Int)⟩ ∧ a + n ≤ s.size
  | [], [], _, p, hp => by simp [pz] at hp
  | u :: us, d :: ds, h, p, hp => by
    rw [show pz (u :: us) (d :: ds) = ⟨u, d - u⟩ :: pz us ds from rfl, List.mem_cons] at hp
    rcases hp with rfl | hp
    · obtain ⟨a, b, rfl, rfl, h1, h2, _⟩ := h.1
      exact ⟨a, b - a, by congr 1; omega, by omega⟩
    · exact pz_in s us ds h.2 p hp
  | [], _ :: _, h, _, _ => h.elim
  | _ :: _, [], h, _, _ => h.elim
theorem pz_len : ∀ us ds : List Int, (pz us ds).length ≤ us.length := fun us ds => by unfold pz; rw [List.length_zipWith]; exact Nat.min_le_left _ _
theorem impl_DropPulses.calls (a0 : ByteArray) (a1 : Int) (r1 : ByteArray) (r2 : Bool) (w : World) (h : impl_DropPulses.f a0 a1 = some (r1, r2)) :
    Calls Tryd.prog 8 #[.string a0, .int .i64 a1] w fun e w' => e = .returned (.tuple #[.string r1, .bool r2]) ∧ Below w.heap.size w w' := by
  unfold impl_DropPulses.f at h
  obtain ⟨t, ht, h⟩ := Option.bind_eq_some_iff.mp h
  cases t with
  | false =>
    rw [if_neg (by simp)] at h
    simp only [Option.some.injEq, Prod.mk.injEq] at h
    obtain ⟨rfl, rfl⟩ := h
    exact Drop_no a0 a1 w ht
  | true =>
    rw [if_pos rfl] at h
    simp only [Option.some.injEq, Prod.mk.injEq] at h
    obtain ⟨rfl, rfl⟩ := h
    obtain ⟨hs, hL, _, _⟩ := isFilter_true ht
    exact Drop_yes a0 a1 _ 300001 (pz_in a0 _ _ (runs_all a0 hL)) (Nat.le_trans (pz_len _ _) (Nat.le_trans (edg_len _ _ _) hs)) w ht (pulses_eq 300001 a0 hs hL (by omega))
end Go.Proofs.YtpmdiolkhmfphaaDoor.X

