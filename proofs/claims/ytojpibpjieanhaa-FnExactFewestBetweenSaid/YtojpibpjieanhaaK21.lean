/- My own texts of this seat and its words, merged: XFun, CGraph, Xp0, XClone, Xp17, Xp18, Xp19, XMarks, Xp92, XMat, CWay, XPut, XSlow, XAll, XAllBetween, Xp100. Conditions: as each lemma says. -/
import Derived.Test.YtojpibpjieanhaaProg
import Derived.Below
import Derived.Deep.Draws
import Derived.Deep.AppendLies
import Derived.OwnWalk
import Derived.Laws.OwnMore
import Derived.Deep.OwnRows
import Derived.Tactics
import Derived.Lib.ConvBytes
import Derived.Laws.Slices
import Derived.WalkKit
import Derived.KernelRfl
import Derived.RowKit3
import Derived.Deep.LoopGhost
import Derived.Deep.QuietTactic
import Derived.BigQuiet
import Derived.Deep.DeepCutAuto
import Derived.Deep.CutBlock
import Derived.OrdersHeld
import Derived.RowKit
import Derived.Test.YtojpibpjieanhaaK0
import Derived.Test.YtojpibpjieanhaaK1
import Derived.Test.YtojpibpjieanhaaK5
import Derived.Test.YtojpibpjieanhaaK11
import Derived.Maps.AppendAt
import Derived.Laws.BytesArg
import Derived.Laws.MakeOwn
import Derived.WideLaws
import Derived.Deep.RegionHeld3
import Derived.Laws.Rows
import Derived.Lib.AppendStr
import Derived.ArgAppend
import Derived.Laws.IdiomCopy
import Derived.Laws.BitsLemmas
import Derived.Test.YtojpibpjieanhaaK12
import Derived.Test.YtojpibpjieanhaaK13
import Derived.Test.YtojpibpjieanhaaK6
import Derived.Test.YtojpibpjieanhaaK2
import Derived.Test.YtojpibpjieanhaaK3
import Derived.Test.YtojpibpjieanhaaK7
import Derived.Test.YtojpibpjieanhaaK4
import Derived.Test.YtojpibpjieanhaaK8
import Derived.Test.YtojpibpjieanhaaK9
import Derived.Test.YtojpibpjieanhaaK14
import Derived.Test.YtojpibpjieanhaaK15
import Derived.Test.YtojpibpjieanhaaK16
import Derived.Test.YtojpibpjieanhaaK17
import Derived.Test.YtojpibpjieanhaaK18
import Derived.Test.YtojpibpjieanhaaK19
import Derived.Test.YtojpibpjieanhaaK20
import Derived.Test.YtojpibpjieanhaaK10
import Derived.WalkSpells
import Derived.RegionTactic
import Derived.BigRegion
import Derived.Deep.RegionLaw
import Derived.StillTailTactics
section
/- Calls through a function value, as rules of the walk; small facts. Conditions: as each lemma says. -/
namespace Go.Proofs.Ytojpibpjieanhaa.X
open Go.RowKit Go.Proofs.YtojpibpjieanhaaW.PrintWords Go.Proofs.YtojpibpjieanhaaW.PrintLast Go.Proofs.YtojpibpjieanhaaW.PrintMore
theorem to_below_d {w w' : World} (h : Drawn0 w w') : Below w.heap.size w w' := h.below
theorem to_below_b {w w' : World} (h : Below w.heap.size w w') : Below w.heap.size w w' := h
section
variable {P : Program} {ops : Array Oper} {Q : Exit → Act → World → Prop}
/-- A call of a function value in a plain region, as an arm of go_wp2_with. -/
theorem goesV_ {rest : List Oper} {oi : Oper} {a : Act} {w : World} (N : Option Tmp) (hd : oi.dst = N) (hg : oi.guard = none) {f : FuncId} {fn : Func} {caps : Array Value} {x : Operand} {zs : Array Operand} {ts : Array TypeId} (hf : P.funcs[f]? = some fn) (hname : (fn.name == "runtime.NumGoroutine") = false) (hb : fn.body.isSome = true) (args : Array Value)
    (hop : oi.op = .call { callee := .value x, args := zs, argTypes := ts }) (hx : a.eval x = .func (.func f) #[] caps) (hargs : zs.map a.eval = args)
    (h : Calls P f (args ++ caps) w fun e w' => ∃ v, e = .returned v ∧ wpList P ops Q rest (a.put N v) w') : wpList P ops Q (oi :: rest) a w := by
  refine wpList_plain hg fun K hK => ?_
  have he := enters_ hf hname hb (args ++ caps) w
  have hrun : (execOp a.eval oi).run P w = .ok (.enter f (args ++ caps)) w := by
    unfold execOp
    simp [hop, resolve, Deferred.ofValue, invoke, hx, hargs, he]
  unfold Oper.wp
  rw [hrun, Oper.upon_enter]
  refine h.mono fun e w'' hh => ?_
  obtain ⟨v, rfl, hk⟩ := hh
  subst hd
  exact hK _ _ hk
end
/-- What a closure's number, text and captured variables are. -/
structure CloIs (P : Program) (f : Nat) (fn : Func) : Prop where
  hf : P.funcs[f]? = some fn
  hname : (fn.name == "runtime.NumGoroutine") = false
  hb : fn.body.isSome = true
end Go.Proofs.Ytojpibpjieanhaa.X
end
section
/- Graphs: rings, rounds that take vertices away, greatest delays. Plain; conditions: as each lemma says. -/
namespace Go.Proofs.Ytojpibpjieanhaa.FlowMath
set_option linter.unusedVariables false
set_option linter.unusedSimpArgs false
theorem pigeon : ∀ (n : Nat) (f : Nat → Nat), (∀ i, i ≤ n → f i < n) → ∃ i j, i < j ∧ j ≤ n ∧ f i = f j := by
  intro n
  induction n with
  | zero => intro f h; exact absurd (h 0 (Nat.le_refl _)) (Nat.not_lt_zero _)
  | succ n ih =>
    intro f h
    by_cases hex : ∃ i, i ≤ n ∧ f i = f (n + 1)
    · obtain ⟨i, hi, e⟩ := hex
      exact ⟨i, n + 1, by omega, Nat.le_refl _, e⟩
    · have hne : ∀ i, i ≤ n → f i ≠ f (n + 1) := fun i hi e => hex ⟨i, hi, e⟩
      have hc := h (n + 1) (Nat.le_refl _)
      obtain ⟨i, j, hij, hj, e⟩ := ih (fun i => if f i = n then f (n + 1) else f i) (by
        intro i hi
        have h1 := h i (by omega)
        have h2 := hne i hi
        show (if f i = n then f (n + 1) else f i) < n
        split <;> omega)
      refine ⟨i, j, hij, by omega, ?_⟩
      have h1 := hne i (by omega)
      have h2 := hne j hj
      have e' : (if f i = n then f (n + 1) else f i) = (if f j = n then f (n + 1) else f j) := e
      split at e' <;> split at e' <;> omega
inductive Plus (E : Nat → Nat → Prop) : Nat → Nat → Prop
  | one {a b} : E a b → Plus E a b
  | step {a b c} : E a b → Plus E b c → Plus E a c
theorem Plus.trans {E : Nat → Nat → Prop} {a b c : Nat} (h : Plus E a b) (k : Plus E b c) : Plus E a c := by
  induction h with
  | one e => exact .step e k
  | step e _ ih => exact .step e (ih k)
theorem Plus.snoc {E : Nat → Nat → Prop} {a b c : Nat} (h : Plus E a b) (k : E b c) : Plus E a c := h.trans (.one k)
/-- A set of vertices of which each has one of the set ahead of it holds a vertex that comes back to itself. -/
theorem cycle_of_back (E : Nat → Nat → Prop) (n : Nat) (S : Nat → Prop) (hS : ∀ v, S v → v < n ∧ ∃ u, S u ∧ E u v) (v0 : Nat) (h0 : S v0) : ∃ v, S v ∧ Plus E v v := by
  classical
  let p : {v // S v} → {v // S v} := fun v => ⟨Classical.choose (hS v.1 v.2).2, (Classical.choose_spec (hS v.1 v.2).2).1⟩
  have hp : ∀ v, E (p v).1 v.1 := fun v => (Classical.choose_spec (hS v.1 v.2).2).2
  let s : Nat → {v // S v} := fun k => Nat.rec ⟨v0, h0⟩ (fun _ x => p x) k
  have hs : ∀ k, E (s (k + 1)).1 (s k).1 := fun k => hp (s k)
  have hplus : ∀ d i, Plus E (s (i + d + 1)).1 (s i).1 := by
    intro d
    induction d with
    | zero => intro i; exact .one (hs i)
    | succ d ih => intro i; exact .step (hs (i + d + 1)) (ih i)
  obtain ⟨i, j, hij, _, e⟩ := pigeon n (fun k => (s k).1) (fun i _ => (hS _ (s i).2).1)
  refine ⟨(s i).1, (s i).2, ?_⟩
  have h := hplus (j - i - 1) i
  rw [show i + (j - i - 1) + 1 = j by omega] at h
  have e' : (s i).1 = (s j).1 := e
  rw [← e'] at h
  exact h
/-- How many of the first n numbers are in a set. -/
noncomputable def cnt (p : Nat → Prop) : Nat → Nat
  | 0 => 0
  | n + 1 => open Classical in cnt p n + if p n then 1 else 0
theorem cnt_le (p : Nat → Prop) (n : Nat) : cnt p n ≤ n := by
  induction n with
  | zero => exact Nat.le_refl _
  | succ n ih => unfold cnt; split <;> omega
theorem cnt_mono {p q : Nat → Prop} (n : Nat) (h : ∀ i, i < n → p i → q i) : cnt p n ≤ cnt q n := by
  induction n with
  | zero => exact Nat.le_refl _
  | succ n ih =>
    have := ih (fun i hi => h i (by omega))
    unfold cnt
    by_cases hp : p n
    · rw [if_pos hp, if_pos (h n (by omega) hp)]; omega
    · rw [if_neg hp]; omega
theorem cnt_lt {p q : Nat → Prop} (n : Nat) (h : ∀ i, i < n → p i → q i) (v : Nat) (hv : v < n) (hq : q v) (hp : ¬ p v) : cnt p n < cnt q n := by
  induction n with
  | zero => omega
  | succ n ih =>
    unfold cnt
    by_cases e : v = n
    · subst e
      have := cnt_mono (p := p) (q := q) v (fun i hi => h i (by omega))
      rw [if_neg hp, if_pos hq]; omega
    · have := ih (fun i hi => h i (by omega)) (by omega)
      by_cases hp' : p n
      · rw [if_pos hp', if_pos (h n (by omega) hp')]; omega
      · rw [if_neg hp']; omega
theorem Plus.last {E : Nat → Nat → Prop} {a c : Nat} (h : Plus E a c) : ∃ b, E b c ∧ (b = a ∨ Plus E a b) := by
  induction h with
  | one e => exact ⟨_, e, .inl rfl⟩
  | step e k ih =>
    obtain ⟨b, hb, hh⟩ := ih
    refine ⟨b, hb, .inr ?_⟩
    rcases hh with rfl | hh
    · exact .one e
    · exact .step e hh
theorem ring_back {E : Nat → Nat → Prop} {v : Nat} (h : Plus E v v) : ∃ u, Plus E u u ∧ E u v := by
  obtain ⟨b, hb, hh⟩ := h.last
  rcases hh with rfl | hh
  · exact ⟨b, h, hb⟩
  · exact ⟨b, .step hb hh, hb⟩
/-- Rounds that take vertices away to which no edge leads from one that is left. -/
theorem kahn (E : Nat → Nat → Prop) (n : Nat) (hE : ∀ a b, E a b → a < n ∧ b < n) (L : Nat → Nat → Prop) (h0 : ∀ v, v < n → L 0 v) (hlt : ∀ k v, L k v → v < n)
    (hsub : ∀ k v, L (k + 1) v → L k v) (hled : ∀ k v, L (k + 1) v → ∃ u, L k u ∧ E u v) (hkeep : ∀ k (C : Nat → Prop), (∀ v, C v → L k v) → (∀ v, C v → ∃ u, C u ∧ E u v) → ∀ v, C v → L (k + 1) v) :
    (∃ v, L n v) ↔ ∃ v, Plus E v v := by
  constructor
  · rintro ⟨v, hv⟩
    by_cases hst : ∃ k, k < n ∧ ∀ v, L k v → L (k + 1) v
    · obtain ⟨k, hk, hs⟩ := hst
      have hdown : ∀ d, L (k + d) v → L k v := by
        intro d
        induction d with
        | zero => exact id
        | succ d ih => exact fun h => ih (hsub _ _ h)
      have hkv : L k v := hdown (n - k) (by rw [show k + (n - k) = n by omega]; exact hv)
      obtain ⟨u, _, hu⟩ := cycle_of_back E n (L k) (fun x hx => ⟨hlt k x hx, hled k x (hs x hx)⟩) v hkv
      exact ⟨u, hu⟩
    · have hlow : ∀ k, k ≤ n → cnt (L k) n + k ≤ n := by
        intro k
        induction k with
        | zero => intro _; have := cnt_le (L 0) n; omega
        | succ k ih =>
          intro hk
          have h1 := ih (by omega)
          have hns : ¬ ∀ v, L k v → L (k + 1) v := fun h => hst ⟨k, by omega, h⟩
          obtain ⟨x, hx⟩ := Classical.not_forall.mp hns
          obtain ⟨hx1, hx2⟩ := Classical.not_imp.mp hx
          have := cnt_lt n (fun i _ h => hsub k i h) x (hlt k x hx1) hx1 hx2
          omega
      have h1 := hlow n (Nat.le_refl _)
      have h2 := cnt_lt (p := fun _ => False) (q := L n) n (fun _ _ h => h.elim) v (hlt n v hv) hv (fun h => h)
      omega
  · rintro ⟨v, hv⟩
    have hall : ∀ k v, Plus E v v → L k v := by
      intro k
      induction k with
      | zero => intro v hv; obtain ⟨u, _, hu⟩ := ring_back hv; exact h0 v (hE _ _ hu).2
      | succ k ih => exact fun v hv => hkeep k (fun x => Plus E x x) ih (fun x hx => ring_back hx) v hv
    exact ⟨v, hall n v hv⟩
/-- The greatest delay of a path that begins at a vertex. -/
structure IsSlow (d : Nat → Int) (es : List (Nat × Nat)) (D : Nat → Int) : Prop where
  own : ∀ v, d v ≤ D v
  far : ∀ e, e ∈ es → d e.1 + D e.2 ≤ D e.1
  att : ∀ v, D v = d v ∨ ∃ b, (v, b) ∈ es ∧ D v = d v + D b
end Go.Proofs.Ytojpibpjieanhaa.FlowMath
end
section
-- Written by a program of this session out of the kit's print of the loaded functions: a plain function of a Go function, and its contract.
namespace Go.Proofs.Ytojpibpjieanhaa.X
open Go.RowKit Go.Proofs.YtojpibpjieanhaaW.PrintWords Go.Proofs.YtojpibpjieanhaaW.PrintLast Go.Proofs.YtojpibpjieanhaaW.PrintMore
attribute [local go_sem] max2_int min2_int max_two min_two max_three min_three max_four min_four   -- for this text's walks alone
set_option linter.unusedVariables false
set_option linter.unusedSimpArgs false
def errW : Option Int → Value
  | none => .nilIface
  | some c => .iface 0 (.int .i64 c)
theorem errW_none : errW none = .nilIface := rfl
theorem errW_some (c : Int) : errW (some c) = .iface 0 (.int .i64 c) := rfl
theorem info2 : (Try.prog.info? 2).map (fun i => (i.zero, i.size, i.bytes)) = some (some (.int .i64 0), 1, 8) := by kernel_rfl
theorem info55 : (Try.prog.info? 55).map (fun i => (i.zero, i.size, i.bytes)) = some (some (.agg #[(.int .i64 0), (.int .i64 0), (.int .i64 0)]), 3, 24) := by kernel_rfl
-- the values' own types
/-! #### struct type 96 -/
structure S96 where
  f0 : Int
  f1 : Int
  f2 : Int
def z96 : S96 := ⟨(0 : Int), (0 : Int), (0 : Int)⟩
def k96 : Kd S96 := Kd.iso (Kd.pair (Kd.int .i64) (Kd.pair (Kd.int .i64) (Kd.int .i64))) (fun x : S96 => (x.f0, x.f1, x.f2))
theorem k96_open {w : World} {x : S96} {cs : List Value} (h : k96.K w x cs) : cs = [.int .i64 x.f0, .int .i64 x.f1, .int .i64 x.f2] := by
  obtain ⟨_, _, rfl, rfl, ⟨_, _, rfl, rfl, rfl⟩⟩ := h
  exact rfl
theorem k96_mk (w : World) (x : S96)  : k96.K w x [.int .i64 x.f0, .int .i64 x.f1, .int .i64 x.f2] := ⟨[.int .i64 x.f0], [.int .i64 x.f1, .int .i64 x.f2], rfl, rfl, ⟨[.int .i64 x.f1], [.int .i64 x.f2], rfl, rfl, rfl⟩⟩
def rd_T96 (xs : List S96) (i : Int) : S96 := xs.getD i.toNat z96
theorem at_T96 {w : World} {A : Option Addr} {n : Nat} {xs : List S96} (h : Kd.C k96 w A n xs) (i : Int) (h0 : 0 ≤ i) (h1 : i < n) : ∃ ad , A = some ad ∧ w.cell? (ad.add (i.toNat * 3)) = some (.int .i64 (rd_T96 xs i).f0) ∧ w.cell? ⟨(ad.add (i.toNat * 3)).block, (ad.add (i.toNat * 3)).off + 1, none⟩ = some (.int .i64 (rd_T96 xs i).f1) ∧ w.cell? ⟨(ad.add (i.toNat * 3)).block, (ad.add (i.toNat * 3)).off + 2, none⟩ = some (.int .i64 (rd_T96 xs i).f2) := by
  obtain ⟨ad, c, e, _, hK, hc0⟩ := Kd.C_get h z96 i h0 h1
  have hc : ∀ j u, c[j]? = some u → w.cell? (ad.add (i.toNat * 3 + j)) = some u := hc0
  obtain rfl := k96_open hK
  exact ⟨ad, e, hc 0 _ rfl, by rw [← add_field _ _ 1 (by omega)]; exact hc 1 _ rfl, by rw [← add_field _ _ 2 (by omega)]; exact hc 2 _ rfl⟩
/-! #### struct type 55 -/
structure S55 where
  f0 : Int
  f1 : Int
  f2 : Int
def z55 : S55 := ⟨(0 : Int), (0 : Int), (0 : Int)⟩
def k55 : Kd S55 := Kd.iso (Kd.pair (Kd.int .i64) (Kd.pair (Kd.int .i64) (Kd.int .i64))) (fun x : S55 => (x.f0, x.f1, x.f2))
theorem k55_open {w : World} {x : S55} {cs : List Value} (h : k55.K w x cs) : cs = [.int .i64 x.f0, .int .i64 x.f1, .int .i64 x.f2] := by
  obtain ⟨_, _, rfl, rfl, ⟨_, _, rfl, rfl, rfl⟩⟩ := h
  exact rfl
theorem k55_openM {w : World} {base : Nat} {ok : Nat → Prop} {x : S55} {cs : List Value} (h : k55.M w base ok x cs) : cs = [.int .i64 x.f0, .int .i64 x.f1, .int .i64 x.f2] := by
  obtain ⟨_, _, rfl, rfl, ⟨_, _, rfl, rfl, rfl⟩⟩ := h
  exact rfl
theorem k55_mkM (w : World) (base : Nat) (ok : Nat → Prop) (x : S55)  : k55.M w base ok x [.int .i64 x.f0, .int .i64 x.f1, .int .i64 x.f2] := ⟨[.int .i64 x.f0], [.int .i64 x.f1, .int .i64 x.f2], rfl, rfl, ⟨[.int .i64 x.f1], [.int .i64 x.f2], rfl, rfl, rfl⟩⟩
def rd_T55 (xs : List S55) (i : Int) : S55 := xs.getD i.toNat z55
theorem at_T55 {w : World} {A : Option Addr} {n : Nat} {xs : List S55} (h : Kd.C k55 w A n xs) (i : Int) (h0 : 0 ≤ i) (h1 : i < n) : ∃ ad , A = some ad ∧ w.cell? (ad.add (i.toNat * 3)) = some (.int .i64 (rd_T55 xs i).f0) ∧ w.cell? ⟨(ad.add (i.toNat * 3)).block, (ad.add (i.toNat * 3)).off + 1, none⟩ = some (.int .i64 (rd_T55 xs i).f1) ∧ w.cell? ⟨(ad.add (i.toNat * 3)).block, (ad.add (i.toNat * 3)).off + 2, none⟩ = some (.int .i64 (rd_T55 xs i).f2) := by
  obtain ⟨ad, c, e, _, hK, hc0⟩ := Kd.C_get h z55 i h0 h1
  have hc : ∀ j u, c[j]? = some u → w.cell? (ad.add (i.toNat * 3 + j)) = some u := hc0
  obtain rfl := k55_open hK
  exact ⟨ad, e, hc 0 _ rfl, by rw [← add_field _ _ 1 (by omega)]; exact hc 1 _ rfl, by rw [← add_field _ _ 2 (by omega)]; exact hc 2 _ rfl⟩
/-! #### struct type 77 -/
structure S77 where
  f0 : Int
  f1 : Int
  f2 : Bool
def z77 : S77 := ⟨(0 : Int), (0 : Int), false⟩
def k77 : Kd S77 := Kd.iso (Kd.pair (Kd.int .i64) (Kd.pair (Kd.int .i64) Kd.bool)) (fun x : S77 => (x.f0, x.f1, x.f2))
theorem k77_open {w : World} {x : S77} {cs : List Value} (h : k77.K w x cs) : cs = [.int .i64 x.f0, .int .i64 x.f1, .bool x.f2] := by
  obtain ⟨_, _, rfl, rfl, ⟨_, _, rfl, rfl, rfl⟩⟩ := h
  exact rfl
theorem k77_mkM (w : World) (base : Nat) (ok : Nat → Prop) (x : S77)  : k77.M w base ok x [.int .i64 x.f0, .int .i64 x.f1, .bool x.f2] := ⟨[.int .i64 x.f0], [.int .i64 x.f1, .bool x.f2], rfl, rfl, ⟨[.int .i64 x.f1], [.bool x.f2], rfl, rfl, rfl⟩⟩
def rd_T77 (xs : List S77) (i : Int) : S77 := xs.getD i.toNat z77
theorem at_T77 {w : World} {A : Option Addr} {n : Nat} {xs : List S77} (h : Kd.C k77 w A n xs) (i : Int) (h0 : 0 ≤ i) (h1 : i < n) : ∃ ad , A = some ad ∧ w.cell? (ad.add (i.toNat * 3)) = some (.int .i64 (rd_T77 xs i).f0) ∧ w.cell? ⟨(ad.add (i.toNat * 3)).block, (ad.add (i.toNat * 3)).off + 1, none⟩ = some (.int .i64 (rd_T77 xs i).f1) ∧ w.cell? ⟨(ad.add (i.toNat * 3)).block, (ad.add (i.toNat * 3)).off + 2, none⟩ = some (.bool (rd_T77 xs i).f2) := by
  obtain ⟨ad, c, e, _, hK, hc0⟩ := Kd.C_get h z77 i h0 h1
  have hc : ∀ j u, c[j]? = some u → w.cell? (ad.add (i.toNat * 3 + j)) = some u := hc0
  obtain rfl := k77_open hK
  exact ⟨ad, e, hc 0 _ rfl, by rw [← add_field _ _ 1 (by omega)]; exact hc 1 _ rfl, by rw [← add_field _ _ 2 (by omega)]; exact hc 2 _ rfl⟩
def rd_L5 (xs : List (List S77)) (i : Int) : (List S77) := xs.getD i.toNat ([] : List S77)
theorem at_L5 {w : World} {A : Option Addr} {n : Nat} {xs : List (List S77)} (h : Kd.C (Kd.slice 77 k77) w A n xs) (i : Int) (h0 : 0 ≤ i) (h1 : i < n) : ∃ ad A0 c0, A = some ad ∧ w.cell? (ad.add i.toNat) = some (.slice A0 (rd_L5 xs i).length c0) ∧ (rd_L5 xs i).length ≤ c0 ∧ k77.C w A0 (rd_L5 xs i).length (rd_L5 xs i) := by
  obtain ⟨ad, c, e, _, hK, hc0⟩ := Kd.C_get h ([] : List S77) i h0 h1
  have hc : ∀ j u, c[j]? = some u → w.cell? (ad.add (i.toNat * 1 + j)) = some u := hc0
  obtain ⟨A0, c0, rfl, l0, g0⟩ := hK
  exact ⟨ad, A0, c0, e, by have hq := hc 0 _ rfl; rwa [Nat.mul_one, Nat.add_zero] at hq, l0, g0⟩
end Go.Proofs.Ytojpibpjieanhaa.X
end
section
/- The library's Clone of a slice of whole numbers. Conditions: none. -/
namespace Go.Proofs.Ytojpibpjieanhaa.X
open Go.RowKit Go.Proofs.YtojpibpjieanhaaW.PrintWords Go.Proofs.YtojpibpjieanhaaW.PrintLast Go.Proofs.YtojpibpjieanhaaW.PrintMore
set_option linter.unusedVariables false
set_option linter.unusedSimpArgs false
end Go.Proofs.Ytojpibpjieanhaa.X
end
section
-- Written by a program of this session out of the kit's print of the loaded functions: a plain function of a Go function, and its contract.
namespace Go.Proofs.Ytojpibpjieanhaa.X
open Go.RowKit Go.Proofs.YtojpibpjieanhaaW.PrintWords Go.Proofs.YtojpibpjieanhaaW.PrintLast Go.Proofs.YtojpibpjieanhaaW.PrintMore
attribute [local go_sem] max2_int min2_int max_two min_two max_three min_three max_four min_four   -- for this text's walks alone
set_option linter.unusedVariables false
set_option linter.unusedSimpArgs false
/-! ### laws_eqInt64S: function 17 -/
def laws_eqInt64S.l0 : Nat → List Int → List Int → Int → Option (Bool)
  | 0, _, _, _ => none
  | k + 1, x0, x1, x5 => if x5 < (x0.length : Int) then (if 0 ≤ x5 then (if x5 < (x1.length : Int) then (if (rd x0 x5) = (rd x1 x5) then (laws_eqInt64S.l0 k x0 x1 (wrap64 (x5 + 1))) else (some false)) else (none)) else (none)) else (some true)
def laws_eqInt64S.f (k : Nat) (l0 : List Int) (l1 : List Int) : Option (Bool) := if (l0.length : Int) = (l1.length : Int) then (laws_eqInt64S.l0 k l0 l1 0) else (some false)
set_option maxHeartbeats 8000000 in
set_option maxRecDepth 100000 in
theorem laws_eqInt64S.calls (k : Nat) (A0 : Option Addr) (c0 : Nat) (l0 : List Int) (A1 : Option Addr) (c1 : Nat) (l1 : List Int) (r : Bool) (w : World) (hr0 : Kd.C (Kd.int .i64) w A0 l0.length l0) (hc0 : l0.length ≤ c0) (hr1 : Kd.C (Kd.int .i64) w A1 l1.length l1) (hc1 : l1.length ≤ c1) (h : laws_eqInt64S.f k l0 l1 = some r) :
    Calls Try.prog 17 #[.slice A0 l0.length c0, .slice A1 l1.length c1] w fun e w' => e = .returned (.bool r) ∧ Drawn0 w w' := by
  have HR0 := Aside0.mk hr0
  have HC0 := Aside0.mk hc0
  clear hr0 hc0
  have HR1 := Aside0.mk hr1
  have HC1 := Aside0.mk hc1
  clear hr1 hc1
  have H : (if (l0.length : Int) = (l1.length : Int) then (laws_eqInt64S.l0 k l0 l1 0) else (some false)) = some r := h
  clear h
  by_cases c3 : (l0.length : Int) = (l1.length : Int)
  · rw [if_pos c3] at H
    have c3b0 : ((l0.length : Int) == (l1.length : Int)) = true := beq_iff_eq.mpr c3
    have c3b1 : ((l0.length : Int) != (l1.length : Int)) = false := bne_eq_false_iff_eq.mpr c3
    have c3b2 : (l0.length == l1.length) = true := by first | simpa using c3 | (simp at c3 ⊢; omega)
    clear c3
    have H' := Aside0.mk H
    clear H
    go_enter Try.func17, Try.ntmps17
    go_wp2
    repeat (go_quiet (fail); try go_wp2)
    go_loopg [5] k (fun kq v5 w' => ∃ (x5_1 : Int), v5 = .int .i64 x5_1 ∧ Aside0 (laws_eqInt64S.l0 kq l0 l1 x5_1 = some r) ∧ Aside0 (kq ≤ k) ∧ Drawn0 w w')
    case atStart => exact ⟨(0), (by first | rfl | (simp; done) | (simp [*]; done)), H', ⟨Nat.le_refl _⟩, by repeat (first | exact Drawn0.refl _ | apply Drawn0.step)⟩
    case round =>
      clear H'
      try clear c1
      try clear p2
      try clear c3
      try clear c3b0
      try clear c3b1
      try clear c3b2
      obtain ⟨x5_1, rfl, HA, HK1, ⟨m1, rfl⟩⟩ := hrel
      cases gk with
      | zero => exact absurd HA.out (by simp [laws_eqInt64S.l0])
      | succ k1 =>
        have H := HA.out
        clear HA
        simp only [laws_eqInt64S.l0] at H
        by_cases c4 : x5_1 < (l0.length : Int)
        · rw [if_pos c4] at H
          have c4b0 : decide (x5_1 < (l0.length : Int)) = true := decide_eq_true c4
          clear c4
          by_cases c5 : 0 ≤ x5_1
          · rw [if_pos c5] at H
            have c5b0 : decide (0 ≤ x5_1) = true := decide_eq_true c5
            clear c5
            by_cases c6 : x5_1 < (l1.length : Int)
            · rw [if_pos c6] at H
              have c6b0 : decide (x5_1 < (l1.length : Int)) = true := decide_eq_true c6
              clear c6
              by_cases c7 : (rd l0 x5_1) = (rd l1 x5_1)
              · rw [if_pos c7] at H
                have c7b0 : ((rd l0 x5_1) == (rd l1 x5_1)) = true := beq_iff_eq.mpr c7
                have c7b1 : ((rd l0 x5_1) != (rd l1 x5_1)) = false := bne_eq_false_iff_eq.mpr c7
                clear c7
                have H' := Aside0.mk H
                clear H
                have p132 : 0 ≤ (x5_1 : Int) := of_decide_eq_true (by first | (with_reducible assumption) | assumption)
                have q132 : x5_1 < (l0.length : Int) := of_decide_eq_true (by first | (with_reducible assumption) | assumption)
                obtain ⟨ad132, e132, hx132_0⟩ := Kd.at_int HR0.out x5_1 p132 q132
                cases e132
                replace p132 := eq_true p132
                replace q132 := eq_true q132
                have p133 : 0 ≤ (x5_1 : Int) := of_decide_eq_true (by first | (with_reducible assumption) | assumption)
                have q133 : x5_1 < (l1.length : Int) := of_decide_eq_true (by first | (with_reducible assumption) | assumption)
                obtain ⟨ad133, e133, hx133_0⟩ := Kd.at_int HR1.out x5_1 p133 q133
                cases e133
                replace p133 := eq_true p133
                replace q133 := eq_true q133
                go_wp2
                repeat (go_quiet (fail); try go_wp2)
                go_roundg k1
                case measure => have := HK1.out; omega
                case rel => exact ⟨(wrap64 (x5_1 + 1)), (by first | rfl | (simp; done) | (simp [*]; done)), H', ⟨by have := HK1.out; omega⟩, by repeat (first | exact Drawn0.refl _ | apply Drawn0.step)⟩
              · rw [if_neg c7] at H
                have c7b0 : ((rd l0 x5_1) == (rd l1 x5_1)) = false := beq_eq_false_iff_ne.mpr c7
                have c7b1 : ((rd l0 x5_1) != (rd l1 x5_1)) = true := bne_iff_ne.mpr c7
                obtain rfl := Option.some.inj H
                have p132 : 0 ≤ (x5_1 : Int) := of_decide_eq_true (by first | (with_reducible assumption) | assumption)
                have q132 : x5_1 < (l0.length : Int) := of_decide_eq_true (by first | (with_reducible assumption) | assumption)
                obtain ⟨ad132, e132, hx132_0⟩ := Kd.at_int HR0.out x5_1 p132 q132
                cases e132
                replace p132 := eq_true p132
                replace q132 := eq_true q132
                have p133 : 0 ≤ (x5_1 : Int) := of_decide_eq_true (by first | (with_reducible assumption) | assumption)
                have q133 : x5_1 < (l1.length : Int) := of_decide_eq_true (by first | (with_reducible assumption) | assumption)
                obtain ⟨ad133, e133, hx133_0⟩ := Kd.at_int HR1.out x5_1 p133 q133
                cases e133
                replace p133 := eq_true p133
                replace q133 := eq_true q133
                go_wp2
                repeat (go_quiet (fail); try go_wp2)
                go_ret
                exact ⟨by first | rfl | (simp; done) | (simp [*]; done), by repeat (first | exact Drawn0.refl _ | apply Drawn0.step)⟩
            · rw [if_neg c6] at H
              exact absurd H (by simp)
          · rw [if_neg c5] at H
            exact absurd H (by simp)
        · rw [if_neg c4] at H
          have c4b0 : decide (x5_1 < (l0.length : Int)) = false := decide_eq_false c4
          clear c4
          obtain rfl := Option.some.inj H
          go_wp2
          repeat (go_quiet (fail); try go_wp2)
          go_ret
          exact ⟨by first | rfl | (simp; done) | (simp [*]; done), by repeat (first | exact Drawn0.refl _ | apply Drawn0.step)⟩
  · rw [if_neg c3] at H
    have c3b0 : ((l0.length : Int) == (l1.length : Int)) = false := beq_eq_false_iff_ne.mpr c3
    have c3b1 : ((l0.length : Int) != (l1.length : Int)) = true := bne_iff_ne.mpr c3
    have c3b2 : (l0.length == l1.length) = false := by first | simpa using c3 | (simp at c3 ⊢; omega)
    obtain rfl := Option.some.inj H
    go_enter Try.func17, Try.ntmps17
    go_wp2
    repeat (go_quiet (fail); try go_wp2)
    go_ret
    exact ⟨by first | rfl | (simp; done) | (simp [*]; done), by repeat (first | exact Drawn0.refl _ | apply Drawn0.step)⟩
end Go.Proofs.Ytojpibpjieanhaa.X
end
section
-- Written by a program of this session out of the kit's print of the loaded functions: a plain function of a Go function, and its contract.
namespace Go.Proofs.Ytojpibpjieanhaa.X
open Go.RowKit Go.Proofs.YtojpibpjieanhaaW.PrintWords Go.Proofs.YtojpibpjieanhaaW.PrintLast Go.Proofs.YtojpibpjieanhaaW.PrintMore
attribute [local go_sem] max2_int min2_int max_two min_two max_three min_three max_four min_four   -- for this text's walks alone
set_option linter.unusedVariables false
set_option linter.unusedSimpArgs false
/-! ### laws_markInt64S: function 18 -/
end Go.Proofs.Ytojpibpjieanhaa.X
end
section
-- Written by a program of this session out of the kit's print of the loaded functions: a plain function of a Go function, and its contract.
namespace Go.Proofs.Ytojpibpjieanhaa.X
open Go.RowKit Go.Proofs.YtojpibpjieanhaaW.PrintWords Go.Proofs.YtojpibpjieanhaaW.PrintLast Go.Proofs.YtojpibpjieanhaaW.PrintMore
attribute [local go_sem] max2_int min2_int max_two min_two max_three min_three max_four min_four   -- for this text's walks alone
set_option linter.unusedVariables false
set_option linter.unusedSimpArgs false
/-! ### laws_heldInt64S: function 19 -/
end Go.Proofs.Ytojpibpjieanhaa.X
end
section
/- Lists that are held against each other, marked, and held against their marks: what the laws' own functions tell. Conditions: as each lemma says. -/
namespace Go.Proofs.Ytojpibpjieanhaa.X
open Go.RowKit Go.Proofs.YtojpibpjieanhaaW.PrintWords Go.Proofs.YtojpibpjieanhaaW.PrintLast Go.Proofs.YtojpibpjieanhaaW.PrintMore
theorem w64 {n : Int} (h0 : -9223372036854775808 ≤ n) (h1 : n ≤ 9223372036854775807) : wrap64 n = n := by unfold wrap64; omega
theorem rd_nat (l : List Int) (i : Nat) (h : i < l.length) : rd l (i : Int) = l[i] := by
  unfold rd
  simp [h]
theorem eq_loop (l : List Int) (hl : l.length ≤ 4000000) : ∀ (d k i : Nat), i + d = l.length → d < k → laws_eqInt64S.l0 k l l i = some true
  | 0, k, i, hi, hk => by
    cases k with
    | zero => omega
    | succ k => rw [laws_eqInt64S.l0, if_neg (by omega)]
  | d + 1, k, i, hi, hk => by
    cases k with
    | zero => omega
    | succ k =>
      have ih := eq_loop l hl d k (i + 1) (by omega) (by omega)
      rw [laws_eqInt64S.l0, if_pos (by omega), if_pos (by omega), if_pos (by omega), if_pos rfl, w64 (by omega) (by omega)]
      rw [Int.natCast_add, Int.natCast_one] at ih
      exact ih
theorem eqInt64S_refl (k : Nat) (l : List Int) (hl : l.length ≤ 4000000) (hk : l.length < k) : laws_eqInt64S.f k l l = some true := by
  unfold laws_eqInt64S.f
  rw [if_pos rfl]
  exact eq_loop l hl l.length k 0 (by omega) hk
end Go.Proofs.Ytojpibpjieanhaa.X
end
section
-- Written by a program of this session out of the kit's print of the loaded functions: a plain function of a Go function, and its contract.
namespace Go.Proofs.Ytojpibpjieanhaa.X
open Go.RowKit Go.Proofs.YtojpibpjieanhaaW.PrintWords Go.Proofs.YtojpibpjieanhaaW.PrintLast Go.Proofs.YtojpibpjieanhaaW.PrintMore
attribute [local go_sem] max2_int min2_int max_two min_two max_three min_three max_four min_four   -- for this text's walks alone
set_option linter.unusedVariables false
set_option linter.unusedSimpArgs false
/-! ### impl_between_isBetter: function 92 -/
def impl_between_isBetter.f (a0_0 : Int) (a0_1 : Int) (a0_2 : Bool) (a1_0 : Int) (a1_1 : Int) (a1_2 : Bool) : Option (Bool) := if a0_2 = true then (if a1_2 = true then (if a0_0 < a1_0 then (some true) else (if a0_0 = a1_0 then (some (decide (a0_1 > a1_1))) else (some false))) else (some a0_2)) else (some a0_2)
set_option maxHeartbeats 8000000 in
set_option maxRecDepth 100000 in
theorem impl_between_isBetter.calls (a0_0 : Int) (a0_1 : Int) (a0_2 : Bool) (a1_0 : Int) (a1_1 : Int) (a1_2 : Bool) (r : Bool) (w : World) (h : impl_between_isBetter.f a0_0 a0_1 a0_2 a1_0 a1_1 a1_2 = some r) :
    Calls Try.prog 92 #[.agg #[.int .i64 a0_0, .int .i64 a0_1, .bool a0_2], .agg #[.int .i64 a1_0, .int .i64 a1_1, .bool a1_2]] w fun e w' => e = .returned (.bool r) ∧ Below w.heap.size w w' := by
  have hu77 := Try.underlying77
  have HB := Aside0.mk (Below.refl w.heap.size w)
  have H : (if a0_2 = true then (if a1_2 = true then (if a0_0 < a1_0 then (some true) else (if a0_0 = a1_0 then (some (decide (a0_1 > a1_1))) else (some false))) else (some a0_2)) else (some a0_2)) = some r := h
  clear h
  by_cases c3 : a0_2 = true
  · subst c3
    have H1 : (if a1_2 = true then (if a0_0 < a1_0 then (some true) else (if a0_0 = a1_0 then (some (decide (a0_1 > a1_1))) else (some false))) else (some true)) = some r := by rw [if_pos rfl] at H; exact H
    clear H
    have H := H1
    clear H1
    by_cases c4 : a1_2 = true
    · subst c4
      have H1 : (if a0_0 < a1_0 then (some true) else (if a0_0 = a1_0 then (some (decide (a0_1 > a1_1))) else (some false))) = some r := by rw [if_pos rfl] at H; exact H
      clear H
      have H := H1
      clear H1
      by_cases c5 : a0_0 < a1_0
      · rw [if_pos c5] at H
        have c5b0 : decide (a0_0 < a1_0) = true := decide_eq_true c5
        clear c5
        obtain rfl := Option.some.inj H
        go_enter Try.func92, Try.ntmps92
        go_wp2_with (first | ((with_reducible refine gate_dst (N := 2) rfl ?_); refine box_event ?hg (N := 2) ?hd (cs := #[.int .i64 a0_0, .int .i64 a0_1, .bool true]) (t := 77) ?hr ?_; (case hd => rfl); (case hg => rfl); (case hr => first | (go_simp; done) | (go_simp; rfl)); intro gb783 hg w6 hbox hb; have n0_ := Aside0.mk (below_step (by repeat (first | (with_reducible first | exact HB.out | apply below_alloc | apply pw_below_drewN | apply below_drew1) | exact HB.out)) hb); have n1_ := Aside0.mk (hbox); have n2_ := Aside0.mk ((by rw [hg]; exact (below_size (by repeat (first | (with_reducible first | exact HB.out | apply below_alloc | apply pw_below_drewN | apply below_drew1) | exact HB.out))) : w.heap.size ≤ gb783)); have n3_ := Aside0.mk ((by rw [hg]; exact (below_size (by repeat (first | (with_reducible first | exact HB.out | apply below_alloc | apply pw_below_drewN | apply below_drew1) | exact HB.out))) : w.heap.size ≤ gb783)); clear HB; have HB := n0_; have BK783 := n1_; have GW783 := n2_; have GE783 := n3_; clear n0_ n1_ n2_ n3_; clear hb hbox hg) | ((with_reducible refine gate_dst (N := 3) rfl ?_); refine box_event ?hg (N := 3) ?hd (cs := #[.int .i64 a1_0, .int .i64 a1_1, .bool true]) (t := 77) ?hr ?_; (case hd => rfl); (case hg => rfl); (case hr => first | (go_simp; done) | (go_simp; rfl)); intro gb784 hg w7 hbox hb; have n0_ := Aside0.mk (blk_below (g := gb783) (o := .cells #[.int .i64 a0_0, .int .i64 a0_1, .bool true] 77 (0, 0)) (by (with_reducible repeat (first | refine blk_drewN ?_ _ | refine blk_drew ?_ | refine blk_alloc ?_ _)); exact BK783.out) hb); have n1_ := Aside0.mk (below_step (by repeat (first | (with_reducible first | exact HB.out | apply below_alloc | apply pw_below_drewN | apply below_drew1 | refine below_set ?_ GE783.out) | exact HB.out)) hb); have n2_ := Aside0.mk (hbox); have n3_ := Aside0.mk ((by rw [hg]; exact (below_size (by repeat (first | (with_reducible first | exact HB.out | apply below_alloc | apply pw_below_drewN | apply below_drew1 | refine below_set ?_ GE783.out) | exact HB.out))) : w.heap.size ≤ gb784)); have n4_ := Aside0.mk ((by rw [hg]; exact (below_size (by repeat (first | (with_reducible first | exact HB.out | apply below_alloc | apply pw_below_drewN | apply below_drew1 | refine below_set ?_ GE783.out) | exact HB.out))) : w.heap.size ≤ gb784)); have n5_ := Aside0.mk ((by rw [hg]; exact Nat.ne_of_lt (blk_lt (g := gb783) (o := .cells #[.int .i64 a0_0, .int .i64 a0_1, .bool true] 77 (0, 0)) (by (with_reducible repeat (first | refine blk_drewN ?_ _ | refine blk_drew ?_ | refine blk_alloc ?_ _)); exact BK783.out)) : gb783 ≠ gb784)); have n6_ := Aside0.mk ((by rw [hg]; exact Nat.ne_of_gt (blk_lt (g := gb783) (o := .cells #[.int .i64 a0_0, .int .i64 a0_1, .bool true] 77 (0, 0)) (by (with_reducible repeat (first | refine blk_drewN ?_ _ | refine blk_drew ?_ | refine blk_alloc ?_ _)); exact BK783.out)) : gb784 ≠ gb783)); clear BK783; clear HB; have BK783 := n0_; have HB := n1_; have BK784 := n2_; have GW784 := n3_; have GE784 := n4_; have NB783_784 := n5_; have NB784_783 := n6_; clear n0_ n1_ n2_ n3_ n4_ n5_ n6_; clear hb hbox hg; have hnb8 := NB783_784.out; have hnc8 := NB784_783.out; have hcz9_0 : w7.cell? ⟨gb783, 0, none⟩ = some (.int .i64 a0_0) := (blk_cell BK783.out 0).trans rfl; have hcz9_1 : w7.cell? ⟨gb783, 1, none⟩ = some (.int .i64 a0_1) := (blk_cell BK783.out 1).trans rfl; have hcz9_2 : w7.cell? ⟨gb783, 2, none⟩ = some (.bool true) := (blk_cell BK783.out 2).trans rfl; have hfz9_0 := blk_frozen BK783.out 0; have hfz9_1 := blk_frozen BK783.out 1; have hfz9_2 := blk_frozen BK783.out 2; have hcz10_0 : w7.cell? ⟨gb784, 0, none⟩ = some (.int .i64 a1_0) := (blk_cell BK784.out 0).trans rfl; have hcz10_1 : w7.cell? ⟨gb784, 1, none⟩ = some (.int .i64 a1_1) := (blk_cell BK784.out 1).trans rfl; have hcz10_2 : w7.cell? ⟨gb784, 2, none⟩ = some (.bool true) := (blk_cell BK784.out 2).trans rfl; have hfz10_0 := blk_frozen BK784.out 0; have hfz10_1 := blk_frozen BK784.out 1; have hfz10_2 := blk_frozen BK784.out 2))
        go_ret
        exact ⟨by first | rfl | (simp [errW_none, errW_some] <;> rfl) | (simp [*, errW_none, errW_some] <;> rfl), by repeat (first | (with_reducible first | exact HB.out | apply below_alloc | apply pw_below_drewN | apply below_drew1 | refine below_set ?_ GE783.out | refine below_set ?_ GE784.out) | exact HB.out)⟩
      · rw [if_neg c5] at H
        have c5b0 : decide (a0_0 < a1_0) = false := decide_eq_false c5
        clear c5
        by_cases c11 : a0_0 = a1_0
        · rw [if_pos c11] at H
          have c11b0 : (a0_0 == a1_0) = true := beq_iff_eq.mpr c11
          have c11b1 : (a0_0 != a1_0) = false := bne_eq_false_iff_eq.mpr c11
          clear c11
          obtain rfl := Option.some.inj H
          go_enter Try.func92, Try.ntmps92
          go_wp2_with (first | ((with_reducible refine gate_dst (N := 2) rfl ?_); refine box_event ?hg (N := 2) ?hd (cs := #[.int .i64 a0_0, .int .i64 a0_1, .bool true]) (t := 77) ?hr ?_; (case hd => rfl); (case hg => rfl); (case hr => first | (go_simp; done) | (go_simp; rfl)); intro gb783 hg w12 hbox hb; have n0_ := Aside0.mk (below_step (by repeat (first | (with_reducible first | exact HB.out | apply below_alloc | apply pw_below_drewN | apply below_drew1) | exact HB.out)) hb); have n1_ := Aside0.mk (hbox); have n2_ := Aside0.mk ((by rw [hg]; exact (below_size (by repeat (first | (with_reducible first | exact HB.out | apply below_alloc | apply pw_below_drewN | apply below_drew1) | exact HB.out))) : w.heap.size ≤ gb783)); have n3_ := Aside0.mk ((by rw [hg]; exact (below_size (by repeat (first | (with_reducible first | exact HB.out | apply below_alloc | apply pw_below_drewN | apply below_drew1) | exact HB.out))) : w.heap.size ≤ gb783)); clear HB; have HB := n0_; have BK783 := n1_; have GW783 := n2_; have GE783 := n3_; clear n0_ n1_ n2_ n3_; clear hb hbox hg) | ((with_reducible refine gate_dst (N := 3) rfl ?_); refine box_event ?hg (N := 3) ?hd (cs := #[.int .i64 a1_0, .int .i64 a1_1, .bool true]) (t := 77) ?hr ?_; (case hd => rfl); (case hg => rfl); (case hr => first | (go_simp; done) | (go_simp; rfl)); intro gb784 hg w13 hbox hb; have n0_ := Aside0.mk (blk_below (g := gb783) (o := .cells #[.int .i64 a0_0, .int .i64 a0_1, .bool true] 77 (0, 0)) (by (with_reducible repeat (first | refine blk_drewN ?_ _ | refine blk_drew ?_ | refine blk_alloc ?_ _)); exact BK783.out) hb); have n1_ := Aside0.mk (below_step (by repeat (first | (with_reducible first | exact HB.out | apply below_alloc | apply pw_below_drewN | apply below_drew1 | refine below_set ?_ GE783.out) | exact HB.out)) hb); have n2_ := Aside0.mk (hbox); have n3_ := Aside0.mk ((by rw [hg]; exact (below_size (by repeat (first | (with_reducible first | exact HB.out | apply below_alloc | apply pw_below_drewN | apply below_drew1 | refine below_set ?_ GE783.out) | exact HB.out))) : w.heap.size ≤ gb784)); have n4_ := Aside0.mk ((by rw [hg]; exact (below_size (by repeat (first | (with_reducible first | exact HB.out | apply below_alloc | apply pw_below_drewN | apply below_drew1 | refine below_set ?_ GE783.out) | exact HB.out))) : w.heap.size ≤ gb784)); have n5_ := Aside0.mk ((by rw [hg]; exact Nat.ne_of_lt (blk_lt (g := gb783) (o := .cells #[.int .i64 a0_0, .int .i64 a0_1, .bool true] 77 (0, 0)) (by (with_reducible repeat (first | refine blk_drewN ?_ _ | refine blk_drew ?_ | refine blk_alloc ?_ _)); exact BK783.out)) : gb783 ≠ gb784)); have n6_ := Aside0.mk ((by rw [hg]; exact Nat.ne_of_gt (blk_lt (g := gb783) (o := .cells #[.int .i64 a0_0, .int .i64 a0_1, .bool true] 77 (0, 0)) (by (with_reducible repeat (first | refine blk_drewN ?_ _ | refine blk_drew ?_ | refine blk_alloc ?_ _)); exact BK783.out)) : gb784 ≠ gb783)); clear BK783; clear HB; have BK783 := n0_; have HB := n1_; have BK784 := n2_; have GW784 := n3_; have GE784 := n4_; have NB783_784 := n5_; have NB784_783 := n6_; clear n0_ n1_ n2_ n3_ n4_ n5_ n6_; clear hb hbox hg; have hnb14 := NB783_784.out; have hnc14 := NB784_783.out; have hcz15_0 : w13.cell? ⟨gb783, 0, none⟩ = some (.int .i64 a0_0) := (blk_cell BK783.out 0).trans rfl; have hcz15_1 : w13.cell? ⟨gb783, 1, none⟩ = some (.int .i64 a0_1) := (blk_cell BK783.out 1).trans rfl; have hcz15_2 : w13.cell? ⟨gb783, 2, none⟩ = some (.bool true) := (blk_cell BK783.out 2).trans rfl; have hfz15_0 := blk_frozen BK783.out 0; have hfz15_1 := blk_frozen BK783.out 1; have hfz15_2 := blk_frozen BK783.out 2; have hcz16_0 : w13.cell? ⟨gb784, 0, none⟩ = some (.int .i64 a1_0) := (blk_cell BK784.out 0).trans rfl; have hcz16_1 : w13.cell? ⟨gb784, 1, none⟩ = some (.int .i64 a1_1) := (blk_cell BK784.out 1).trans rfl; have hcz16_2 : w13.cell? ⟨gb784, 2, none⟩ = some (.bool true) := (blk_cell BK784.out 2).trans rfl; have hfz16_0 := blk_frozen BK784.out 0; have hfz16_1 := blk_frozen BK784.out 1; have hfz16_2 := blk_frozen BK784.out 2))
          go_ret
          exact ⟨by first | rfl | (simp [errW_none, errW_some] <;> rfl) | (simp [*, errW_none, errW_some] <;> rfl), by repeat (first | (with_reducible first | exact HB.out | apply below_alloc | apply pw_below_drewN | apply below_drew1 | refine below_set ?_ GE783.out | refine below_set ?_ GE784.out) | exact HB.out)⟩
        · rw [if_neg c11] at H
          have c11b0 : (a0_0 == a1_0) = false := beq_eq_false_iff_ne.mpr c11
          have c11b1 : (a0_0 != a1_0) = true := bne_iff_ne.mpr c11
          obtain rfl := Option.some.inj H
          go_enter Try.func92, Try.ntmps92
          go_wp2_with (first | ((with_reducible refine gate_dst (N := 2) rfl ?_); refine box_event ?hg (N := 2) ?hd (cs := #[.int .i64 a0_0, .int .i64 a0_1, .bool true]) (t := 77) ?hr ?_; (case hd => rfl); (case hg => rfl); (case hr => first | (go_simp; done) | (go_simp; rfl)); intro gb783 hg w17 hbox hb; have n0_ := Aside0.mk (below_step (by repeat (first | (with_reducible first | exact HB.out | apply below_alloc | apply pw_below_drewN | apply below_drew1) | exact HB.out)) hb); have n1_ := Aside0.mk (hbox); have n2_ := Aside0.mk ((by rw [hg]; exact (below_size (by repeat (first | (with_reducible first | exact HB.out | apply below_alloc | apply pw_below_drewN | apply below_drew1) | exact HB.out))) : w.heap.size ≤ gb783)); have n3_ := Aside0.mk ((by rw [hg]; exact (below_size (by repeat (first | (with_reducible first | exact HB.out | apply below_alloc | apply pw_below_drewN | apply below_drew1) | exact HB.out))) : w.heap.size ≤ gb783)); clear HB; have HB := n0_; have BK783 := n1_; have GW783 := n2_; have GE783 := n3_; clear n0_ n1_ n2_ n3_; clear hb hbox hg) | ((with_reducible refine gate_dst (N := 3) rfl ?_); refine box_event ?hg (N := 3) ?hd (cs := #[.int .i64 a1_0, .int .i64 a1_1, .bool true]) (t := 77) ?hr ?_; (case hd => rfl); (case hg => rfl); (case hr => first | (go_simp; done) | (go_simp; rfl)); intro gb784 hg w18 hbox hb; have n0_ := Aside0.mk (blk_below (g := gb783) (o := .cells #[.int .i64 a0_0, .int .i64 a0_1, .bool true] 77 (0, 0)) (by (with_reducible repeat (first | refine blk_drewN ?_ _ | refine blk_drew ?_ | refine blk_alloc ?_ _)); exact BK783.out) hb); have n1_ := Aside0.mk (below_step (by repeat (first | (with_reducible first | exact HB.out | apply below_alloc | apply pw_below_drewN | apply below_drew1 | refine below_set ?_ GE783.out) | exact HB.out)) hb); have n2_ := Aside0.mk (hbox); have n3_ := Aside0.mk ((by rw [hg]; exact (below_size (by repeat (first | (with_reducible first | exact HB.out | apply below_alloc | apply pw_below_drewN | apply below_drew1 | refine below_set ?_ GE783.out) | exact HB.out))) : w.heap.size ≤ gb784)); have n4_ := Aside0.mk ((by rw [hg]; exact (below_size (by repeat (first | (with_reducible first | exact HB.out | apply below_alloc | apply pw_below_drewN | apply below_drew1 | refine below_set ?_ GE783.out) | exact HB.out))) : w.heap.size ≤ gb784)); have n5_ := Aside0.mk ((by rw [hg]; exact Nat.ne_of_lt (blk_lt (g := gb783) (o := .cells #[.int .i64 a0_0, .int .i64 a0_1, .bool true] 77 (0, 0)) (by (with_reducible repeat (first | refine blk_drewN ?_ _ | refine blk_drew ?_ | refine blk_alloc ?_ _)); exact BK783.out)) : gb783 ≠ gb784)); have n6_ := Aside0.mk ((by rw [hg]; exact Nat.ne_of_gt (blk_lt (g := gb783) (o := .cells #[.int .i64 a0_0, .int .i64 a0_1, .bool true] 77 (0, 0)) (by (with_reducible repeat (first | refine blk_drewN ?_ _ | refine blk_drew ?_ | refine blk_alloc ?_ _)); exact BK783.out)) : gb784 ≠ gb783)); clear BK783; clear HB; have BK783 := n0_; have HB := n1_; have BK784 := n2_; have GW784 := n3_; have GE784 := n4_; have NB783_784 := n5_; have NB784_783 := n6_; clear n0_ n1_ n2_ n3_ n4_ n5_ n6_; clear hb hbox hg; have hnb19 := NB783_784.out; have hnc19 := NB784_783.out; have hcz20_0 : w18.cell? ⟨gb783, 0, none⟩ = some (.int .i64 a0_0) := (blk_cell BK783.out 0).trans rfl; have hcz20_1 : w18.cell? ⟨gb783, 1, none⟩ = some (.int .i64 a0_1) := (blk_cell BK783.out 1).trans rfl; have hcz20_2 : w18.cell? ⟨gb783, 2, none⟩ = some (.bool true) := (blk_cell BK783.out 2).trans rfl; have hfz20_0 := blk_frozen BK783.out 0; have hfz20_1 := blk_frozen BK783.out 1; have hfz20_2 := blk_frozen BK783.out 2; have hcz21_0 : w18.cell? ⟨gb784, 0, none⟩ = some (.int .i64 a1_0) := (blk_cell BK784.out 0).trans rfl; have hcz21_1 : w18.cell? ⟨gb784, 1, none⟩ = some (.int .i64 a1_1) := (blk_cell BK784.out 1).trans rfl; have hcz21_2 : w18.cell? ⟨gb784, 2, none⟩ = some (.bool true) := (blk_cell BK784.out 2).trans rfl; have hfz21_0 := blk_frozen BK784.out 0; have hfz21_1 := blk_frozen BK784.out 1; have hfz21_2 := blk_frozen BK784.out 2))
          go_ret
          exact ⟨by first | rfl | (simp [errW_none, errW_some] <;> rfl) | (simp [*, errW_none, errW_some] <;> rfl), by repeat (first | (with_reducible first | exact HB.out | apply below_alloc | apply pw_below_drewN | apply below_drew1 | refine below_set ?_ GE783.out | refine below_set ?_ GE784.out) | exact HB.out)⟩
    · replace c4 := Bool.eq_false_iff.mpr c4
      subst c4
      have H1 : (some true) = some r := by rw [if_neg (show ¬ (false = true) by decide)] at H; exact H
      clear H
      have H := H1
      clear H1
      obtain rfl := Option.some.inj H
      go_enter Try.func92, Try.ntmps92
      go_wp2_with (first | ((with_reducible refine gate_dst (N := 2) rfl ?_); refine box_event ?hg (N := 2) ?hd (cs := #[.int .i64 a0_0, .int .i64 a0_1, .bool true]) (t := 77) ?hr ?_; (case hd => rfl); (case hg => rfl); (case hr => first | (go_simp; done) | (go_simp; rfl)); intro gb783 hg w22 hbox hb; have n0_ := Aside0.mk (below_step (by repeat (first | (with_reducible first | exact HB.out | apply below_alloc | apply pw_below_drewN | apply below_drew1) | exact HB.out)) hb); have n1_ := Aside0.mk (hbox); have n2_ := Aside0.mk ((by rw [hg]; exact (below_size (by repeat (first | (with_reducible first | exact HB.out | apply below_alloc | apply pw_below_drewN | apply below_drew1) | exact HB.out))) : w.heap.size ≤ gb783)); have n3_ := Aside0.mk ((by rw [hg]; exact (below_size (by repeat (first | (with_reducible first | exact HB.out | apply below_alloc | apply pw_below_drewN | apply below_drew1) | exact HB.out))) : w.heap.size ≤ gb783)); clear HB; have HB := n0_; have BK783 := n1_; have GW783 := n2_; have GE783 := n3_; clear n0_ n1_ n2_ n3_; clear hb hbox hg) | ((with_reducible refine gate_dst (N := 3) rfl ?_); refine box_event ?hg (N := 3) ?hd (cs := #[.int .i64 a1_0, .int .i64 a1_1, .bool false]) (t := 77) ?hr ?_; (case hd => rfl); (case hg => rfl); (case hr => first | (go_simp; done) | (go_simp; rfl)); intro gb784 hg w23 hbox hb; have n0_ := Aside0.mk (blk_below (g := gb783) (o := .cells #[.int .i64 a0_0, .int .i64 a0_1, .bool true] 77 (0, 0)) (by (with_reducible repeat (first | refine blk_drewN ?_ _ | refine blk_drew ?_ | refine blk_alloc ?_ _)); exact BK783.out) hb); have n1_ := Aside0.mk (below_step (by repeat (first | (with_reducible first | exact HB.out | apply below_alloc | apply pw_below_drewN | apply below_drew1 | refine below_set ?_ GE783.out) | exact HB.out)) hb); have n2_ := Aside0.mk (hbox); have n3_ := Aside0.mk ((by rw [hg]; exact (below_size (by repeat (first | (with_reducible first | exact HB.out | apply below_alloc | apply pw_below_drewN | apply below_drew1 | refine below_set ?_ GE783.out) | exact HB.out))) : w.heap.size ≤ gb784)); have n4_ := Aside0.mk ((by rw [hg]; exact (below_size (by repeat (first | (with_reducible first | exact HB.out | apply below_alloc | apply pw_below_drewN | apply below_drew1 | refine below_set ?_ GE783.out) | exact HB.out))) : w.heap.size ≤ gb784)); have n5_ := Aside0.mk ((by rw [hg]; exact Nat.ne_of_lt (blk_lt (g := gb783) (o := .cells #[.int .i64 a0_0, .int .i64 a0_1, .bool true] 77 (0, 0)) (by (with_reducible repeat (first | refine blk_drewN ?_ _ | refine blk_drew ?_ | refine blk_alloc ?_ _)); exact BK783.out)) : gb783 ≠ gb784)); have n6_ := Aside0.mk ((by rw [hg]; exact Nat.ne_of_gt (blk_lt (g := gb783) (o := .cells #[.int .i64 a0_0, .int .i64 a0_1, .bool true] 77 (0, 0)) (by (with_reducible repeat (first | refine blk_drewN ?_ _ | refine blk_drew ?_ | refine blk_alloc ?_ _)); exact BK783.out)) : gb784 ≠ gb783)); clear BK783; clear HB; have BK783 := n0_; have HB := n1_; have BK784 := n2_; have GW784 := n3_; have GE784 := n4_; have NB783_784 := n5_; have NB784_783 := n6_; clear n0_ n1_ n2_ n3_ n4_ n5_ n6_; clear hb hbox hg; have hnb24 := NB783_784.out; have hnc24 := NB784_783.out; have hcz25_0 : w23.cell? ⟨gb783, 0, none⟩ = some (.int .i64 a0_0) := (blk_cell BK783.out 0).trans rfl; have hcz25_1 : w23.cell? ⟨gb783, 1, none⟩ = some (.int .i64 a0_1) := (blk_cell BK783.out 1).trans rfl; have hcz25_2 : w23.cell? ⟨gb783, 2, none⟩ = some (.bool true) := (blk_cell BK783.out 2).trans rfl; have hfz25_0 := blk_frozen BK783.out 0; have hfz25_1 := blk_frozen BK783.out 1; have hfz25_2 := blk_frozen BK783.out 2; have hcz26_0 : w23.cell? ⟨gb784, 0, none⟩ = some (.int .i64 a1_0) := (blk_cell BK784.out 0).trans rfl; have hcz26_1 : w23.cell? ⟨gb784, 1, none⟩ = some (.int .i64 a1_1) := (blk_cell BK784.out 1).trans rfl; have hcz26_2 : w23.cell? ⟨gb784, 2, none⟩ = some (.bool false) := (blk_cell BK784.out 2).trans rfl; have hfz26_0 := blk_frozen BK784.out 0; have hfz26_1 := blk_frozen BK784.out 1; have hfz26_2 := blk_frozen BK784.out 2))
      go_ret
      exact ⟨by first | rfl | (simp [errW_none, errW_some] <;> rfl) | (simp [*, errW_none, errW_some] <;> rfl), by repeat (first | (with_reducible first | exact HB.out | apply below_alloc | apply pw_below_drewN | apply below_drew1 | refine below_set ?_ GE783.out | refine below_set ?_ GE784.out) | exact HB.out)⟩
  · replace c3 := Bool.eq_false_iff.mpr c3
    subst c3
    have H1 : (some false) = some r := by rw [if_neg (show ¬ (false = true) by decide)] at H; exact H
    clear H
    have H := H1
    clear H1
    obtain rfl := Option.some.inj H
    go_enter Try.func92, Try.ntmps92
    go_wp2_with (first | ((with_reducible refine gate_dst (N := 2) rfl ?_); refine box_event ?hg (N := 2) ?hd (cs := #[.int .i64 a0_0, .int .i64 a0_1, .bool false]) (t := 77) ?hr ?_; (case hd => rfl); (case hg => rfl); (case hr => first | (go_simp; done) | (go_simp; rfl)); intro gb783 hg w27 hbox hb; have n0_ := Aside0.mk (below_step (by repeat (first | (with_reducible first | exact HB.out | apply below_alloc | apply pw_below_drewN | apply below_drew1) | exact HB.out)) hb); have n1_ := Aside0.mk (hbox); have n2_ := Aside0.mk ((by rw [hg]; exact (below_size (by repeat (first | (with_reducible first | exact HB.out | apply below_alloc | apply pw_below_drewN | apply below_drew1) | exact HB.out))) : w.heap.size ≤ gb783)); have n3_ := Aside0.mk ((by rw [hg]; exact (below_size (by repeat (first | (with_reducible first | exact HB.out | apply below_alloc | apply pw_below_drewN | apply below_drew1) | exact HB.out))) : w.heap.size ≤ gb783)); clear HB; have HB := n0_; have BK783 := n1_; have GW783 := n2_; have GE783 := n3_; clear n0_ n1_ n2_ n3_; clear hb hbox hg) | ((with_reducible refine gate_dst (N := 3) rfl ?_); refine box_event ?hg (N := 3) ?hd (cs := #[.int .i64 a1_0, .int .i64 a1_1, .bool a1_2]) (t := 77) ?hr ?_; (case hd => rfl); (case hg => rfl); (case hr => first | (go_simp; done) | (go_simp; rfl)); intro gb784 hg w28 hbox hb; have n0_ := Aside0.mk (blk_below (g := gb783) (o := .cells #[.int .i64 a0_0, .int .i64 a0_1, .bool false] 77 (0, 0)) (by (with_reducible repeat (first | refine blk_drewN ?_ _ | refine blk_drew ?_ | refine blk_alloc ?_ _)); exact BK783.out) hb); have n1_ := Aside0.mk (below_step (by repeat (first | (with_reducible first | exact HB.out | apply below_alloc | apply pw_below_drewN | apply below_drew1 | refine below_set ?_ GE783.out) | exact HB.out)) hb); have n2_ := Aside0.mk (hbox); have n3_ := Aside0.mk ((by rw [hg]; exact (below_size (by repeat (first | (with_reducible first | exact HB.out | apply below_alloc | apply pw_below_drewN | apply below_drew1 | refine below_set ?_ GE783.out) | exact HB.out))) : w.heap.size ≤ gb784)); have n4_ := Aside0.mk ((by rw [hg]; exact (below_size (by repeat (first | (with_reducible first | exact HB.out | apply below_alloc | apply pw_below_drewN | apply below_drew1 | refine below_set ?_ GE783.out) | exact HB.out))) : w.heap.size ≤ gb784)); have n5_ := Aside0.mk ((by rw [hg]; exact Nat.ne_of_lt (blk_lt (g := gb783) (o := .cells #[.int .i64 a0_0, .int .i64 a0_1, .bool false] 77 (0, 0)) (by (with_reducible repeat (first | refine blk_drewN ?_ _ | refine blk_drew ?_ | refine blk_alloc ?_ _)); exact BK783.out)) : gb783 ≠ gb784)); have n6_ := Aside0.mk ((by rw [hg]; exact Nat.ne_of_gt (blk_lt (g := gb783) (o := .cells #[.int .i64 a0_0, .int .i64 a0_1, .bool false] 77 (0, 0)) (by (with_reducible repeat (first | refine blk_drewN ?_ _ | refine blk_drew ?_ | refine blk_alloc ?_ _)); exact BK783.out)) : gb784 ≠ gb783)); clear BK783; clear HB; have BK783 := n0_; have HB := n1_; have BK784 := n2_; have GW784 := n3_; have GE784 := n4_; have NB783_784 := n5_; have NB784_783 := n6_; clear n0_ n1_ n2_ n3_ n4_ n5_ n6_; clear hb hbox hg; have hnb29 := NB783_784.out; have hnc29 := NB784_783.out; have hcz30_0 : w28.cell? ⟨gb783, 0, none⟩ = some (.int .i64 a0_0) := (blk_cell BK783.out 0).trans rfl; have hcz30_1 : w28.cell? ⟨gb783, 1, none⟩ = some (.int .i64 a0_1) := (blk_cell BK783.out 1).trans rfl; have hcz30_2 : w28.cell? ⟨gb783, 2, none⟩ = some (.bool false) := (blk_cell BK783.out 2).trans rfl; have hfz30_0 := blk_frozen BK783.out 0; have hfz30_1 := blk_frozen BK783.out 1; have hfz30_2 := blk_frozen BK783.out 2))
    go_ret
    exact ⟨by first | rfl | (simp [errW_none, errW_some] <;> rfl) | (simp [*, errW_none, errW_some] <;> rfl), by repeat (first | (with_reducible first | exact HB.out | apply below_alloc | apply pw_below_drewN | apply below_drew1 | refine below_set ?_ GE783.out | refine below_set ?_ GE784.out) | exact HB.out)⟩
end Go.Proofs.Ytojpibpjieanhaa.X
end
section
/- A square table of structs in memory, and the closure that puts a better one into it. Conditions: as each lemma says. -/
namespace Go.Proofs.Ytojpibpjieanhaa.X
open Go.RowKit Go.Proofs.YtojpibpjieanhaaW.PrintWords Go.Proofs.YtojpibpjieanhaaW.PrintLast Go.Proofs.YtojpibpjieanhaaW.PrintMore
set_option linter.unusedVariables false
set_option linter.unusedSimpArgs false
/-- What paths between two vertices have. -/
structure Bt where
  r : Int
  d : Int
  f : Bool
def btr (x y : Bt) : Bool := if x.f = true then (if y.f = true then (if x.r < y.r then true else (if x.r = y.r then decide (x.d > y.d) else false)) else true) else false
theorem btr_eq (x y : Bt) : impl_between_isBetter.f x.r x.d x.f y.r y.d y.f = some (btr x y) := by
  unfold impl_between_isBetter.f btr
  cases x.f <;> cases y.f <;> by_cases h1 : x.r < y.r <;> by_cases h2 : x.r = y.r <;> simp [h1, h2]
def upd (M : Nat → Nat → Bt) (i j : Nat) (x : Bt) : Nat → Nat → Bt := fun a b => if a = i ∧ b = j then x else M a b
/-- The table lies in memory of the call's own: a box with the rows' slice, the rows, their cells. -/
structure MatW (B n : Nat) (w : World) (g3 GR : Nat) (Gs : Nat → Nat) (cR : Nat) (M : Nat → Nat → Bt) : Prop where
  b3 : w.heap[g3]? = some (.cells #[.slice (some ⟨GR, 0, none⟩) n cR] 79 (0, 0))
  row : ∃ cells, w.heap[GR]? = some (.cells cells 78 (0, 0)) ∧ (cells.size = cR ∧ n ≤ cR ∧ cR ≤ maxLen) ∧ ∀ i, i < n → cells[i]? = some (.slice (some ⟨Gs i, 0, none⟩) n n)
  blk : ∀ i, i < n → ∃ cells, w.heap[Gs i]? = some (.cells cells 77 (0, 0)) ∧ cells.size = n * 3 ∧ ∀ j, j < n → cells[j * 3]? = some (.int .i64 (M i j).r) ∧ cells[j * 3 + 1]? = some (.int .i64 (M i j).d) ∧ cells[j * 3 + 2]? = some (.bool (M i j).f)
  inj : ∀ i j, i < n → j < n → Gs i = Gs j → i = j
  h3 : B ≤ g3
  hR : B ≤ GR
  hs : ∀ i, i < n → B ≤ Gs i
variable {B n : Nat} {w : World} {g3 GR : Nat} {Gs : Nat → Nat} {cR : Nat} {M : Nat → Nat → Bt}
theorem MatW.keep (h : MatW B n w g3 GR Gs cR M) {w1 : World} (hk : ∀ k o, w.heap[k]? = some o → (k = g3 ∨ k = GR ∨ ∃ i, i < n ∧ k = Gs i) → w1.heap[k]? = some o) : MatW B n w1 g3 GR Gs cR M :=
  { h with
    b3 := hk _ _ h.b3 (.inl rfl)
    row := by obtain ⟨cells, h1, h2⟩ := h.row; exact ⟨cells, hk _ _ h1 (.inr (.inl rfl)), h2⟩
    blk := fun i hi => by obtain ⟨cells, h1, h2⟩ := h.blk i hi; exact ⟨cells, hk _ _ h1 (.inr (.inr ⟨i, hi, rfl⟩)), h2⟩ }
theorem MatW.move (h : MatW B n w g3 GR Gs cR M) {w1 : World} (hb : Below w.heap.size w w1) : MatW B n w1 g3 GR Gs cR M :=
  h.keep fun k o ho _ => (hb.block k (blk_lt ho)).trans ho
theorem MatW.drew (h : MatW B n w g3 GR Gs cR M) : MatW B n w.drew g3 GR Gs cR M := h.move (below_drew1 (Below.refl _ _))
theorem MatW.alloc (h : MatW B n w g3 GR Gs cR M) (o : Obj) : MatW B n (w.alloc o) g3 GR Gs cR M := h.move (below_alloc (Below.refl _ _) _)
/-- A write into a block of another type. -/
theorem MatW.far (h : MatW B n w g3 GR Gs cR M) {g : Nat} {cs : Array Value} {t : TypeId} (hg : w.heap[g]? = some (.cells cs t (0, 0))) (h1 : 79 ≠ t) (h2 : 78 ≠ t) (h3 : 77 ≠ t) (j : Nat) (u : Value) : MatW B n (w.setCell ⟨g, j, none⟩ u) g3 GR Gs cR M :=
  h.keep fun k o ho hk => by
    refine (Below.heap_setCell w ⟨g, j, none⟩ u k ?_).trans ho
    rcases hk with rfl | rfl | ⟨i, hi, rfl⟩
    · exact blk_ne h.b3 hg h1
    · obtain ⟨cells, q1, _⟩ := h.row; exact blk_ne q1 hg h2
    · obtain ⟨cells, q1, _⟩ := h.blk i hi; exact blk_ne q1 hg h3
theorem MatW.c3 (h : MatW B n w g3 GR Gs cR M) : w.cell? ⟨g3, 0, none⟩ = some (.slice (some ⟨GR, 0, none⟩) n cR) := (blk_cell h.b3 0).trans rfl
theorem MatW.cRow (h : MatW B n w g3 GR Gs cR M) (i : Nat) (hi : i < n) : w.cell? ⟨GR, i, none⟩ = some (.slice (some ⟨Gs i, 0, none⟩) n n) := by
  obtain ⟨cells, q1, _, q2⟩ := h.row; rw [blk_cell q1]; exact q2 i hi
theorem MatW.cM (h : MatW B n w g3 GR Gs cR M) (i j : Nat) (hi : i < n) (hj : j < n) : w.cell? ⟨Gs i, j * 3, none⟩ = some (.int .i64 (M i j).r) ∧ w.cell? ⟨Gs i, j * 3 + 1, none⟩ = some (.int .i64 (M i j).d) ∧ w.cell? ⟨Gs i, j * 3 + 2, none⟩ = some (.bool (M i j).f) := by
  obtain ⟨cells, q1, _, q2⟩ := h.blk i hi; rw [blk_cell q1, blk_cell q1, blk_cell q1]; exact q2 j hj
theorem MatW.zM (h : MatW B n w g3 GR Gs cR M) (i : Nat) (hi : i < n) (o : Nat) : w.frozen? ⟨Gs i, o, none⟩ = false := by
  obtain ⟨cells, q1, q2⟩ := h.blk i hi; exact blk_frozen q1 o
theorem set_get (cs : Array Value) (p q : Nat) (u : Value) : (cs.setIfInBounds p u)[q]? = if p = q then (if p < cs.size then some u else none) else cs[q]? := Array.getElem?_setIfInBounds
/-- A struct put into its place. -/
theorem MatW.put (h : MatW B n w g3 GR Gs cR M) (i j : Nat) (hi : i < n) (hj : j < n) (x : Bt) :
    MatW B n (((w.setCell ⟨Gs i, j * 3, none⟩ (.int .i64 x.r)).setCell ⟨Gs i, j * 3 + 1, none⟩ (.int .i64 x.d)).setCell ⟨Gs i, j * 3 + 2, none⟩ (.bool x.f)) g3 GR Gs cR (upd M i j x) := by
  obtain ⟨ci, q1, qz, q2⟩ := h.blk i hi
  have p1 := blk_put q1 (j * 3) (.int .i64 x.r) rfl
  have p2 := blk_put p1 (j * 3 + 1) (.int .i64 x.d) rfl
  have p3 := blk_put p2 (j * 3 + 2) (.bool x.f) rfl
  have far : ∀ (k : Nat) (o : Obj), w.heap[k]? = some o → k ≠ Gs i → (((w.setCell ⟨Gs i, j * 3, none⟩ (.int .i64 x.r)).setCell ⟨Gs i, j * 3 + 1, none⟩ (.int .i64 x.d)).setCell ⟨Gs i, j * 3 + 2, none⟩ (.bool x.f)).heap[k]? = some o := fun k o ho hk =>
    (Below.heap_setCell _ ⟨Gs i, j * 3 + 2, none⟩ _ k hk).trans ((Below.heap_setCell _ ⟨Gs i, j * 3 + 1, none⟩ _ k hk).trans ((Below.heap_setCell w ⟨Gs i, j * 3, none⟩ _ k hk).trans ho))
  exact { h with
    b3 := far _ _ h.b3 (blk_ne h.b3 q1 (by decide))
    row := by obtain ⟨cells, r1, r2⟩ := h.row; exact ⟨cells, far _ _ r1 (blk_ne r1 q1 (by decide)), r2⟩
    blk := fun a ha => by
      by_cases e : a = i
      · subst e
        refine ⟨_, p3, by simpa only [Array.size_setIfInBounds] using qz, fun b hb => ?_⟩
        obtain ⟨k1, k2, k3⟩ := q2 b hb
        obtain ⟨l1, l2, l3⟩ := q2 j hj
        have s1 := (Array.getElem?_eq_some_iff.1 l1).1
        have s2 := (Array.getElem?_eq_some_iff.1 l2).1
        have s3 := (Array.getElem?_eq_some_iff.1 l3).1
        simp only [set_get, Array.size_setIfInBounds]
        unfold upd
        by_cases eb : b = j
        · subst eb
          simp [s1, s2, s3]
        · rw [if_neg (show ¬ (a = a ∧ b = j) from fun hh => eb hh.2), if_neg (by omega), if_neg (by omega), if_neg (by omega), if_neg (by omega), if_neg (by omega), if_neg (by omega), if_neg (by omega), if_neg (by omega), if_neg (by omega)]
          exact ⟨k1, k2, k3⟩
      · obtain ⟨cells, r1, rz, r2⟩ := h.blk a ha
        refine ⟨cells, far _ _ r1 (fun hh => e (h.inj a i ha hi hh)), rz, fun b hb => ?_⟩
        unfold upd
        rw [if_neg (show ¬ (a = i ∧ b = j) from fun hh => e hh.1)]
        exact r2 b hb }
/-- append to a row of the call's own, as one step of a region that draws its order. -/
theorem step_append_own {P : Program} {ops : Array Oper} {o : Oper} {a : Act} {w : World} {K : Act → World → Prop} {Q : Exit → Act → World → Prop} {E : Prop} (hgd : o.guard = none) (s x : Operand) (t : TypeId)
    (ho : o.op = Op.call { callee := Callee.builtin Builtin.append, args := #[s, x], argTypes := #[t, t] }) (e : TypeId) (z : Value) (bytes : Nat)
    (ht : P.underlying t = some (.slice e)) (hinfo : (P.info? e).map (fun i => (i.zero, i.size, i.bytes)) = some (some z, 1, bytes)) (hz : z.cells.size = 1) (hb0 : 0 < bytes)
    (base : Nat) (v : Value) (n : Nat) (xs : List Value) (hs : a.eval s = v) (ad : Addr) (c : Nat) (y : Value) (hx : a.eval x = .slice (some ad) 1 c) (hc : w.cell? ad = some y) (h1 : y.oneCell' = true)
    (HO : w.ownsRow base e 1 v n xs) (hbase : base ≤ w.heap.size) (hl : (n + 1) * bytes ≤ 140737488355328)
    (hK : ∀ v' w', w'.ownsRow base e 1 v' (n + 1) (xs ++ [y]) → w.grownBy w' v.ownBlock → (v'.ownBlock = v.ownBlock ∨ ∃ b, v'.ownBlock = some b ∧ w.heap.size ≤ b) → K (a.put o.dst v') w') :
    if Region.wanted o (yielded ops a.tmps) = true then Oper.wp P o a w K Q else E := by
  have hw : Region.wanted o (yielded ops a.tmps) = true := by simp [Region.wanted, hgd]
  rw [if_pos hw]
  obtain ⟨i0, hi, hzz⟩ := Option.map_eq_some_iff.1 hinfo
  simp only [Prod.mk.injEq] at hzz
  obtain ⟨hz0, hz1, hz2⟩ := hzz
  have hlen : n + 1 ≤ 140737488355328 := Nat.le_trans (Nat.le_mul_of_pos_right _ hb0) hl
  obtain ⟨v1, w1, hr, h2, h3, _, h5⟩ := run_append_own_at (P := P) (w := w) base t o.type e i0 z 1 bytes ht hi hz0 hz1 hz2 hz (by omega) v n xs HO ad 1 c [y] rfl
    (fun j u hj => by
      cases j with
      | zero => rw [← Option.some.inj hj]; simpa [Addr.add] using hc
      | succ j => simp at hj)
    (by intro u hu; obtain rfl := List.mem_singleton.1 hu; exact h1) (by simp only [maxLen]; omega) hl hbase
  unfold Oper.wp
  simp [execOp, ho, resolve, invoke, builtin, hs, hx, hr, Result.andThen]
  refine hK v1 w1 h2 h3 ?_
  rcases h5 with h5 | h5
  · exact .inl h5
  · exact .inr ⟨_, h5, Nat.le_refl _⟩
end Go.Proofs.Ytojpibpjieanhaa.X
end
section
/- Ways through a net: those of the least key; rounds that put better ones find them. Plain; conditions: as each lemma says. -/
namespace Go.Proofs.Ytojpibpjieanhaa.FewMath
open Go.Proofs.Ytojpibpjieanhaa.X Go.Proofs.Ytojpibpjieanhaa.FlowMath
set_option linter.unusedVariables false
set_option linter.unusedSimpArgs false
set_option linter.unusedSectionVars false
/-- A way of m wires from a to v, with its key. -/
inductive T (E : Nat → Nat → Int → Prop) (d : Nat → Int) (a : Nat) : Nat → Nat → Int → Prop
  | one {v c} : E a v c → T E d a 1 v (1000000 * c - d a - d v)
  | snoc {m u v x c} : T E d a m u x → E u v c → T E d a (m + 1) v (x + 1000000 * c - d v)
structure Net (E : Nat → Nat → Int → Prop) (d : Nat → Int) (n : Nat) : Prop where
  n8 : n ≤ 8
  lt : ∀ u v c, E u v c → u < n ∧ v < n ∧ 0 ≤ c ∧ c ≤ 20
  del : ∀ v, 0 ≤ d v ∧ d v ≤ 100
  ac : ∀ v, ¬ Plus (fun u v => E u v 0) v v
variable {E : Nat → Nat → Int → Prop} {d : Nat → Int} {n : Nat} {a : Nat}
theorem T.eqv {m v : Nat} {x y : Int} (h : T E d a m v x) (e : x = y) : T E d a m v y := e ▸ h
theorem T.cons {m v : Nat} {x : Int} (h : T E d a m v x) {u : Nat} {c : Int} (hE : E u a c) : T E d u (m + 1) v (x + 1000000 * c - d u) := by
  induction h with
  | one h => exact ((T.one hE).snoc h).eqv (by omega)
  | snoc _ h ih => exact (ih.snoc h).eqv (by omega)
theorem T.rev {m v : Nat} {x : Int} (h : T E d a m v x) : T (fun u v c => E v u c) d v m a x := by
  induction h with
  | @one v c h => exact (T.one (E := fun u v c => E v u c) (d := d) (a := v) (v := a) (c := c) h).eqv (by omega)
  | @snoc m u v x c _ h ih => exact ih.cons h
theorem T.pos {m v : Nat} {x : Int} (h : T E d a m v x) : 1 ≤ m := by cases h <;> omega
theorem T.lt (hN : Net E d n) {m v : Nat} {x : Int} (h : T E d a m v x) : v < n := by
  cases h with
  | one h => exact (hN.lt _ _ _ h).2.1
  | snoc _ h => exact (hN.lt _ _ _ h).2.1
theorem chain {m v : Nat} {x : Int} (h : T E d a m v x) : ∃ (p : Nat → Nat) (q : Nat → Int), p m = v ∧ q m = x ∧ (∀ i, 1 ≤ i → i ≤ m → T E d a i (p i) (q i)) ∧ ∀ i, 1 ≤ i → i < m → ∃ c, E (p i) (p (i + 1)) c ∧ q (i + 1) = q i + 1000000 * c - d (p (i + 1)) := by
  induction h with
  | @one v c h =>
    refine ⟨fun _ => v, fun _ => _, rfl, rfl, fun i h1 h2 => ?_, fun i h1 h2 => by omega⟩
    have : i = 1 := by omega
    subst this
    exact .one h
  | @snoc m u v x c h hE ih =>
    obtain ⟨p, q, e1, e2, h3, h4⟩ := ih
    refine ⟨fun i => if i = m + 1 then v else p i, fun i => if i = m + 1 then x + 1000000 * c - d v else q i, by simp, by simp, fun i h1 h2 => ?_, fun i h1 h2 => ?_⟩
    · by_cases e : i = m + 1
      · subst e; simp only [if_true]; exact h.snoc hE
      · simp only [if_neg e]; exact h3 i h1 (by omega)
    · by_cases e : i = m
      · subst e
        refine ⟨c, ?_, ?_⟩
        · simp only [if_neg (show ¬ i = i + 1 by omega), if_true]; rw [e1]; exact hE
        · simp only [if_neg (show ¬ i = i + 1 by omega), if_true]; rw [e2]
      · obtain ⟨c', g1, g2⟩ := h4 i h1 (by omega)
        refine ⟨c', ?_, ?_⟩
        · simp only [if_neg (show ¬ i = m + 1 by omega), if_neg (show ¬ i + 1 = m + 1 by omega)]; exact g1
        · simp only [if_neg (show ¬ i = m + 1 by omega), if_neg (show ¬ i + 1 = m + 1 by omega)]; exact g2
theorem seg (hN : Net E d n) {p : Nat → Nat} {q : Nat → Int} {m : Nat} (h4 : ∀ i, 1 ≤ i → i < m → ∃ c, E (p i) (p (i + 1)) c ∧ q (i + 1) = q i + 1000000 * c - d (p (i + 1))) (i : Nat) (hi : 1 ≤ i) : ∀ e : Nat, i + e ≤ m →
    q i ≤ q (i + e) + 100 * e ∧ ((e = 0 ∨ Plus (fun u v => E u v 0) (p i) (p (i + e))) ∨ q i + 1000000 ≤ q (i + e) + 100 * e)
  | 0, _ => ⟨by simp, .inl (.inl rfl)⟩
  | e + 1, he => by
    obtain ⟨h1, h2⟩ := seg hN h4 i hi e (by omega)
    obtain ⟨c, g1, g2⟩ := h4 (i + e) (by omega) (by omega)
    rw [Nat.add_assoc] at g1 g2
    have hd := hN.del (p (i + (e + 1)))
    have hc := hN.lt _ _ _ g1
    by_cases c0 : c = 0
    · subst c0
      refine ⟨by omega, ?_⟩
      rcases h2 with (h2 | h2) | h2
      · subst h2; exact .inl (.inr (.one g1))
      · exact .inl (.inr (h2.snoc g1))
      · exact .inr (by omega)
    · exact ⟨by omega, .inr (by omega)⟩
/-- No way is better than a short one. -/
theorem short (hN : Net E d n) : ∀ (m v : Nat) (x : Int), T E d a m v x → ∃ m' x', m' ≤ n ∧ x' ≤ x ∧ T E d a m' v x' := by
  intro m
  induction m using Nat.strongRecOn with
  | _ m ih =>
    intro v x h
    by_cases hm : m ≤ n
    · exact ⟨m, x, hm, Int.le_refl _, h⟩
    · obtain ⟨p, q, e1, e2, h3, h4⟩ := chain h
      obtain ⟨i, j, hij, hj, he⟩ := pigeon n (fun i => p (i + 1)) (fun i hi => (h3 (i + 1) (by omega) (by omega)).lt hN)
      have he : p (i + 1) = p (j + 1) := he
      obtain ⟨s1, s2⟩ := seg hN h4 (i + 1) (by omega) (j - i) (by omega)
      rw [show i + 1 + (j - i) = j + 1 by omega] at s1 s2
      have hn := hN.n8
      have hlt : q (i + 1) < q (j + 1) := by
        rcases s2 with (s2 | s2) | s2
        · omega
        · rw [← he] at s2; exact absurd s2 (hN.ac _)
        · omega
      have hk : ∀ k, j + 1 + k ≤ m → T E d a (i + 1 + k) (p (j + 1 + k)) (q (j + 1 + k) - (q (j + 1) - q (i + 1))) := by
        intro k
        induction k with
        | zero => intro _; have := h3 (i + 1) (by omega) (by omega); rw [he] at this; exact this.eqv (by simp only [Nat.add_zero]; omega)
        | succ k ihk =>
          intro hk
          obtain ⟨c, g1, g2⟩ := h4 (j + 1 + k) (by omega) (by omega)
          exact ((ihk (by omega)).snoc g1).eqv (by rw [show j + 1 + (k + 1) = j + 1 + k + 1 by omega, g2]; omega)
      have := hk (m - (j + 1)) (by omega)
      rw [show j + 1 + (m - (j + 1)) = m by omega, e1, e2] at this
      obtain ⟨m', x', r1, r2, r3⟩ := ih _ (by omega) v _ this
      exact ⟨m', x', r1, by omega, r3⟩
/-! ### Labels -/
def key (x : Bt) : Int := 1000000 * x.r - x.d
def Bd (t : Nat) (x : Bt) : Prop := x.f = true → 0 ≤ x.r ∧ x.r ≤ 20 * t ∧ 0 ≤ x.d ∧ x.d ≤ 100 * t
theorem Bd.up {t t' : Nat} {x : Bt} (h : Bd t x) (ht : t ≤ t') : Bd t' x := fun hf => by have := h hf; omega
def Le (x y : Bt) : Prop := y.f = true → x.f = true ∧ key x ≤ key y
def hit (x : Bt) (c : Int) : Prop := x.f = true ∧ key x ≤ c
theorem Le.refl (x : Bt) : Le x x := fun h => ⟨h, Int.le_refl _⟩
theorem Le.trans {x y z : Bt} (h : Le x y) (k : Le y z) : Le x z := fun hz => by
  obtain ⟨h1, h2⟩ := k hz
  obtain ⟨h3, h4⟩ := h h1
  exact ⟨h3, by omega⟩
theorem hit.le {x y : Bt} {c : Int} (h : hit y c) (k : Le x y) : hit x c := by
  obtain ⟨h1, h2⟩ := k h.1
  exact ⟨h1, by have := h.2; omega⟩
theorem btr_iff {t : Nat} (ht : t ≤ 9000) {x y : Bt} (hx : Bd t x) (hy : Bd t y) (hf : x.f = true) : btr x y = true ↔ (y.f = true → key x < key y) := by
  unfold btr key
  rw [if_pos hf]
  have bx := hx hf
  cases hg : y.f with
  | false => simp
  | true =>
    have bye := hy hg
    simp only [if_true]
    by_cases h1 : x.r < y.r
    · rw [if_pos h1]; simp; omega
    · rw [if_neg h1]
      by_cases h2 : x.r = y.r
      · rw [if_pos h2]; simp; omega
      · rw [if_neg h2]; simp; omega
theorem btr_none {x y : Bt} (hf : x.f = false) : btr x y = false := by unfold btr; rw [if_neg (by rw [hf]; decide)]
def pick (x y : Bt) : Bt := if btr x y = true then x else y
theorem pick_old {t : Nat} (ht : t ≤ 9000) {x y : Bt} (hx : Bd t x) (hy : Bd t y) : Le (pick x y) y := by
  unfold pick
  cases hf : x.f with
  | false => rw [btr_none hf]; exact Le.refl _
  | true =>
    by_cases hb : btr x y = true
    · rw [if_pos hb]; intro hg; exact ⟨hf, by have := (btr_iff ht hx hy hf).1 hb hg; omega⟩
    · rw [if_neg hb]; exact Le.refl _
theorem pick_new {t : Nat} (ht : t ≤ 9000) {x y : Bt} (hx : Bd t x) (hy : Bd t y) : Le (pick x y) x := by
  intro hf
  unfold pick
  by_cases hb : btr x y = true
  · rw [if_pos hb]; exact ⟨hf, Int.le_refl _⟩
  · rw [if_neg hb]
    rw [btr_iff ht hx hy hf] at hb
    by_cases hg : y.f = true
    · exact ⟨hg, by have : ¬ key x < key y := fun h => hb fun _ => h
                    omega⟩
    · exact absurd (fun h => absurd h hg) hb
section
variable {N : Type} [DecidableEq N]
def rlx (L : N → Bt) (v : N) (x : Bt) : N → Bt := fun u => if u = v then pick x (L v) else L u
theorem rlx_bd {t : Nat} {L : N → Bt} (h : ∀ u, Bd t (L u)) {v : N} {x : Bt} (hx : Bd t x) : ∀ u, Bd t (rlx L v x u) := by
  intro u
  unfold rlx
  split
  · unfold pick; split
    · exact hx
    · exact h v
  · exact h u
theorem rlx_old {t : Nat} (ht : t ≤ 9000) {L : N → Bt} (h : ∀ u, Bd t (L u)) {v : N} {x : Bt} (hx : Bd t x) (u : N) : Le (rlx L v x u) (L u) := by
  unfold rlx
  split
  · subst_vars; exact pick_old ht hx (h _)
  · exact Le.refl _
theorem rlx_new {t : Nat} (ht : t ≤ 9000) {L : N → Bt} (h : ∀ u, Bd t (L u)) {v : N} {x : Bt} (hx : Bd t x) : Le (rlx L v x v) x := by
  unfold rlx
  rw [if_pos rfl]
  exact pick_new ht hx (h _)
theorem rlx_same {L : N → Bt} {v : N} {x : Bt} (hb : btr x (L v) = false) : rlx L v x = L := by
  funext u
  unfold rlx pick
  by_cases e : u = v
  · rw [if_pos e, hb, e]; rfl
  · rw [if_neg e]
inductive Ev (N : Type)
  | base (v : N) (c e : Int)
  | link (u v : N) (c e : Int)
def ext (x : Bt) (c e : Int) : Bt := ⟨x.r + c, x.d + e, x.f⟩
def Ev.at : Ev N → N
  | .base v _ _ => v
  | .link _ v _ _ => v
def Ev.cand (L : N → Bt) : Ev N → Bt
  | .base _ c e => ⟨c, e, true⟩
  | .link u _ c e => ext (L u) c e
def Ev.ok : Ev N → Prop
  | .base _ c e => 0 ≤ c ∧ c ≤ 20 ∧ 0 ≤ e ∧ e ≤ 200
  | .link _ _ c e => 0 ≤ c ∧ c ≤ 20 ∧ 0 ≤ e ∧ e ≤ 100
def step1 (s : (N → Bt) × Bool) (e : Ev N) : (N → Bt) × Bool := (rlx s.1 e.at (e.cand s.1), s.2 || btr (e.cand s.1) (s.1 e.at))
def run (evs : List (Ev N)) (s : (N → Bt) × Bool) : (N → Bt) × Bool := evs.foldl step1 s
theorem cand_bd {t : Nat} (h1 : 1 ≤ t) {L : N → Bt} (h : ∀ u, Bd t (L u)) {e : Ev N} (he : e.ok) : Bd (t + 1) (e.cand L) := by
  cases e with
  | base v c e => intro _; unfold Ev.ok at he; unfold Ev.cand; simp only at he ⊢; omega
  | link u v c e => intro hf; have := h u hf; unfold Ev.ok at he; unfold Ev.cand ext; simp only at he ⊢; omega
theorem run_bd : ∀ (evs : List (Ev N)) (t : Nat) (s : (N → Bt) × Bool), 1 ≤ t → (∀ e, e ∈ evs → e.ok) → (∀ u, Bd t (s.1 u)) → ∀ u, Bd (t + evs.length) ((run evs s).1 u)
  | [], _, _, _, _, h => h
  | e :: evs, t, s, h1, he, h => fun u => by
    have hb := rlx_bd (L := s.1) (v := e.at) (fun u => (h u).up (Nat.le_succ t)) (cand_bd h1 h (he e (List.mem_cons_self ..)))
    have := run_bd evs (t + 1) (step1 s e) (by omega) (fun x hx => he x (List.mem_cons_of_mem _ hx)) hb u
    rw [List.length_cons, show t + (evs.length + 1) = t + 1 + evs.length by omega]
    exact this
theorem run_old : ∀ (evs : List (Ev N)) (t : Nat) (s : (N → Bt) × Bool), 1 ≤ t → t + evs.length ≤ 9000 → (∀ e, e ∈ evs → e.ok) → (∀ u, Bd t (s.1 u)) → ∀ u, Le ((run evs s).1 u) (s.1 u)
  | [], _, _, _, _, _, _, _ => Le.refl _
  | e :: evs, t, s, h1, ht, he, h, u => by
    rw [List.length_cons] at ht
    have hc := cand_bd h1 h (he e (List.mem_cons_self ..))
    have hb := rlx_bd (L := s.1) (v := e.at) (fun u => (h u).up (Nat.le_succ t)) hc
    have := run_old evs (t + 1) (step1 s e) (by omega) (by omega) (fun x hx => he x (List.mem_cons_of_mem _ hx)) hb u
    exact this.trans (rlx_old (t := t + 1) (by omega) (fun u => (h u).up (Nat.le_succ t)) hc u)
/-- An event of the round: its candidate, as it stood ahead of the round, is met behind it. -/
theorem run_new : ∀ (evs : List (Ev N)) (t : Nat) (s : (N → Bt) × Bool), 1 ≤ t → t + evs.length ≤ 9000 → (∀ e, e ∈ evs → e.ok) → (∀ u, Bd t (s.1 u)) → ∀ e, e ∈ evs → ∀ x, hit (e.cand s.1) x → hit ((run evs s).1 e.at) x
  | [], _, _, _, _, _, _, _, h, _, _ => by cases h
  | e :: evs, t, s, h1, ht, he, h, e0, h0, x, hx => by
    rw [List.length_cons] at ht
    have hc := cand_bd h1 h (he e (List.mem_cons_self ..))
    have hup : ∀ u, Bd (t + 1) (s.1 u) := fun u => (h u).up (Nat.le_succ t)
    have hb := rlx_bd (L := s.1) (v := e.at) hup hc
    have hr : ∀ x, x ∈ evs → x.ok := fun x hx => he x (List.mem_cons_of_mem _ hx)
    rcases List.mem_cons.1 h0 with rfl | h0
    · have k1 : hit ((step1 s e0).1 e0.at) x := hx.le (rlx_new (t := t + 1) (by omega) hup hc)
      exact k1.le (run_old evs (t + 1) (step1 s e0) (by omega) (by omega) hr hb e0.at)
    · refine run_new evs (t + 1) (step1 s e) (by omega) (by omega) hr hb e0 h0 x ?_
      cases e0 with
      | base v c e => exact hx
      | link u v c b =>
        have hl : Le ((step1 s e).1 u) (s.1 u) := rlx_old (t := t + 1) (by omega) hup hc u
        obtain ⟨g1, g2⟩ := hx
        obtain ⟨g3, g4⟩ := hl g1
        refine ⟨g3, ?_⟩
        unfold Ev.cand ext key at g2 ⊢
        unfold key at g4
        simp only at g2 ⊢
        omega
theorem run_flag : ∀ (evs : List (Ev N)) (s : (N → Bt) × Bool), (run evs s).2 = false → s.2 = false ∧ run evs s = s ∧ ∀ e, e ∈ evs → btr (e.cand s.1) (s.1 e.at) = false
  | [], s, h => ⟨h, rfl, fun e he => by cases he⟩
  | e :: evs, s, h => by
    obtain ⟨h1, h2, h3⟩ := run_flag evs (step1 s e) h
    have h1' : (s.2 || btr (e.cand s.1) (s.1 e.at)) = false := h1
    rw [Bool.or_eq_false_iff] at h1'
    have es : step1 s e = s := by
      unfold step1
      rw [rlx_same h1'.2, h1'.1, h1'.2]
      exact Prod.ext rfl h1'.1.symm
    refine ⟨h1'.1, h2.trans es, fun x hx => ?_⟩
    rcases List.mem_cons.1 hx with rfl | hx
    · exact h1'.2
    · have := h3 x hx; rw [es] at this; exact this
theorem run_still : ∀ (evs : List (Ev N)) (s : (N → Bt) × Bool), (∀ e, e ∈ evs → btr (e.cand s.1) (s.1 e.at) = false) → run evs s = s
  | [], s, _ => rfl
  | e :: evs, s, h => by
    have h0 := h e (List.mem_cons_self ..)
    have es : step1 s e = s := by
      unfold step1
      rw [rlx_same h0, h0, Bool.or_false]
    show run evs (step1 s e) = s
    rw [es]
    exact run_still evs s fun x hx => h x (List.mem_cons_of_mem _ hx)
/-- The ways of a net, and the events that make them. -/
structure Ways (W : Nat → N → Int → Prop) (evs : List (Ev N)) (n : Nat) : Prop where
  n8 : n ≤ 8
  few : evs.length ≤ 200
  ok : ∀ e, e ∈ evs → e.ok
  base : ∀ v c e, Ev.base v c e ∈ evs → W 1 v (1000000 * c - e)
  link : ∀ u v c e m x, Ev.link u v c e ∈ evs → W m u x → W (m + 1) v (x + 1000000 * c - e)
  back : ∀ m v x, W (m + 2) v x → ∃ u x' c e, W (m + 1) u x' ∧ Ev.link u v c e ∈ evs ∧ x = x' + 1000000 * c - e
  pos : ∀ m v x, W m v x → 1 ≤ m
  short : ∀ m v x, W m v x → ∃ m' x', m' ≤ n ∧ x' ≤ x ∧ W m' v x'
variable {W : Nat → N → Int → Prop} {evs : List (Ev N)}
def Sound (W : Nat → N → Int → Prop) (L : N → Bt) : Prop := ∀ v, (L v).f = true → ∃ m, W m v (key (L v))
def Prog (W : Nat → N → Int → Prop) (k : Nat) (L : N → Bt) : Prop := ∀ m v x, m ≤ k → W m v x → hit (L v) x
def Full (W : Nat → N → Int → Prop) (L : N → Bt) : Prop := ∀ m v x, W m v x → hit (L v) x
theorem cand_sound (hW : Ways W evs n) {L : N → Bt} (h : Sound W L) {e : Ev N} (he : e ∈ evs) (hf : (e.cand L).f = true) : ∃ m, W m e.at (key (e.cand L)) := by
  cases e with
  | base v c e => exact ⟨1, hW.base v c e he⟩
  | link u v c e =>
    obtain ⟨m, hm⟩ := h u hf
    refine ⟨m + 1, ?_⟩
    have := hW.link u v c e m _ he hm
    have ek : key (Ev.cand L (.link u v c e)) = key (L u) + 1000000 * c - e := by unfold Ev.cand ext key; simp only; omega
    rw [ek]; exact this
theorem run_sound (hW : Ways W evs n) : ∀ (l : List (Ev N)) (s : (N → Bt) × Bool), (∀ e, e ∈ l → e ∈ evs) → Sound W s.1 → Sound W (run l s).1
  | [], _, _, h => h
  | e :: l, s, hl, h => by
    refine run_sound hW l (step1 s e) (fun x hx => hl x (List.mem_cons_of_mem _ hx)) fun v hv => ?_
    have hv : (rlx s.1 e.at (e.cand s.1) v).f = true := hv
    show ∃ m, W m v (key (rlx s.1 e.at (e.cand s.1) v))
    unfold rlx pick at hv ⊢
    by_cases ev : v = e.at
    · rw [if_pos ev] at hv ⊢
      by_cases hb : btr (e.cand s.1) (s.1 e.at) = true
      · rw [if_pos hb] at hv ⊢
        rw [ev]; exact cand_sound hW h (hl e (List.mem_cons_self ..)) hv
      · rw [if_neg hb] at hv ⊢; rw [ev]; exact h _ hv
    · rw [if_neg ev] at hv ⊢; exact h _ hv
theorem prog_next (hW : Ways W evs n) {t : Nat} (h1 : 1 ≤ t) (ht : t + evs.length ≤ 9000) {s : (N → Bt) × Bool} (hb : ∀ u, Bd t (s.1 u)) {k : Nat} (hp : Prog W k s.1) (h0 : ∀ v x, W 1 v x → hit ((run evs s).1 v) x) : Prog W (k + 1) (run evs s).1 := by
  intro m v x hm hw
  match m, hm, hw with
  | 0, _, hw => exact absurd (hW.pos _ _ _ hw) (by omega)
  | 1, _, hw => exact h0 v x hw
  | m + 2, hm, hw =>
    obtain ⟨u, x', c, e, g1, g2, rfl⟩ := hW.back m v x hw
    have hh := hp _ _ _ (by omega) g1
    refine run_new evs t s h1 ht hW.ok hb _ g2 _ ⟨hh.1, ?_⟩
    have := hh.2
    unfold Ev.cand ext key
    unfold key at this
    simp only
    omega
theorem prog_full (hW : Ways W evs n) {L : N → Bt} (hp : Prog W n L) : Full W L := by
  intro m v x hw
  obtain ⟨m', x', g1, g2, g3⟩ := hW.short m v x hw
  have := hp _ _ _ g1 g3
  exact ⟨this.1, by have := this.2; omega⟩
theorem full_still (hW : Ways W evs n) {t : Nat} (h1 : 1 ≤ t) (ht : t + 1 ≤ 9000) {s : (N → Bt) × Bool} (hb : ∀ u, Bd t (s.1 u)) (hs : Sound W s.1) (hf : Full W s.1) : run evs s = s := by
  refine run_still evs s fun e he => ?_
  cases hc : (e.cand s.1).f with
  | false => exact btr_none hc
  | true =>
    obtain ⟨m, hm⟩ := cand_sound hW hs he hc
    have hh := hf _ _ _ hm
    cases hbb : btr (e.cand s.1) (s.1 e.at) with
    | false => rfl
    | true =>
      have := (btr_iff (t := t + 1) ht (cand_bd h1 hb (hW.ok e he)) ((hb _).up (Nat.le_succ t)) hc).1 hbb hh.1
      have := hh.2
      omega
theorem fixed_full (hW : Ways W evs n) {t : Nat} (h1 : 1 ≤ t) (ht : t + 1 ≤ 9000) {s : (N → Bt) × Bool} (hb : ∀ u, Bd t (s.1 u)) (h0 : ∀ v x, W 1 v x → hit (s.1 v) x) (hf : (run evs s).2 = false) : Full W s.1 := by
  obtain ⟨_, _, h3⟩ := run_flag evs s hf
  intro m
  induction m with
  | zero => intro v x hw; exact absurd (hW.pos _ _ _ hw) (by omega)
  | succ m ih =>
    intro v x hw
    cases m with
    | zero => exact h0 v x hw
    | succ m =>
      obtain ⟨u, x', c, e, g1, g2, rfl⟩ := hW.back m v x hw
      have hh := ih u x' g1
      have hn := h3 _ g2
      have hc : (Ev.cand s.1 (.link u v c e)).f = true := hh.1
      have hi := btr_iff (t := t + 1) ht (cand_bd h1 hb (hW.ok _ g2)) ((hb v).up (Nat.le_succ t)) hc
      have hnn : ¬ (btr (Ev.cand s.1 (.link u v c e)) (s.1 v) = true) := Bool.eq_false_iff.1 hn
      rw [hi] at hnn
      by_cases hg : (s.1 v).f = true
      · refine ⟨hg, ?_⟩
        have h5 : ¬ key (Ev.cand s.1 (.link u v c e)) < key (s.1 v) := fun h => hnn fun _ => h
        have h6 := hh.2
        unfold Ev.cand ext at h5
        unfold key at h5 h6 ⊢
        simp only at h5
        omega
      · exact absurd (fun h => absurd h hg) hnn
/-- What is not found stays as it was made. -/
def Nil (L : N → Bt) : Prop := ∀ v, (L v).f = false → L v = ⟨0, 0, false⟩
theorem run_nil : ∀ (l : List (Ev N)) (s : (N → Bt) × Bool), Nil s.1 → Nil (run l s).1
  | [], _, h => h
  | e :: l, s, h => by
    refine run_nil l (step1 s e) fun v hv => ?_
    have hv : (rlx s.1 e.at (e.cand s.1) v).f = false := hv
    show rlx s.1 e.at (e.cand s.1) v = _
    unfold rlx pick at hv ⊢
    by_cases ev : v = e.at
    · rw [if_pos ev] at hv ⊢
      by_cases hb : btr (e.cand s.1) (s.1 e.at) = true
      · rw [if_pos hb] at hv ⊢
        rw [btr_none hv] at hb; exact absurd hb (by decide)
      · rw [if_neg hb] at hv ⊢; exact h _ hv
    · rw [if_neg ev] at hv ⊢; exact h _ hv
end
end Go.Proofs.Ytojpibpjieanhaa.FewMath
end
section
/- The closure that puts a better struct into the table. Conditions: as the lemma says. -/
namespace Go.Proofs.Ytojpibpjieanhaa.X
open Go.RowKit Go.Proofs.YtojpibpjieanhaaW.PrintWords Go.Proofs.YtojpibpjieanhaaW.PrintLast Go.Proofs.YtojpibpjieanhaaW.PrintMore
set_option linter.unusedVariables false
set_option linter.unusedSimpArgs false
def putM (M : Nat → Nat → Bt) (i j : Nat) (x : Bt) : Nat → Nat → Bt := if btr x (M i j) = true then upd M i j x else M
variable {B n : Nat} {w : World} {g3 GR g4 : Nat} {Gs : Nat → Nat} {cR : Nat} {M : Nat → Nat → Bt}
/-- What the closure's call leaves. -/
def PutW (B n : Nat) (w : World) (g3 GR g4 : Nat) (Gs : Nat → Nat) (cR : Nat) (M : Nat → Nat → Bt) (ch : Bool) (w' : World) : Prop :=
  MatW B n w' g3 GR Gs cR M ∧ w'.heap[g4]? = some (.cells #[.bool ch] 4 (0, 0)) ∧ Below B w w' ∧ Kept w w' (fun k => k = g4 ∨ ∃ i, i < n ∧ k = Gs i)
theorem PutW.move {ch : Bool} {w1 w2 : World} (h : PutW B n w g3 GR g4 Gs cR M ch w1) (hB : B ≤ w1.heap.size) (hb : Below w1.heap.size w1 w2) : PutW B n w g3 GR g4 Gs cR M ch w2 :=
  ⟨h.1.move hb, blk_below h.2.1 hb, h.2.2.1.trans (hb.mono hB), h.2.2.2.below hb⟩
theorem PutW.put {ch : Bool} {w1 : World} (h : PutW B n w g3 GR g4 Gs cR M ch w1) (i j : Nat) (hi : i < n) (hj : j < n) (x : Bt) :
    PutW B n w g3 GR g4 Gs cR (upd M i j x) ch (((w1.setCell ⟨Gs i, j * 3, none⟩ (.int .i64 x.r)).setCell ⟨Gs i, j * 3 + 1, none⟩ (.int .i64 x.d)).setCell ⟨Gs i, j * 3 + 2, none⟩ (.bool x.f)) := by
  obtain ⟨ci, q1, _⟩ := h.1.blk i hi
  have ne : g4 ≠ Gs i := blk_ne h.2.1 q1 (by decide)
  exact ⟨h.1.put i j hi hj x, blk_far (blk_far (blk_far h.2.1 (p := ⟨Gs i, j * 3, none⟩) ne _) (p := ⟨Gs i, j * 3 + 1, none⟩) ne _) (p := ⟨Gs i, j * 3 + 2, none⟩) ne _,
    ((h.2.2.1.setCell (h.1.hs i hi) _).setCell (h.1.hs i hi) _).setCell (h.1.hs i hi) _,
    Kept.setCell (p := ⟨Gs i, j * 3 + 2, none⟩) (Kept.setCell (p := ⟨Gs i, j * 3 + 1, none⟩) (Kept.setCell (p := ⟨Gs i, j * 3, none⟩) h.2.2.2 (.inl (.inr ⟨i, hi, rfl⟩)) _) (.inl (.inr ⟨i, hi, rfl⟩)) _) (.inl (.inr ⟨i, hi, rfl⟩)) _⟩
theorem PutW.flag {ch : Bool} {w1 : World} (h : PutW B n w g3 GR g4 Gs cR M ch w1) (hB4 : B ≤ g4) (c : Bool) : PutW B n w g3 GR g4 Gs cR M c (w1.setCell ⟨g4, 0, none⟩ (.bool c)) :=
  ⟨h.1.far h.2.1 (by decide) (by decide) (by decide) 0 _, blk_put h.2.1 0 _ rfl, h.2.2.1.setCell hB4 _, Kept.setCell (p := ⟨g4, 0, none⟩) h.2.2.2 (.inl (.inl rfl)) _⟩
set_option maxHeartbeats 4000000 in
set_option maxRecDepth 100000 in
theorem PutClo (a b : Nat) (x : Bt) (ch : Bool) (ha : a < n) (hb : b < n) (hn : n ≤ 1000000) (h : MatW B n w g3 GR Gs cR M) (h4 : w.heap[g4]? = some (.cells #[.bool ch] 4 (0, 0))) (hB4 : B ≤ g4) :
    Calls Try.prog 91 #[.int .i64 (a : Int), .int .i64 (b : Int), .agg #[.int .i64 x.r, .int .i64 x.d, .bool x.f], .pointer (some ⟨g3, 0, none⟩), .pointer (some ⟨g4, 0, none⟩)] w fun e w' => e = .returned (.tuple #[]) ∧ PutW B n w g3 GR g4 Gs cR (putM M a b x) (ch || btr x (M a b)) w' := by
  have H0 : Aside0 (PutW B n w g3 GR g4 Gs cR M ch w) := ⟨⟨h, h4, Below.refl _ _, Kept.refl _ _⟩⟩
  have HBW : Aside0 (B ≤ w.heap.size) := ⟨Nat.le_trans hB4 (Nat.le_of_lt (blk_lt h4))⟩
  have HE : Aside0 (impl_between_isBetter.f x.r x.d x.f (M a b).r (M a b).d (M a b).f = some (btr x (M a b))) := ⟨btr_eq _ _⟩
  have HB4 := Aside0.mk hB4
  clear h h4 hB4
  have p0 : (0 ≤ (a : Int)) = True := eq_true (by omega)
  have p1 : ((a : Int) < (n : Int)) = True := eq_true (by omega)
  have p2 : (0 ≤ (b : Int)) = True := eq_true (by omega)
  have p3 : ((b : Int) < (n : Int)) = True := eq_true (by omega)
  cases hv : btr x (M a b) with
  | false =>
    rw [hv] at HE
    have HP : Aside0 (putM M a b x = M) := ⟨by unfold putM; rw [hv, if_neg (by decide)]⟩
    clear hv
    go_enter Try.func91, Try.ntmps91
    go_wp2_with ((with_reducible refine gate_dst (N := 7) rfl ?_); refine box_event ?hg (N := 7) ?hd (cs := #[.int .i64 x.r, .int .i64 x.d, .bool x.f]) (t := 77) ?hr ?_; (case hd => rfl); (case hg => rfl); (case hr => first | (go_simp; done) | (go_simp; rfl)); intro g7 hg wn hbox hb7; have B7 := Aside0.mk hbox; have n0_ := Aside0.mk (H0.out.move HBW.out hb7); have n1_ := Aside0.mk (Nat.le_trans HBW.out hb7.size); clear H0 HBW hb7 hbox hg; have H0 := n0_; have HBW := n1_; clear n0_ n1_; have c70 : wn.cell? ⟨g7, 0, none⟩ = some (.int .i64 x.r) := (blk_cell B7.out 0).trans rfl; have c71 : wn.cell? ⟨g7, 1, none⟩ = some (.int .i64 x.d) := (blk_cell B7.out 1).trans rfl; have c72 : wn.cell? ⟨g7, 2, none⟩ = some (.bool x.f) := (blk_cell B7.out 2).trans rfl; have c3 := H0.out.1.c3; have cr := H0.out.1.cRow a ha; obtain ⟨cm0, cm1, cm2⟩ := H0.out.1.cM a b ha hb)
    go_still_tail 8, (by kernel_rfl)
    change wpList _ _ _ _ _ wn.drew
    go_wp2_with (go_at_call 92; (with_reducible refine (impl_between_isBetter.calls x.r x.d x.f (M a b).r (M a b).d (M a b).f false _ HE.out).mono ?_); rintro e w2 ⟨rfl, hb2⟩; have n0_ := Aside0.mk ((H0.out.move HBW.out (below_drew1 (Below.refl _ _))).move HBW.out hb2); clear H0 hb2; have H0 := n0_; clear n0_)
    (first | (refine bodyPost_end (results_none rfl _ _ _) rfl ?_) | (refine bodyPost_ret (results_none rfl _ _ _) rfl ?_))
    rw [HP.out, Bool.or_false]
    exact ⟨rfl, H0.out⟩
  | true =>
    rw [hv] at HE
    have HP : Aside0 (putM M a b x = upd M a b x) := ⟨by unfold putM; rw [hv, if_pos rfl]⟩
    clear hv
    go_enter Try.func91, Try.ntmps91
    go_wp2_with ((with_reducible refine gate_dst (N := 7) rfl ?_); refine box_event ?hg (N := 7) ?hd (cs := #[.int .i64 x.r, .int .i64 x.d, .bool x.f]) (t := 77) ?hr ?_; (case hd => rfl); (case hg => rfl); (case hr => first | (go_simp; done) | (go_simp; rfl)); intro g7 hg wn hbox hb7; have B7 := Aside0.mk hbox; have n0_ := Aside0.mk (H0.out.move HBW.out hb7); have n1_ := Aside0.mk (Nat.le_trans HBW.out hb7.size); clear H0 HBW hb7 hbox hg; have H0 := n0_; have HBW := n1_; clear n0_ n1_; have c70 : wn.cell? ⟨g7, 0, none⟩ = some (.int .i64 x.r) := (blk_cell B7.out 0).trans rfl; have c71 : wn.cell? ⟨g7, 1, none⟩ = some (.int .i64 x.d) := (blk_cell B7.out 1).trans rfl; have c72 : wn.cell? ⟨g7, 2, none⟩ = some (.bool x.f) := (blk_cell B7.out 2).trans rfl; have c3 := H0.out.1.c3; have cr := H0.out.1.cRow a ha; obtain ⟨cm0, cm1, cm2⟩ := H0.out.1.cM a b ha hb)
    go_still_tail 8, (by kernel_rfl)
    change wpList _ _ _ _ _ wn.drew
    go_wp2_with (go_at_call 92; (with_reducible refine (impl_between_isBetter.calls x.r x.d x.f (M a b).r (M a b).d (M a b).f true _ HE.out).mono ?_); rintro e w2 ⟨rfl, hb2⟩; have n2_ := Aside0.mk (blk_below (blk_drew B7.out) hb2); have n0_ := Aside0.mk ((H0.out.move HBW.out (below_drew1 (Below.refl _ _))).move HBW.out hb2); clear H0 B7 hb2 c70 c71 c72 c3 cr cm0 cm1 cm2; have H0 := n0_; have B7 := n2_; clear n0_ n2_; have c70 : w2.cell? ⟨g7, 0, none⟩ = some (.int .i64 x.r) := (blk_cell B7.out 0).trans rfl; have c71 : w2.cell? ⟨g7, 1, none⟩ = some (.int .i64 x.d) := (blk_cell B7.out 1).trans rfl; have c72 : w2.cell? ⟨g7, 2, none⟩ = some (.bool x.f) := (blk_cell B7.out 2).trans rfl; have c3 := H0.out.1.c3; have cr := H0.out.1.cRow a ha; obtain ⟨cm0, cm1, cm2⟩ := H0.out.1.cM a b ha hb; have c4 : w2.cell? ⟨g4, 0, none⟩ = some (.bool ch) := (blk_cell H0.out.2.1 0).trans rfl; have z4 := blk_frozen H0.out.2.1 0; have zm0 := H0.out.1.zM a ha (b * 3); have zm1 := H0.out.1.zM a ha (b * 3 + 1); have zm2 := H0.out.1.zM a ha (b * 3 + 2))
    have HQ := Aside0.mk (H0.out.put a b ha hb x)
    have c4s := (blk_cell HQ.out.2.1 0).trans (show (#[Value.bool ch] : Array Value)[0]? = some (.bool ch) from rfl)
    have z4s := blk_frozen HQ.out.2.1 0
    have zs1 : ∀ v, (w2.setCell ⟨Gs a, b * 3, none⟩ v).frozen? ⟨Gs a, b * 3 + 1, none⟩ = false := fun v => by obtain ⟨ci, q1, _⟩ := H0.out.1.blk a ha; exact blk_frozen (blk_put q1 (b * 3) v rfl) _
    have zs2 : ∀ v u, ((w2.setCell ⟨Gs a, b * 3, none⟩ v).setCell ⟨Gs a, b * 3 + 1, none⟩ u).frozen? ⟨Gs a, b * 3 + 2, none⟩ = false := fun v u => by obtain ⟨ci, q1, _⟩ := H0.out.1.blk a ha; exact blk_frozen (blk_put (blk_put q1 (b * 3) v rfl) (b * 3 + 1) u rfl) _
    have HR := Aside0.mk (HQ.out.flag HB4.out true)
    have HR2 := Aside0.mk (HR.out.move (Nat.le_trans HB4.out (Nat.le_of_lt (blk_lt HR.out.2.1))) (below_drew1 (Below.refl _ _)))
    go_region
    (first | (refine bodyPost_end (results_none rfl _ _ _) rfl ?_) | (refine bodyPost_ret (results_none rfl _ _ _) rfl ?_))
    rw [HP.out, Bool.or_true]
    exact ⟨rfl, HR2.out⟩
end Go.Proofs.Ytojpibpjieanhaa.X
end
section
/- The program's slowest: its loops. Conditions: none. -/
namespace Go.Proofs.Ytojpibpjieanhaa.X
open Go.RowKit Go.Proofs.YtojpibpjieanhaaW.PrintWords Go.Proofs.YtojpibpjieanhaaW.PrintLast Go.Proofs.YtojpibpjieanhaaW.PrintMore
attribute [local go_sem] max2_int min2_int max_two min_two max_three min_three max_four min_four
set_option linter.unusedVariables false
set_option linter.unusedSimpArgs false
def WireIn (n : Nat) (w : S55) : Prop := 0 ≤ w.f0 ∧ w.f0 < n ∧ 0 ≤ w.f1 ∧ w.f1 < n
instance (n : Nat) (w : S55) : Decidable (WireIn n w) := by unfold WireIn; infer_instance
end Go.Proofs.Ytojpibpjieanhaa.X
end
section
/- The program's allBetween: its rounds. Conditions: as the lemma says. -/
namespace Go.Proofs.Ytojpibpjieanhaa.X
open Go.RowKit Go.Proofs.YtojpibpjieanhaaW.PrintWords Go.Proofs.YtojpibpjieanhaaW.PrintLast Go.Proofs.YtojpibpjieanhaaW.PrintMore
set_option linter.unusedVariables false
set_option linter.unusedSimpArgs false
def zB : Bt := ⟨0, 0, false⟩
def zcells (n : Nat) : Array Value := madeCells (Value.agg #[.int .i64 0, .int .i64 0, .bool false]).cells (n * 3)
theorem zcells_size (n : Nat) : (zcells n).size = n * 3 := by unfold zcells; rw [size_madeCells]
theorem zcells_get (n j : Nat) (hj : j < n) : (zcells n)[j * 3]? = some (.int .i64 0) ∧ (zcells n)[j * 3 + 1]? = some (.int .i64 0) ∧ (zcells n)[j * 3 + 2]? = some (.bool false) := by
  have hs := zcells_size n
  have h3 : (Value.agg #[.int .i64 0, .int .i64 0, .bool false]).cells = #[.int .i64 0, .int .i64 0, .bool false] := by rfl
  unfold zcells at hs ⊢
  rw [h3] at hs ⊢
  have e0 : j * 3 % 3 = 0 := by omega
  have e1 : (j * 3 + 1) % 3 = 1 := by omega
  have e2 : (j * 3 + 2) % 3 = 2 := by omega
  refine ⟨?_, ?_, ?_⟩
  · rw [Array.getElem?_eq_getElem (by omega)]; simp [madeCells, e0]
  · rw [Array.getElem?_eq_getElem (by omega)]; simp [madeCells, e1]
  · rw [Array.getElem?_eq_getElem (by omega)]; simp [madeCells, e2]
def rowVals (n : Nat) (Gs : Nat → Nat) (k : Nat) : List Value := (List.range k).map fun i => .slice (some ⟨Gs i, 0, none⟩) n n
theorem rowVals_len (n : Nat) (Gs : Nat → Nat) (k : Nat) : (rowVals n Gs k).length = k := by simp [rowVals]
theorem rowVals_succ (n : Nat) (Gs : Nat → Nat) (k : Nat) : rowVals n Gs (k + 1) = rowVals n Gs k ++ [.slice (some ⟨Gs k, 0, none⟩) n n] := by simp [rowVals, List.range_succ]
theorem rowVals_ext (n : Nat) (Gs Gt : Nat → Nat) (k : Nat) (h : ∀ i, i < k → Gs i = Gt i) : rowVals n Gs k = rowVals n Gt k := by
  unfold rowVals
  refine List.map_congr_left fun i hi => ?_
  rw [h i (List.mem_range.1 hi)]
/-- So many rows have been made. -/
structure RowsW (B n k : Nat) (w : World) (g3 : Nat) (v : Value) (Gs : Nat → Nat) : Prop where
  b3 : w.heap[g3]? = some (.cells #[v] 79 (0, 0))
  own : w.ownsRow B 78 1 v k (rowVals n Gs k)
  blk : ∀ i, i < k → w.heap[Gs i]? = some (.cells (zcells n) 77 (0, 0))
  inj : ∀ i j, i < k → j < k → Gs i = Gs j → i = j
  h3 : B ≤ g3
  hs : ∀ i, i < k → B ≤ Gs i
theorem RowsW.move {B n k : Nat} {w w1 : World} {g3 : Nat} {v : Value} {Gs : Nat → Nat} (h : RowsW B n k w g3 v Gs) (hb : Below w.heap.size w w1) : RowsW B n k w1 g3 v Gs :=
  { h with
    b3 := blk_below h.b3 hb
    own := own_move h.own (fun q hq => hb.block q (own_lt h.own q hq))
    blk := fun i hi => blk_below (h.blk i hi) hb }
theorem RowsW.to {B n : Nat} {w : World} {g3 : Nat} {v : Value} {Gs : Nat → Nat} (h : RowsW B n n w g3 v Gs) (hn : 0 < n) : ∃ GR cR, v = .slice (some ⟨GR, 0, none⟩) n cR ∧ MatW B n w g3 GR Gs cR (fun _ _ => zB) := by
  obtain ⟨h1, h2⟩ := h.own
  rcases h2 with ⟨_, h0⟩ | ⟨g, cap, cur, rfl, hg, hh, hnc, hcm, hcs, ht⟩
  · omega
  · refine ⟨g, cap, rfl, ⟨h.b3, ⟨cur, hh, ⟨by omega, hnc, hcm⟩, fun i hi => ?_⟩, fun i hi => ⟨_, h.blk i hi, zcells_size n, fun j hj => zcells_get n j hj⟩, h.inj, h.h3, hg, h.hs⟩⟩
    have e : (rowVals n Gs n)[i]? = some (.slice (some ⟨Gs i, 0, none⟩) n n) := by simp [rowVals, hi]
    rw [← ht, List.getElem?_take_of_lt (by omega)] at e
    rw [← Array.getElem?_toList]
    exact e
theorem RowsW.step {B n k : Nat} {W w3 : World} {g3 : Nat} {v v3 : Value} {Gs : Nat → Nat} {o : Obj} (h : RowsW B n k W g3 v Gs) (hB : B ≤ W.heap.size) (hg : ((W.alloc (.cells (zcells n) 77)).alloc o).grownBy w3 v.ownBlock) (ho : w3.ownsRow B 78 1 v3 (k + 1) (rowVals n Gs k ++ [.slice (some ⟨W.heap.size, 0, none⟩) n n])) :
    RowsW B n (k + 1) (w3.setCell ⟨g3, 0, none⟩ v3) g3 v3 (fun q => if q = k then W.heap.size else Gs q) := by
  have h2 := (h.move (below_alloc (Below.refl _ _) (.cells (zcells n) 77))).move (below_alloc (Below.refl _ _) o)
  have b3 := blk_grown h2.b3 hg (own_ne h2.own h2.b3 (by decide))
  have old : ∀ i, i < k → w3.heap[Gs i]? = some (.cells (zcells n) 77 (0, 0)) := fun i hi => blk_grown (h2.blk i hi) hg (own_ne h2.own (h2.blk i hi) (by decide))
  have new : w3.heap[W.heap.size]? = some (.cells (zcells n) 77 (0, 0)) := blk_grown (blk_alloc (blk_new W (.cells (zcells n) 77)) o) hg (own_ne h2.own (blk_alloc (blk_new W (.cells (zcells n) 77)) o) (by decide))
  have lt : ∀ i, i < k → Gs i < W.heap.size := fun i hi => blk_lt (h.blk i hi)
  refine { b3 := blk_put b3 0 _ rfl, own := ?_, blk := fun i hi => ?_, inj := fun i j hi hj he => ?_, h3 := h.h3, hs := fun i hi => ?_ }
  · rw [rowVals_succ, if_pos rfl, rowVals_ext n (fun q => if q = k then W.heap.size else Gs q) Gs k (fun i hi => if_neg (by omega))]
    exact own_setCell ho (p := ⟨g3, 0, none⟩) (own_ne ho b3 (by decide)) _
  · show (w3.setCell ⟨g3, 0, none⟩ v3).heap[if i = k then W.heap.size else Gs i]? = _
    by_cases e : i = k
    · rw [if_pos e]; exact blk_far new (p := ⟨g3, 0, none⟩) (blk_ne new b3 (by decide)) _
    · rw [if_neg e]; exact blk_far (old i (by omega)) (p := ⟨g3, 0, none⟩) (blk_ne (old i (by omega)) b3 (by decide)) _
  · have he : (if i = k then W.heap.size else Gs i) = (if j = k then W.heap.size else Gs j) := he
    by_cases ei : i = k <;> by_cases ej : j = k
    · omega
    · rw [if_pos ei, if_neg ej] at he
      have := lt j (by omega); omega
    · rw [if_neg ei, if_pos ej] at he
      have := lt i (by omega); omega
    · rw [if_neg ei, if_neg ej] at he
      exact h.inj i j (by omega) (by omega) he
  · show B ≤ if i = k then W.heap.size else Gs i
    split
    · exact hB
    · exact h.hs i (by omega)
theorem infoB : (Try.prog.info? 77).map (fun i => (i.zero, i.size, i.bytes)) = some (some (.agg #[.int .i64 0, .int .i64 0, .bool false]), 3, 24) := by kernel_rfl
theorem infoS : (Try.prog.info? 78).map (fun i => (i.zero, i.size, i.bytes)) = some (some (.slice none 0 0), 1, 24) := by kernel_rfl
theorem makeB (n : Nat) (hn : n ≤ 1000000) (w : World) : (Instr.makeSlice 78 (.int .i64 n) (.int .i64 n)).run Try.prog w = .ok (.slice (some ⟨w.heap.size, 0, none⟩) n n) (w.alloc (.cells (zcells n) 77)) := by
  obtain ⟨i0, hi, hzz⟩ := Option.map_eq_some_iff.1 infoB
  simp only [Prod.mk.injEq] at hzz
  obtain ⟨hz0, hz1, hz2⟩ := hzz
  have := run_make (P := Try.prog) w 78 77 i0 _ Try.underlying78 hi hz0 .i64 .i64 (n : Int) (n : Int) (by omega) (by omega) (by rw [hz2]; omega) (by omega)
  rw [hz1] at this
  simpa [zcells] using this
def yB (d : List Int) (w : S55) : Bt := ⟨w.f2, wrap64 (rd d w.f0 + rd d w.f1), true⟩
def yT (d : List Int) (w : S55) (x : Bt) : Bt := ⟨wrap64 (x.r + w.f2), wrap64 (x.d + rd d w.f0), true⟩
abbrev MB : Type := (Nat → Nat → Bt) × Bool
def putS (s : MB) (i j : Nat) (x : Bt) : MB := (putM s.1 i j x, s.2 || btr x (s.1 i j))
def toStep (d : List Int) (w : S55) (s : MB) (j : Nat) : MB := if (s.1 w.f1.toNat j).f = true then putS s w.f0.toNat j (yT d w (s.1 w.f1.toNat j)) else s
def toN (d : List Int) (w : S55) (s : MB) : Nat → MB
  | 0 => s
  | j + 1 => toStep d w (toN d w s j) j
def wireStep (d : List Int) (n : Nat) (w : S55) (s : MB) : MB := toN d w (putS s w.f0.toNat w.f1.toNat (yB d w)) n
def wireN (d : List Int) (ws : List S55) (n : Nat) (s : MB) : Nat → MB
  | 0 => s
  | j + 1 => wireStep d n (rd_T55 ws (j : Int)) (wireN d ws n s j)
def roundM (d : List Int) (ws : List S55) (n : Nat) (M : Nat → Nat → Bt) : MB := wireN d ws n (M, false) ws.length
def allF (d : List Int) (ws : List S55) (n : Nat) : Nat → (Nat → Nat → Bt) → Option (Nat → Nat → Bt)
  | 0, _ => none
  | k + 1, M => if (roundM d ws n M).2 = true then allF d ws n k (roundM d ws n M).1 else some (roundM d ws n M).1
/-- What the boxes hold in a round. -/
structure AllW (w0 : World) (fl : Array Value) (n g1 g3 GR g4 : Nat) (Gs : Nat → Nat) (cR : Nat) (s : MB) (w : World) : Prop where
  b1 : w.heap[g1]? = some (.cells fl 36 (0, 0))
  mat : MatW w0.heap.size n w g3 GR Gs cR s.1
  b4 : w.heap[g4]? = some (.cells #[.bool s.2] 4 (0, 0))
  h4 : w0.heap.size ≤ g4
  bel : Below w0.heap.size w0 w
theorem AllW.move {w0 w w1 : World} {fl : Array Value} {n g1 g3 GR g4 : Nat} {Gs : Nat → Nat} {cR : Nat} {s : MB} (h : AllW w0 fl n g1 g3 GR g4 Gs cR s w) (hb : Below w.heap.size w w1) : AllW w0 fl n g1 g3 GR g4 Gs cR s w1 :=
  ⟨blk_below h.b1 hb, h.mat.move hb, blk_below h.b4 hb, h.h4, below_step h.bel hb⟩
theorem AllW.putw {w0 w w1 : World} {fl : Array Value} {n g1 g3 GR g4 : Nat} {Gs : Nat → Nat} {cR : Nat} {s : MB} (h : AllW w0 fl n g1 g3 GR g4 Gs cR s w) {i j : Nat} {x : Bt} (hp : PutW w0.heap.size n w g3 GR g4 Gs cR (putM s.1 i j x) (s.2 || btr x (s.1 i j)) w1) : AllW w0 fl n g1 g3 GR g4 Gs cR (putS s i j x) w1 :=
  ⟨blk_kept h.b1 hp.2.2.2 (by
    rintro (e | ⟨a, ha, e⟩)
    · exact blk_ne h.b1 h.b4 (by decide) e
    · obtain ⟨cells, q1, _⟩ := h.mat.blk a ha
      exact blk_ne h.b1 q1 (by decide) e), hp.1, hp.2.1, h.h4, h.bel.trans hp.2.2.1⟩
/-- A block that the closure's call keeps. -/
theorem AllW.other {w0 w w1 : World} {fl : Array Value} {n g1 g3 GR g4 : Nat} {Gs : Nat → Nat} {cR : Nat} {s : MB} (h : AllW w0 fl n g1 g3 GR g4 Gs cR s w) {M : Nat → Nat → Bt} {c : Bool} (hp : PutW w0.heap.size n w g3 GR g4 Gs cR M c w1) {g : Nat} {cs : Array Value} {t : TypeId} (hg : w.heap[g]? = some (.cells cs t (0, 0))) (h1 : t ≠ 4) (h2 : t ≠ 77) : w1.heap[g]? = some (.cells cs t (0, 0)) :=
  blk_kept hg hp.2.2.2 (by
    rintro (e | ⟨a, ha, e⟩)
    · exact blk_ne hg h.b4 h1 e
    · obtain ⟨cells, q1, _⟩ := h.mat.blk a ha
      exact blk_ne hg q1 h2 e)
set_option maxHeartbeats 16000000 in
set_option maxRecDepth 100000 in
theorem all_walk (A0 : Option Addr) (c0 : Nat) (d : List Int) (A1 : Option Addr) (c1 : Nat) (ws : List S55) (n m : Nat) (hn0 : n = d.length) (hm0 : m = ws.length) (h1 : 1 ≤ n) (hn : n ≤ 1000000) (hm : m ≤ 1000000) (hw : ∀ j : Nat, j < m → WireIn n (rd_T55 ws (j : Int))) (w : World)
    (hr0 : Kd.C (Kd.int .i64) w A0 n d) (hr1 : Kd.C k55 w A1 m ws) (K : Nat) (R : Nat → Nat → Bt) (hR : allF d ws n K (fun _ _ => zB) = some R) :
    Calls Try.prog 62 #[.agg #[.slice A0 n c0, .slice A1 m c1]] w fun e w' => ∃ GR cR g3 Gs, e = .returned (.slice (some ⟨GR, 0, none⟩) n cR) ∧ MatW w.heap.size n w' g3 GR Gs cR R ∧ Below w.heap.size w w' := by
  have HR0 := Aside0.mk hr0
  have HR1 := Aside0.mk hr1
  have HW := Aside0.mk hw
  have HN0 := Aside0.mk hn0
  have HM0 := Aside0.mk hm0
  have HRR := Aside0.mk hR
  clear hr0 hr1 hw hm0 hn0 hR
  have HB := Aside0.mk (Below.refl w.heap.size w)
  go_enter Try.func62, Try.ntmps62
  go_wp2_with (first
    | ((with_reducible refine gate_dst (N := 1) rfl ?_); refine box_event ?hg (N := 1) ?hd (cs := #[.slice A0 n c0, .slice A1 m c1]) (t := 36) ?hr ?_; (case hd => rfl); (case hg => rfl); (case hr => first | (go_simp; done) | (go_simp; rfl)); intro g1 hg wn hbox hb; have GE1 := Aside0.mk (by rw [hg]; exact below_size HB.out : w.heap.size ≤ g1); clear hg; have BK10 := Aside0.mk hbox; clear hbox; have n0_ := Aside0.mk (below_step HB.out hb); clear HB  hb; have HB := n0_; clear n0_ ; have BK1 := BK10; clear BK10; have c1_0 : ∀ o1 o2, ((wn.alloc o1).alloc o2).cell? ⟨g1, 0, none⟩ = some (.slice A0 n c0) := fun o1 o2 => pw_cell_below (below_alloc (below_alloc (Below.refl _ _) _) _) ((blk_cell BK1.out 0).trans rfl)))
  obtain ⟨g3, hg3⟩ : ∃ g3, g3 = wn.heap.size + 1 := ⟨_, rfl⟩
  rw [← hg3]
  have HG3 := Aside0.mk hg3
  clear hg3
  go_loopg [14] n (fun kq v14 w' => ∃ (i : Nat) (v : Value) (Gs : Nat → Nat), v14 = .int .i64 i ∧ Aside0 (i + kq = n) ∧ Aside0 (w'.heap[g1]? = some (.cells #[.slice A0 n c0, .slice A1 m c1] 36 (0, 0))) ∧ Aside0 (RowsW w.heap.size n i w' g3 v Gs) ∧ Aside0 (Below w.heap.size w w'))
  case atStart =>
    have hz := below_size HB.out
    have hs : (wn.alloc (.cells #[] 78)).heap.size = wn.heap.size + 1 := by simp
    refine ⟨0, .slice (some ⟨wn.heap.size, 0, none⟩) 0 0, fun _ => 0, by first | rfl | simp, ⟨by omega⟩, ⟨blk_alloc (blk_alloc BK1.out _) _⟩, ⟨?_⟩, ⟨below_step HB.out (below_alloc (below_alloc (Below.refl _ _) _) _)⟩⟩
    exact { b3 := by rw [HG3.out, ← hs]; exact blk_new _ _, own := own_alloc (own_lit_of (enc := Value.int .i64) wn w.heap.size 78 ([] : List Int) hz (by simp)) _, blk := fun i hi => absurd hi (Nat.not_lt_zero _), inj := fun i j hi => absurd hi (Nat.not_lt_zero _), h3 := by rw [HG3.out]; omega, hs := fun i hi => absurd hi (Nat.not_lt_zero _) }
  case round =>
    clear BK1 HB c1_0 HG3
    obtain ⟨i, v, Gs, rfl, HE, Q1, QR, QB⟩ := hrel
    by_cases hlt : i < n
    · cases gk with
      | zero => have := HE.out; omega
      | succ gq =>
      obtain ⟨A, c, hv⟩ := own_slice QR.out.own
      subst hv
      have hmk := makeB n hn
      have c1_0 : wr.cell? ⟨g1, 0, none⟩ = some (.slice A0 n c0) := (blk_cell Q1.out 0).trans rfl
      have c3_0 : wr.cell? ⟨g3, 0, none⟩ = some (.slice A i c) := (blk_cell QR.out.b3 0).trans rfl
      have c3_1 : ∀ o, (wr.alloc o).cell? ⟨g3, 0, none⟩ = some (.slice A i c) := fun o => pw_cell_below (below_alloc (Below.refl _ _) _) c3_0
      have c3_2 : ∀ o o2, ((wr.alloc o).alloc o2).cell? ⟨g3, 0, none⟩ = some (.slice A i c) := fun o o2 => pw_cell_below (below_alloc (below_alloc (Below.refl _ _) _) _) c3_0
      have HD := Aside0.mk (QR.out.move (below_drew1 (Below.refl wr.heap.size wr)))
      have HBW := Aside0.mk (below_size QB.out)
      have hsz : (wr.drew.alloc (.cells (zcells n) 77)).heap.size = wr.heap.size + 1 := by simp
      have HCS : Aside0 (((wr.drew.alloc (.cells (zcells n) 77)).alloc (.cells #[.slice (some ⟨wr.heap.size, 0, none⟩) n n] 78)).cell? ⟨wr.heap.size + 1, 0, none⟩ = some (.slice (some ⟨wr.heap.size, 0, none⟩) n n)) := ⟨by rw [← hsz]; exact (blk_cell (blk_new (wr.drew.alloc (.cells (zcells n) 77)) (.cells #[.slice (some ⟨wr.heap.size, 0, none⟩) n n] 78)) 0).trans rfl⟩
      have HD2 := Aside0.mk ((HD.out.move (below_alloc (Below.refl _ _) (.cells (zcells n) 77))).move (below_alloc (Below.refl _ _) (.cells #[.slice (some ⟨wr.heap.size, 0, none⟩) n n] 78)))
      have HBB := Aside0.mk (below_step (below_drew1 QB.out) (below_alloc (below_alloc (Below.refl wr.drew.heap.size wr.drew) (.cells (zcells n) 77)) (.cells #[.slice (some ⟨wr.heap.size, 0, none⟩) n n] 78)))
      have HQ1 := Aside0.mk (blk_below (blk_drew Q1.out) (below_alloc (below_alloc (Below.refl wr.drew.heap.size wr.drew) (.cells (zcells n) 77)) (.cells #[.slice (some ⟨wr.heap.size, 0, none⟩) n n] 78)))
      clear hsz
      have hbytes : (i + 1) * 24 ≤ 140737488355328 := by omega
      go_wp2
      go_region_law ((refine step_append_own rfl (.tmp 16) (.tmp 21) 79 rfl 78 (.slice none 0 0) 24 Try.underlying79 infoS rfl (by decide) w.heap.size (.slice A i c) i (rowVals n Gs i) (by simp [Act.eval, Act.put]) ⟨wr.heap.size + 1, 0, none⟩ 1 (.slice (some ⟨wr.heap.size, 0, none⟩) n n) (by simp [Act.eval, Act.put]) HCS.out rfl HD2.out.own (below_size HBB.out) hbytes ?_; intro v3 w3 ho hg hat; obtain ⟨A3, c3, hv3⟩ := own_slice ho; subst hv3; have z3 := blk_frozen (blk_grown HD2.out.b3 hg (own_ne HD2.out.own HD2.out.b3 (by decide))) 0; have cg3 := blk_cell (blk_grown HD2.out.b3 hg (own_ne HD2.out.own HD2.out.b3 (by decide))) 0; have HST := Aside0.mk (HD.out.step HBW.out hg ho); have HB3 := Aside0.mk (Below.setCell (p := ⟨g3, 0, none⟩) (HBB.out.grown hg (below_size HBB.out) (own_base HD2.out.own)) HD.out.h3 (.slice A3 (i + 1) c3)); have HQ3 := Aside0.mk (blk_far (blk_grown HQ1.out hg (own_ne HD2.out.own HQ1.out (by decide))) (p := ⟨g3, 0, none⟩) (blk_ne HQ1.out HD2.out.b3 (by decide)) (.slice A3 (i + 1) c3)); clear ho hg hat))
      all_goals
        have wi : IntKind.i64.wrap ((i : Int) + 1) = (i : Int) + 1 := IntWalk.i64_in _ ⟨by omega, by omega⟩
        clear c1_0 c3_0 c3_1 c3_2 hmk hbytes z3 cg3
        go_wp2
        go_roundg gq
        case measure => omega
        case rel => exact ⟨i + 1, _, _, by first | rfl | go_num, ⟨by have := HE.out; omega⟩, HQ3, HST, HB3⟩
    · have hi : n = i := by have := HE.out; omega
      subst hi
      clear hlt HE
      obtain ⟨GR, cR, hv, HM0⟩ := QR.out.to h1
      subst hv
      have HM := Aside0.mk HM0
      clear HM0 QR
      have HFL := Q1
      clear Q1
      go_wp2_with ((with_reducible refine gate_dst (N := 4) rfl ?_); refine box_event ?hg (N := 4) ?hd (cs := #[.bool false]) (t := 4) ?hr ?_; (case hd => rfl); (case hg => rfl); (case hr => first | (go_simp; done) | (go_simp; rfl)); intro g4 hg wn hbox hb; have GE4 := Aside0.mk (by rw [hg]; exact below_size QB.out : w.heap.size ≤ g4); have B4 := Aside0.mk hbox; have n0_ := Aside0.mk (HM.out.move hb); have n1_ := Aside0.mk (blk_below HFL.out hb); have n2_ := Aside0.mk (below_step QB.out hb); clear HM HFL QB hb hbox hg; have HM := n0_; have HFL := n1_; have QB := n2_; clear n0_ n1_ n2_; have c4 : wn.cell? ⟨g4, 0, none⟩ = some (.bool false) := (blk_cell B4.out 0).trans rfl; have z4 := blk_frozen B4.out 0)
      have HS0 := Aside0.mk (show AllW w #[.slice A0 n c0, .slice A1 m c1] n g1 g3 GR g4 Gs cR ((fun _ _ => zB), true) (wn.setCell ⟨g4, 0, none⟩ (.bool true)) from ⟨blk_far HFL.out (p := ⟨g4, 0, none⟩) (blk_ne HFL.out B4.out (by decide)) _, HM.out.far B4.out (by decide) (by decide) (by decide) 0 _, blk_put B4.out 0 _ rfl, GE4.out, QB.out.setCell GE4.out _⟩)
      clear HM HFL QB B4 GE4 c4 z4
      go_loopg [4] K (fun kq v4 w' => ∃ (g4 : Nat) (s : MB), v4 = .pointer (some ⟨g4, 0, none⟩) ∧ Aside0 ((s.2 = true ∧ allF d ws n kq s.1 = some R) ∨ (s.2 = false ∧ s.1 = R)) ∧ Aside0 (AllW w #[.slice A0 n c0, .slice A1 m c1] n g1 g3 GR g4 Gs cR s w'))
      case atStart => exact ⟨g4, _, rfl, ⟨.inl ⟨rfl, HRR.out⟩⟩, HS0⟩
      case round =>
        clear HS0 HRR
        obtain ⟨g4, ⟨M, ch⟩, rfl, HF, HS⟩ := hrel
        have c4 : wr.cell? ⟨g4, 0, none⟩ = some (.bool ch) := (blk_cell HS.out.b4 0).trans rfl
        cases ch with
        | false =>
          have HR : Aside0 (M = R) := ⟨by rcases HF.out with ⟨h, _⟩ | ⟨_, h⟩; cases h; exact h⟩
          have c3 := HS.out.mat.c3
          clear HF
          go_wp2
          go_ret
          exact ⟨GR, cR, g3, Gs, rfl, by rw [← HR.out]; exact HS.out.mat, HS.out.bel⟩
        | true =>
          have hA : allF d ws n gk M = some R := by rcases HF.out with ⟨_, h⟩ | ⟨h, _⟩; exact h; cases h
          cases gk with
          | zero => cases hA
          | succ gq =>
          have HAF := Aside0.mk hA
          clear hA HF
          have z4 := blk_frozen HS.out.b4 0
          have HS1 := Aside0.mk (show AllW w #[.slice A0 n c0, .slice A1 m c1] n g1 g3 GR g4 Gs cR (M, false) (wr.setCell ⟨g4, 0, none⟩ (.bool false)) from ⟨blk_far HS.out.b1 (p := ⟨g4, 0, none⟩) (blk_ne HS.out.b1 HS.out.b4 (by decide)) _, HS.out.mat.far HS.out.b4 (by decide) (by decide) (by decide) 0 _, blk_put HS.out.b4 0 _ rfl, HS.out.h4, HS.out.bel.setCell HS.out.h4 _⟩)
          have cf1 : (wr.setCell ⟨g4, 0, none⟩ (.bool false)).cell? ⟨g1, 1, none⟩ = some (.slice A1 m c1) := (blk_cell HS1.out.b1 1).trans rfl
          clear HS
          go_wp2
          generalize wr.setCell ⟨g4, 0, none⟩ (.bool false) = W1 at HS1 ⊢
          clear c4 z4 cf1
          go_loopg [29] m (fun kq v29 w' => ∃ j : Nat, v29 = .int .i64 j ∧ Aside0 (j + kq = m) ∧ Aside0 (AllW w #[.slice A0 n c0, .slice A1 m c1] n g1 g3 GR g4 Gs cR (wireN d ws n (M, false) j) w'))
          case atStart => exact ⟨0, by first | rfl | simp, ⟨by omega⟩, HS1⟩
          case round =>
            clear HS1
            obtain ⟨j, rfl, HJ, HS⟩ := hrel
            by_cases hlj : j < m
            · cases gk with
              | zero => have := HJ.out; omega
              | succ gq2 =>
              obtain ⟨ad, hA, x0, x1, x2⟩ := at_T55 (Kd.C_below HR1.out HS.out.bel) (j : Int) (by omega) (by omega)
              cases hA
              rw [Int.toNat_natCast] at x0 x1 x2
              obtain ⟨o0, o1, o2, o3⟩ := HW.out j hlj
              have HX : Aside0 (wireN d ws n (M, false) (j + 1) = wireStep d n (rd_T55 ws (j : Int)) (wireN d ws n (M, false) j)) := ⟨rfl⟩
              obtain ⟨S, hS⟩ : ∃ S, S = wireN d ws n (M, false) j := ⟨_, rfl⟩
              rw [← hS] at HS HX
              clear hS
              obtain ⟨el, hel⟩ : ∃ el, el = rd_T55 ws (j : Int) := ⟨_, rfl⟩
              rw [← hel] at x0 x1 x2 o0 o1 o2 o3 HX
              clear hel
              obtain ⟨a, ha⟩ : ∃ a : Nat, el.f0 = a := ⟨el.f0.toNat, by omega⟩
              obtain ⟨b, hb⟩ : ∃ b : Nat, el.f1 = b := ⟨el.f1.toNat, by omega⟩
              obtain ⟨f0, f1, f2⟩ := el
              simp only at x0 x1 x2 o0 o1 o2 o3 ha hb
              subst ha
              subst hb
              have hi0 : a < n := by omega
              have hi1 : b < n := by omega
              have p0 : (0 ≤ (a : Int)) = True := eq_true (by omega)
              have p1 : ((a : Int) < (n : Int)) = True := eq_true (by omega)
              have p2 : (0 ≤ (b : Int)) = True := eq_true (by omega)
              have p3 : ((b : Int) < (n : Int)) = True := eq_true (by omega)
              go_wp2_with ((with_reducible refine gate_dst (N := 7) rfl ?_); refine box_event ?hg (N := 7) ?hd (cs := #[.int .i64 0, .int .i64 0, .int .i64 0]) (t := 55) ?hr ?_; (case hd => rfl); (case hg => rfl); (case hr => first | (go_simp; done) | (go_simp; rfl)); intro g7 hg wn hbox hb7; have B7 := Aside0.mk hbox; have HB7 := Aside0.mk hb7; have GE7 := Aside0.mk (show wr.heap.size ≤ g7 by rw [hg]; exact Nat.le_refl _); clear hg hb7 hbox; have z7_0 := blk_frozen B7.out 0; have z7_1 := blk_frozen B7.out 1; have z7_2 := blk_frozen B7.out 2; have c7_0 : wn.cell? ⟨g7, 0, none⟩ = some (.int .i64 0) := (blk_cell B7.out 0).trans rfl; have c7_1 : wn.cell? ⟨g7, 1, none⟩ = some (.int .i64 0) := (blk_cell B7.out 1).trans rfl; have c7_2 : wn.cell? ⟨g7, 2, none⟩ = some (.int .i64 0) := (blk_cell B7.out 2).trans rfl)
              have p7 := Aside0.mk (blk_put (cs' := #[.int .i64 (a : Int), .int .i64 (b : Int), .int .i64 f2]) (blk_put (cs' := #[.int .i64 (a : Int), .int .i64 (b : Int), .int .i64 0]) (blk_put (cs' := #[.int .i64 (a : Int), .int .i64 0, .int .i64 0]) B7.out 0 (.int .i64 (a : Int)) rfl) 1 (.int .i64 (b : Int)) rfl) 2 (.int .i64 f2) rfl)
              have HA := Aside0.mk (HS.out.move (below_set (j := 2) (v := .int .i64 f2) (below_set (j := 1) (v := .int .i64 (b : Int)) (below_set (j := 0) (v := .int .i64 (a : Int)) HB7.out GE7.out) GE7.out) GE7.out))
              clear c7_0 c7_1 c7_2 z7_0 z7_1 z7_2 B7 HB7 GE7 HS x0 x1 x2
              generalize ((wn.setCell ⟨g7, 0, none⟩ (.int .i64 (a : Int))).setCell ⟨g7, 1, none⟩ (.int .i64 (b : Int))).setCell ⟨g7, 2, none⟩ (.int .i64 f2) = W5 at p7 HA ⊢
              have k7_0 : W5.cell? ⟨g7, 0, none⟩ = some (.int .i64 (a : Int)) := (blk_cell p7.out 0).trans rfl
              have k7_1 : W5.cell? ⟨g7, 1, none⟩ = some (.int .i64 (b : Int)) := (blk_cell p7.out 1).trans rfl
              have k7_2 : W5.cell? ⟨g7, 2, none⟩ = some (.int .i64 f2) := (blk_cell p7.out 2).trans rfl
              have k1_0 : W5.cell? ⟨g1, 0, none⟩ = some (.slice A0 n c0) := (blk_cell HA.out.b1 0).trans rfl
              obtain ⟨dd, hD, dA⟩ := Kd.at_int (Kd.C_below HR0.out HA.out.bel) (a : Int) o0 o1
              cases hD
              obtain ⟨dd', hD', dB⟩ := Kd.at_int (Kd.C_below HR0.out HA.out.bel) (b : Int) o2 o3
              cases hD'
              rw [Int.toNat_natCast] at dA dB
              go_still_tail 21, (by kernel_rfl)
              change wpList _ _ _ _ _ W5.drew
              go_wp2_with ((with_reducible refine gate_dst (N := 54) rfl ?_); (refine goesV_ (some 54) rfl rfl Try.func91 rfl (by kernel_rfl) #[.int .i64 (a : Int), .int .i64 (b : Int), .agg #[.int .i64 f2, .int .i64 (wrap64 (rd d (a : Int) + rd d (b : Int))), .bool true]] rfl rfl (by simp [Act.eval, Act.put, IntWalk.i64_left]) ?_; refine (PutClo a b (yB d ⟨(a : Int), (b : Int), f2⟩) S.2 hi0 hi1 hn HA.out.mat.drew (blk_drew HA.out.b4) HA.out.h4).mono ?_; rintro e w2 ⟨rfl, hp⟩; refine ⟨_, rfl, ?_⟩; have n0_ := Aside0.mk ((HA.out.move (below_drew1 (Below.refl _ _))).putw hp); have n1_ := Aside0.mk ((HA.out.move (below_drew1 (Below.refl _ _))).other hp (blk_drew p7.out) (by decide) (by decide)); clear HA p7 hp; have HA := n0_; have p7 := n1_; clear n0_ n1_ k7_0 k7_1 k7_2 k1_0 dA dB; have k7_1 : w2.cell? ⟨g7, 1, none⟩ = some (.int .i64 (b : Int)) := (blk_cell p7.out 1).trans rfl; have c3 := HA.out.mat.c3; have cr := HA.out.mat.cRow b hi1))
              clear k7_1 c3 cr
              obtain ⟨S1, hS1⟩ : ∃ S1 : MB, S1 = putS S a b (yB d ⟨(a : Int), (b : Int), f2⟩) := ⟨_, rfl⟩
              have HA' := Aside0.mk (show AllW w #[.slice (some dd) n c0, .slice (some ad) m c1] n g1 g3 GR g4 Gs cR S1 w2 by rw [hS1]; exact HA.out)
              have HS1 := Aside0.mk hS1
              clear HA hS1
              go_loopg [61] n (fun kq v61 w' => ∃ q : Nat, v61 = .int .i64 q ∧ Aside0 (q + kq = n) ∧ Aside0 (w'.heap[g7]? = some (.cells #[.int .i64 (a : Int), .int .i64 (b : Int), .int .i64 f2] 55 (0, 0))) ∧ Aside0 (AllW w #[.slice (some dd) n c0, .slice (some ad) m c1] n g1 g3 GR g4 Gs cR (toN d ⟨(a : Int), (b : Int), f2⟩ S1 q) w'))
              case atStart => exact ⟨0, by first | rfl | simp, ⟨by omega⟩, p7, HA'⟩
              case round =>
                clear p7 HA'
                obtain ⟨q, rfl, HQ, p7, HA⟩ := hrel
                by_cases hlq : q < n
                · cases gk with
                  | zero => have := HQ.out; omega
                  | succ gq3 =>
                  have q2 : (0 ≤ (q : Int)) = True := eq_true (by omega)
                  have q3 : ((q : Int) < (n : Int)) = True := eq_true (by omega)
                  obtain ⟨Z, hZ⟩ : ∃ Z, Z = toN d ⟨(a : Int), (b : Int), f2⟩ S1 q := ⟨_, rfl⟩
                  have HZ : Aside0 (toN d ⟨(a : Int), (b : Int), f2⟩ S1 (q + 1) = toStep d ⟨(a : Int), (b : Int), f2⟩ Z q) := ⟨by rw [hZ]; rfl⟩
                  rw [← hZ] at HA
                  clear hZ
                  obtain ⟨cm0, cm1, cm2⟩ := HA.out.mat.cM b q hi1 hlq
                  obtain ⟨x, hx⟩ : ∃ x, x = Z.1 b q := ⟨_, rfl⟩
                  rw [← hx] at cm0 cm1 cm2
                  have HXX := Aside0.mk hx
                  clear hx
                  obtain ⟨xr, xd, xf⟩ := x
                  simp only at cm0 cm1 cm2
                  have wq : IntKind.i64.wrap ((q : Int) + 1) = (q : Int) + 1 := IntWalk.i64_in _ ⟨by omega, by omega⟩
                  cases xf with
                  | false =>
                    have HV : Aside0 (toN d ⟨(a : Int), (b : Int), f2⟩ S1 (q + 1) = Z) := ⟨by rw [HZ.out]; unfold toStep; rw [if_neg]; show ¬ (Z.1 (b : Int).toNat q).f = true; rw [Int.toNat_natCast, ← HXX.out]; exact Bool.false_ne_true⟩
                    clear HZ HXX
                    go_wp2_with ((with_reducible refine gate_dst (N := 9) rfl ?_); refine box_event ?hg (N := 9) ?hd (cs := #[.int .i64 0, .int .i64 0, .bool false]) (t := 77) ?hr ?_; (case hd => rfl); (case hg => rfl); (case hr => first | (go_simp; done) | (go_simp; rfl)); intro g9 hg wn hbox hb9; have B9 := Aside0.mk hbox; have HB9 := Aside0.mk hb9; have GE9 := Aside0.mk (show wr.heap.size ≤ g9 by rw [hg]; exact Nat.le_refl _); clear hg hb9 hbox; have z9_0 := blk_frozen B9.out 0; have z9_1 := blk_frozen B9.out 1; have z9_2 := blk_frozen B9.out 2; have c9_0 : wn.cell? ⟨g9, 0, none⟩ = some (.int .i64 0) := (blk_cell B9.out 0).trans rfl; have c9_1 : wn.cell? ⟨g9, 1, none⟩ = some (.int .i64 0) := (blk_cell B9.out 1).trans rfl; have c9_2 : wn.cell? ⟨g9, 2, none⟩ = some (.bool false) := (blk_cell B9.out 2).trans rfl; have c9_3 : ∀ u v t, (((wn.setCell ⟨g9, 0, none⟩ u).setCell ⟨g9, 1, none⟩ v).setCell ⟨g9, 2, none⟩ t).cell? ⟨g9, 2, none⟩ = some t := fun u v t => (blk_cell (blk_put (blk_put (blk_put B9.out 0 u rfl) 1 v rfl) 2 t rfl) 2).trans rfl)
                    have HBX := below_set (j := 2) (v := .bool false) (below_set (j := 1) (v := .int .i64 xd) (below_set (j := 0) (v := .int .i64 xr) HB9.out GE9.out) GE9.out) GE9.out
                    have HA2 := Aside0.mk (HA.out.move HBX)
                    have p72 := Aside0.mk (blk_below p7.out HBX)
                    clear c9_0 c9_1 c9_2 c9_3 z9_0 z9_1 z9_2
                    go_roundg gq3
                    case measure => omega
                    case rel => exact ⟨q + 1, by go_num, ⟨by have := HQ.out; omega⟩, p72, by rw [HV.out]; exact HA2⟩
                  | true =>
                    have HV : Aside0 (toN d ⟨(a : Int), (b : Int), f2⟩ S1 (q + 1) = putS Z a q (yT d ⟨(a : Int), (b : Int), f2⟩ ⟨xr, xd, true⟩)) := ⟨by
                      rw [HZ.out]; unfold toStep
                      rw [if_pos]
                      · rw [Int.toNat_natCast, Int.toNat_natCast, ← HXX.out]
                      · show (Z.1 (b : Int).toNat q).f = true; rw [Int.toNat_natCast, ← HXX.out]⟩
                    clear HZ HXX
                    go_wp2_with ((with_reducible refine gate_dst (N := 9) rfl ?_); refine box_event ?hg (N := 9) ?hd (cs := #[.int .i64 0, .int .i64 0, .bool false]) (t := 77) ?hr ?_; (case hd => rfl); (case hg => rfl); (case hr => first | (go_simp; done) | (go_simp; rfl)); intro g9 hg wn hbox hb9; have B9 := Aside0.mk hbox; have HB9 := Aside0.mk hb9; have GE9 := Aside0.mk (show wr.heap.size ≤ g9 by rw [hg]; exact Nat.le_refl _); clear hg hb9 hbox; have z9_0 := blk_frozen B9.out 0; have z9_1 := blk_frozen B9.out 1; have z9_2 := blk_frozen B9.out 2; have c9_0 : wn.cell? ⟨g9, 0, none⟩ = some (.int .i64 0) := (blk_cell B9.out 0).trans rfl; have c9_1 : wn.cell? ⟨g9, 1, none⟩ = some (.int .i64 0) := (blk_cell B9.out 1).trans rfl; have c9_2 : wn.cell? ⟨g9, 2, none⟩ = some (.bool false) := (blk_cell B9.out 2).trans rfl; have c9_3 : ∀ u v t, (((wn.setCell ⟨g9, 0, none⟩ u).setCell ⟨g9, 1, none⟩ v).setCell ⟨g9, 2, none⟩ t).cell? ⟨g9, 2, none⟩ = some t := fun u v t => (blk_cell (blk_put (blk_put (blk_put B9.out 0 u rfl) 1 v rfl) 2 t rfl) 2).trans rfl)
                    have HBX := below_set (j := 2) (v := .bool true) (below_set (j := 1) (v := .int .i64 xd) (below_set (j := 0) (v := .int .i64 xr) HB9.out GE9.out) GE9.out) GE9.out
                    have HA2 := Aside0.mk (HA.out.move HBX)
                    have p72 := Aside0.mk (blk_below p7.out HBX)
                    have p92 := Aside0.mk (blk_put (cs' := #[.int .i64 xr, .int .i64 xd, .bool true]) (blk_put (cs' := #[.int .i64 xr, .int .i64 xd, .bool false]) (blk_put (cs' := #[.int .i64 xr, .int .i64 0, .bool false]) B9.out 0 (.int .i64 xr) rfl) 1 (.int .i64 xd) rfl) 2 (.bool true) rfl)
                    clear c9_0 c9_1 c9_2 c9_3 z9_0 z9_1 z9_2 B9 HB9 GE9 HBX HA p7 cm0 cm1 cm2
                    generalize ((wn.setCell ⟨g9, 0, none⟩ (.int .i64 xr)).setCell ⟨g9, 1, none⟩ (.int .i64 xd)).setCell ⟨g9, 2, none⟩ (.bool true) = W6 at HA2 p72 p92 ⊢
                    have k7_0 : W6.cell? ⟨g7, 0, none⟩ = some (.int .i64 (a : Int)) := (blk_cell p72.out 0).trans rfl
                    have k7_2 : W6.cell? ⟨g7, 2, none⟩ = some (.int .i64 f2) := (blk_cell p72.out 2).trans rfl
                    have k9_0 : W6.cell? ⟨g9, 0, none⟩ = some (.int .i64 xr) := (blk_cell p92.out 0).trans rfl
                    have k9_1 : W6.cell? ⟨g9, 1, none⟩ = some (.int .i64 xd) := (blk_cell p92.out 1).trans rfl
                    have k1_0 : W6.cell? ⟨g1, 0, none⟩ = some (.slice (some dd) n c0) := (blk_cell HA2.out.b1 0).trans rfl
                    obtain ⟨dd', hD', dA⟩ := Kd.at_int (Kd.C_below HR0.out HA2.out.bel) (a : Int) o0 o1
                    cases hD'
                    rw [Int.toNat_natCast] at dA
                    go_still_tail 19, (by kernel_rfl)
                    change wpList _ _ _ _ _ W6.drew
                    go_wp2_with ((with_reducible refine gate_dst (N := 87) rfl ?_); (refine goesV_ (some 87) rfl rfl Try.func91 rfl (by kernel_rfl) #[.int .i64 (a : Int), .int .i64 (q : Int), .agg #[.int .i64 (wrap64 (xr + f2)), .int .i64 (wrap64 (xd + rd d (a : Int))), .bool true]] rfl rfl (by simp [Act.eval, Act.put, IntWalk.i64_left]) ?_; refine (PutClo a q (yT d ⟨(a : Int), (b : Int), f2⟩ ⟨xr, xd, true⟩) Z.2 hi0 hlq hn HA2.out.mat.drew (blk_drew HA2.out.b4) HA2.out.h4).mono ?_; rintro e w3 ⟨rfl, hp⟩; refine ⟨_, rfl, ?_⟩; have n0_ := Aside0.mk ((HA2.out.move (below_drew1 (Below.refl _ _))).putw hp); have n1_ := Aside0.mk ((HA2.out.move (below_drew1 (Below.refl _ _))).other hp (blk_drew p72.out) (by decide) (by decide)); clear HA2 p72 hp; have HA := n0_; have p7 := n1_; clear n0_ n1_ k7_0 k7_2 k9_0 k9_1 k1_0 dA))
                    go_roundg gq3
                    case measure => omega
                    case rel => exact ⟨q + 1, by go_num, ⟨by have := HQ.out; omega⟩, p7, by rw [HV.out]; exact HA⟩
                · have hq : q = n := by have := HQ.out; omega
                  have f1 : decide ((q : Int) < (n : Int)) = false := decide_eq_false (by omega)
                  have f2' : decide (q < n) = false := decide_eq_false hlq
                  have wj : IntKind.i64.wrap ((j : Int) + 1) = (j : Int) + 1 := IntWalk.i64_in _ ⟨by omega, by omega⟩
                  have HV : Aside0 (wireN d ws n (M, false) (j + 1) = toN d ⟨(a : Int), (b : Int), f2⟩ S1 q) := ⟨by rw [HX.out, hq]; unfold wireStep; rw [Int.toNat_natCast, Int.toNat_natCast, ← HS1.out]⟩
                  clear hq
                  go_wp2
                  go_roundg gq2
                  case measure => omega
                  case rel => exact ⟨j + 1, by go_num, ⟨by have := HJ.out; omega⟩, by rw [HV.out]; exact HA⟩
            · have hj : j = m := by have := HJ.out; omega
              have f1 : decide ((j : Int) < (m : Int)) = false := decide_eq_false (by omega)
              have f2 : decide (j < m) = false := decide_eq_false hlj
              have HV : Aside0 (roundM d ws n M = wireN d ws n (M, false) j) := ⟨by rw [hj, HM0.out]; rfl⟩
              clear hj
              obtain ⟨⟨M2, ch2⟩, hS2⟩ : ∃ S2 : MB, S2 = wireN d ws n (M, false) j := ⟨_, rfl⟩
              rw [← hS2] at HS HV
              have HF2 : Aside0 ((ch2 = true ∧ allF d ws n gq M2 = some R) ∨ (ch2 = false ∧ M2 = R)) := ⟨by
                have h := HAF.out
                unfold allF at h
                rw [HV.out] at h
                cases ch2 with
                | true => rw [if_pos rfl] at h; exact .inl ⟨rfl, h⟩
                | false => rw [if_neg (show ¬ (false = true) from Bool.false_ne_true)] at h; exact .inr ⟨rfl, Option.some.inj h⟩⟩
              clear hS2 HAF
              have c4 : wr.cell? ⟨g4, 0, none⟩ = some (.bool ch2) := (blk_cell HS.out.b4 0).trans rfl
              go_wp2_with ((with_reducible refine gate_dst (N := 4) rfl ?_); refine box_event ?hg (N := 4) ?hd (cs := #[.bool false]) (t := 4) ?hr ?_; (case hd => rfl); (case hg => rfl); (case hr => first | (go_simp; done) | (go_simp; rfl)); intro g5 hg wn hbox hb5; have GE5 := Aside0.mk (show w.heap.size ≤ g5 by rw [hg]; exact below_size HS.out.bel); have B5 := Aside0.mk hbox; have HA5 := Aside0.mk (HS.out.move hb5); clear hg hb5 hbox; have z5 := blk_frozen B5.out 0; have c5 : wn.cell? ⟨g5, 0, none⟩ = some (.bool false) := (blk_cell B5.out 0).trans rfl)
              go_roundg gq
              case measure => omega
              case rel => exact ⟨g5, (M2, ch2), rfl, HF2, ⟨⟨blk_far HA5.out.b1 (p := ⟨g5, 0, none⟩) (blk_ne HA5.out.b1 B5.out (by decide)) _, HA5.out.mat.far B5.out (by decide) (by decide) (by decide) 0 _, blk_put B5.out 0 _ rfl, GE5.out, HA5.out.bel.setCell GE5.out _⟩⟩⟩
end Go.Proofs.Ytojpibpjieanhaa.X
end
section
/- The program's allBetween: what it answers. Conditions: wires lead from vertices to vertices. -/
namespace Go.Proofs.Ytojpibpjieanhaa.X
open Go.RowKit Go.Proofs.YtojpibpjieanhaaW.PrintWords Go.Proofs.YtojpibpjieanhaaW.PrintLast Go.Proofs.YtojpibpjieanhaaW.PrintMore
set_option linter.unusedVariables false
set_option linter.unusedSimpArgs false
def toS (x : Bt) : S77 := ⟨x.r, x.d, x.f⟩
def rowS (n : Nat) (M : Nat → Nat → Bt) (i : Nat) : List S77 := (List.range n).map fun j => toS (M i j)
def rowsS (n : Nat) (M : Nat → Nat → Bt) : List (List S77) := (List.range n).map fun i => rowS n M i
theorem rowS_get (n : Nat) (M : Nat → Nat → Bt) (i j : Nat) (hj : j < n) : (rowS n M i)[j]? = some (toS (M i j)) := by simp [rowS, hj]
theorem rowsS_get (n : Nat) (M : Nat → Nat → Bt) (i : Nat) (hi : i < n) : (rowsS n M)[i]? = some (rowS n M i) := by simp [rowsS, hi]
theorem three_at (cs : List Value) (j : Nat) (u v t : Value) (h0 : cs[j * 3]? = some u) (h1 : cs[j * 3 + 1]? = some v) (h2 : cs[j * 3 + 2]? = some t) : (cs.drop (j * 3)).take 3 = [u, v, t] := by
  apply List.ext_getElem?
  intro i
  rw [List.getElem?_take]
  rcases i with _ | _ | _ | i
  · rw [if_pos (by omega), List.getElem?_drop]; simpa using h0
  · rw [if_pos (by omega), List.getElem?_drop]; simpa using h1
  · rw [if_pos (by omega), List.getElem?_drop]; simpa using h2
  · rw [if_neg (by omega)]; rfl
theorem MatW.row_R {B n : Nat} {w : World} {g3 GR : Nat} {Gs : Nat → Nat} {cR : Nat} {M : Nat → Nat → Bt} (h : MatW B n w g3 GR Gs cR M) (hn : n ≤ maxLen) (ok : Nat → Prop) (i : Nat) (hi : i < n) (hok : ok (Gs i)) : Kd.R k77 77 w B ok (.slice (some ⟨Gs i, 0, none⟩) n n) (rowS n M i) := by
  obtain ⟨cells, q1, q2, q3⟩ := h.blk i hi
  have hl : (rowS n M i).length = n := by simp [rowS]
  refine ⟨fun k hk => ?_, cells.toList, ⟨?_, ?_⟩, ?_, ?_⟩
  · have : Gs i = k := by simpa [Value.ownBlock] using hk
    rw [← this]; exact hok
  · rw [hl, Array.length_toList]; exact q2
  · rw [hl]
    refine .inr ⟨Gs i, n, cells, rfl, h.hs i hi, q1, Nat.le_refl _, hn, q2, ?_⟩
    show cells.toList.take (n * 3) = cells.toList
    rw [← q2, ← Array.length_toList, List.take_length]
  · rw [hl, Array.length_toList]; exact q2
  · intro j p hp
    have hj : j < n := by
      obtain ⟨hh, _⟩ := List.getElem?_eq_some_iff.1 hp
      omega
    rw [rowS_get n M i j hj] at hp
    obtain rfl := Option.some.inj hp
    obtain ⟨k0, k1, k2⟩ := q3 j hj
    have e := three_at cells.toList j _ _ _ (by rw [Array.getElem?_toList]; exact k0) (by rw [Array.getElem?_toList]; exact k1) (by rw [Array.getElem?_toList]; exact k2)
    show k77.M _ _ _ _ ((cells.toList.drop (j * 3)).take 3)
    rw [e]
    exact k77_mkM _ _ _ _
open Classical in
theorem MatW.to_S {B n : Nat} {w : World} {g3 GR : Nat} {Gs : Nat → Nat} {cR : Nat} {M : Nat → Nat → Bt} (h : MatW B n w g3 GR Gs cR M) (hn : n ≤ maxLen) : Kd.S (Kd.slice 77 k77) 78 w B (fun _ => True) (.slice (some ⟨GR, 0, none⟩) n cR) (rowsS n M) := by
  obtain ⟨cells, q1, ⟨q2, q3, q4⟩, q5⟩ := h.row
  have hl : (rowsS n M).length = n := by simp [rowsS]
  have hz : (rowsS n M).zipIdx.length = n := by rw [List.length_zipIdx, hl]
  have hv : cells.toList.take n = rowVals n Gs n := by
    apply List.ext_getElem?
    intro i
    rw [List.getElem?_take]
    by_cases hi : i < n
    · rw [if_pos hi, Array.getElem?_toList, q5 i hi]
      simp [rowVals, hi]
    · rw [if_neg hi, List.getElem?_eq_none (by rw [rowVals_len]; omega)]
  refine ⟨fun k => if hk : ∃ i, i < n ∧ Gs i = k then hk.choose else 0, fun _ _ => trivial, rowVals n Gs n, ⟨?_, ?_⟩, ?_, ?_⟩
  · rw [hz, rowVals_len]; simp [Kd.slice, Kd.tag]
  · rw [hz]
    refine .inr ⟨GR, cR, cells, rfl, h.hR, q1, q3, q4, ?_, ?_⟩
    · show cells.size = cR * 1
      omega
    · show cells.toList.take (n * 1) = _
      rw [Nat.mul_one]; exact hv
  · rw [hz, rowVals_len]; simp [Kd.slice, Kd.tag]
  · intro j p hp
    have hj : j < n := by
      obtain ⟨hh, _⟩ := List.getElem?_eq_some_iff.1 hp
      omega
    rw [List.getElem?_zipIdx, rowsS_get n M j hj, Nat.zero_add] at hp
    obtain rfl := Option.some.inj hp
    have hf : (if hk : ∃ i, i < n ∧ Gs i = Gs j then hk.choose else 0) = j := by
      have hk : ∃ i, i < n ∧ Gs i = Gs j := ⟨j, hj, rfl⟩
      rw [dif_pos hk]
      exact h.inj _ _ hk.choose_spec.1 hj hk.choose_spec.2
    refine ⟨.slice (some ⟨Gs j, 0, none⟩) n n, ?_, h.row_R hn _ j hj ⟨⟨trivial, ?_⟩, hf⟩⟩
    · show ((rowVals n Gs n).drop (j * 1)).take 1 = _
      rw [Nat.mul_one]
      have e : (rowVals n Gs n)[j]? = some (.slice (some ⟨Gs j, 0, none⟩) n n) := by simp [rowVals, hj]
      obtain ⟨hh, he⟩ := List.getElem?_eq_some_iff.1 e
      rw [List.drop_eq_getElem_cons hh, he]; rfl
    · obtain ⟨cj, r1, _⟩ := h.blk j hj
      have := blk_ne r1 q1 (by decide)
      simpa [Value.ownBlock] using this
instance (l0 : List Int) (l1 : List S55) : Decidable (∀ w ∈ l1, WireIn l0.length w) := List.decidableBAll _ l1
def impl_Flow_allBetween.f (k : Nat) (l0 : List Int) (l1 : List S55) : Option (List (List S77)) :=
  if 1 ≤ l0.length ∧ l0.length ≤ 1000000 ∧ l1.length ≤ 1000000 ∧ ∀ w ∈ l1, WireIn l0.length w then (allF l0 l1 l0.length k (fun _ _ => zB)).bind fun M => some (rowsS l0.length M) else none
theorem impl_Flow_allBetween.calls (k : Nat) (A0_0 : Option Addr) (c0_0 : Nat) (l0_0 : List Int) (A0_1 : Option Addr) (c0_1 : Nat) (l0_1 : List (S55)) (r : List (List S77)) (w : World) (hr0_0 : Kd.C (Kd.int .i64) w A0_0 l0_0.length l0_0) (hc0_0 : l0_0.length ≤ c0_0) (hr0_1 : Kd.C k55 w A0_1 l0_1.length l0_1) (hc0_1 : l0_1.length ≤ c0_1) (h : impl_Flow_allBetween.f k l0_0 l0_1 = some r) :
    Calls Try.prog 62 #[.agg #[.slice A0_0 l0_0.length c0_0, .slice A0_1 l0_1.length c0_1]] w fun e w' => ∃ v0_ : Value, e = .returned (v0_) ∧ Kd.S (Kd.slice 77 k77) 78 w' w.heap.size (fun _ => True) v0_ r ∧ Below w.heap.size w w' := by
  unfold impl_Flow_allBetween.f at h
  by_cases hc : 1 ≤ l0_0.length ∧ l0_0.length ≤ 1000000 ∧ l0_1.length ≤ 1000000 ∧ ∀ w ∈ l0_1, WireIn l0_0.length w
  · rw [if_pos hc] at h
    obtain ⟨M, hM, h⟩ := Option.bind_eq_some_iff.mp h
    obtain rfl := Option.some.inj h
    obtain ⟨h1, h2, h3, h4⟩ := hc
    refine (all_walk A0_0 c0_0 l0_0 A0_1 c0_1 l0_1 l0_0.length l0_1.length rfl rfl h1 h2 h3 (fun j hj => ?_) w hr0_0 hr0_1 k M hM).mono ?_
    · refine h4 _ ?_
      unfold rd_T55
      rw [Int.toNat_natCast, List.getD_eq_getElem?_getD, List.getElem?_eq_getElem hj]
      exact List.getElem_mem hj
    · rintro e w' ⟨GR, cR, g3, Gs, rfl, hm, hb⟩
      exact ⟨_, rfl, hm.to_S (by simp only [maxLen]; omega), hb⟩
  · rw [if_neg hc] at h; cases h
end Go.Proofs.Ytojpibpjieanhaa.X
end
section
-- Written by a program of this session out of the kit's print of the loaded functions: a plain function of a Go function, and its contract.
namespace Go.Proofs.Ytojpibpjieanhaa.X
open Go.RowKit Go.Proofs.YtojpibpjieanhaaW.PrintWords Go.Proofs.YtojpibpjieanhaaW.PrintLast Go.Proofs.YtojpibpjieanhaaW.PrintMore
attribute [local go_sem] max2_int min2_int max_two min_two max_three min_three max_four min_four   -- for this text's walks alone
set_option linter.unusedVariables false
set_option linter.unusedSimpArgs false
/-! ### spec_l00Has: function 100 -/
def spec_l00Has.l0 : Nat → List Int → Int → Int → Option (Bool)
  | 0, _, _, _ => none
  | k + 1, x0, x1, x5 => if x5 < (x0.length : Int) then (if 0 ≤ x5 then (if (rd x0 x5) = x1 then (some true) else (spec_l00Has.l0 k x0 x1 (wrap64 (x5 + 1)))) else (none)) else (some false)
def spec_l00Has.f (k : Nat) (l0 : List Int) (a1 : Int) : Option (Bool) := spec_l00Has.l0 k l0 a1 0
set_option maxHeartbeats 8000000 in
set_option maxRecDepth 100000 in
theorem spec_l00Has.calls (k : Nat) (A0 : Option Addr) (c0 : Nat) (l0 : List Int) (a1 : Int) (r : Bool) (w : World) (hr0 : Kd.C (Kd.int .i64) w A0 l0.length l0) (hc0 : l0.length ≤ c0) (h : spec_l00Has.f k l0 a1 = some r) :
    Calls Try.prog 100 #[.slice A0 l0.length c0, .int .i64 a1] w fun e w' => e = .returned (.bool r) ∧ Drawn0 w w' := by
  have HR0 := Aside0.mk hr0
  have HC0 := Aside0.mk hc0
  clear hr0 hc0
  have H : (spec_l00Has.l0 k l0 a1 0) = some r := h
  clear h
  have H' := Aside0.mk H
  clear H
  go_enter Try.func100, Try.ntmps100
  go_wp2
  go_loopg [5] k (fun kq v5 w' => ∃ (x5_1 : Int), v5 = .int .i64 x5_1 ∧ Aside0 (spec_l00Has.l0 kq l0 a1 x5_1 = some r) ∧ Aside0 (kq ≤ k) ∧ Drawn0 w w')
  case atStart => exact ⟨(0), (by first | rfl | (simp; done) | (simp [*]; done)), H', ⟨Nat.le_refl _⟩, by repeat (first | exact Drawn0.refl _ | apply Drawn0.step)⟩
  case round =>
    clear H'
    try clear c1
    try clear p2
    obtain ⟨x5_1, rfl, HA, HK1, ⟨m1, rfl⟩⟩ := hrel
    cases gk with
    | zero => exact absurd HA.out (by simp [spec_l00Has.l0])
    | succ k1 =>
      have H := HA.out
      clear HA
      simp only [spec_l00Has.l0] at H
      by_cases c3 : x5_1 < (l0.length : Int)
      · rw [if_pos c3] at H
        have c3b0 : decide (x5_1 < (l0.length : Int)) = true := decide_eq_true c3
        clear c3
        by_cases c4 : 0 ≤ x5_1
        · rw [if_pos c4] at H
          have c4b0 : decide (0 ≤ x5_1) = true := decide_eq_true c4
          clear c4
          by_cases c5 : (rd l0 x5_1) = a1
          · rw [if_pos c5] at H
            have c5b0 : ((rd l0 x5_1) == a1) = true := beq_iff_eq.mpr c5
            have c5b1 : ((rd l0 x5_1) != a1) = false := bne_eq_false_iff_eq.mpr c5
            clear c5
            obtain rfl := Option.some.inj H
            have p181 : 0 ≤ (x5_1 : Int) := of_decide_eq_true (by first | (with_reducible assumption) | assumption)
            have q181 : x5_1 < (l0.length : Int) := of_decide_eq_true (by first | (with_reducible assumption) | assumption)
            obtain ⟨ad181, e181, hx181_0⟩ := Kd.at_int HR0.out x5_1 p181 q181
            cases e181
            replace p181 := eq_true p181
            replace q181 := eq_true q181
            go_wp2
            go_ret
            exact ⟨by first | rfl | (simp; done) | (simp [*]; done), by repeat (first | exact Drawn0.refl _ | apply Drawn0.step)⟩
          · rw [if_neg c5] at H
            have c5b0 : ((rd l0 x5_1) == a1) = false := beq_eq_false_iff_ne.mpr c5
            have c5b1 : ((rd l0 x5_1) != a1) = true := bne_iff_ne.mpr c5
            have H' := Aside0.mk H
            clear H
            have p181 : 0 ≤ (x5_1 : Int) := of_decide_eq_true (by first | (with_reducible assumption) | assumption)
            have q181 : x5_1 < (l0.length : Int) := of_decide_eq_true (by first | (with_reducible assumption) | assumption)
            obtain ⟨ad181, e181, hx181_0⟩ := Kd.at_int HR0.out x5_1 p181 q181
            cases e181
            replace p181 := eq_true p181
            replace q181 := eq_true q181
            go_wp2
            go_roundg k1
            case measure => have := HK1.out; omega
            case rel => exact ⟨(wrap64 (x5_1 + 1)), (by first | rfl | (simp; done) | (simp [*]; done)), H', ⟨by have := HK1.out; omega⟩, by repeat (first | exact Drawn0.refl _ | apply Drawn0.step)⟩
        · rw [if_neg c4] at H
          exact absurd H (by simp)
      · rw [if_neg c3] at H
        have c3b0 : decide (x5_1 < (l0.length : Int)) = false := decide_eq_false c3
        clear c3
        obtain rfl := Option.some.inj H
        go_wp2
        go_ret
        exact ⟨by first | rfl | (simp; done) | (simp [*]; done), by repeat (first | exact Drawn0.refl _ | apply Drawn0.step)⟩
end Go.Proofs.Ytojpibpjieanhaa.X
end
