/- My own texts of this seat and its words, merged: XFun, CGraph, CCons, Xp0, XClone, Xp17, Xp18, Xp19, XMarks, Xp92, XMat, CWay, XPut, XSlow. Conditions: as each lemma says. -/
import Derived.Test.YtojpibpjieanhaaProg
import Derived.Below
import Derived.Deep.Draws
import Derived.Deep.AppendLies
import Derived.OwnWalk
import Derived.Laws.OwnMore
import Derived.Deep.OwnRows
import Derived.Tactics
import Derived.Lib.ConvBytes
import Derived.Laws.Slices
import Derived.WalkKit
import Derived.KernelRfl
import Derived.RowKit3
import Derived.Deep.LoopGhost
import Derived.Deep.QuietTactic
import Derived.BigQuiet
import Derived.Deep.DeepCutAuto
import Derived.Deep.CutBlock
import Derived.OrdersHeld
import Derived.RowKit
import Derived.Test.YtojpibpjieanhaaM0
import Derived.Test.YtojpibpjieanhaaM1
import Derived.Test.YtojpibpjieanhaaM5
import Derived.Test.YtojpibpjieanhaaM11
import Derived.Maps.AppendAt
import Derived.Laws.BytesArg
import Derived.Laws.MakeOwn
import Derived.WideLaws
import Derived.Deep.RegionHeld3
import Derived.Laws.Rows
import Derived.Lib.AppendStr
import Derived.ArgAppend
import Derived.Laws.IdiomCopy
import Derived.Laws.BitsLemmas
import Derived.Test.YtojpibpjieanhaaM12
import Derived.Test.YtojpibpjieanhaaM13
import Derived.Test.YtojpibpjieanhaaM6
import Derived.Test.YtojpibpjieanhaaM2
import Derived.Test.YtojpibpjieanhaaM3
import Derived.Test.YtojpibpjieanhaaM7
import Derived.Test.YtojpibpjieanhaaM4
import Derived.Test.YtojpibpjieanhaaM8
import Derived.Test.YtojpibpjieanhaaM9
import Derived.Test.YtojpibpjieanhaaM14
import Derived.Test.YtojpibpjieanhaaM15
import Derived.Test.YtojpibpjieanhaaM16
import Derived.Test.YtojpibpjieanhaaM17
import Derived.Test.YtojpibpjieanhaaM18
import Derived.Test.YtojpibpjieanhaaM19
import Derived.Test.YtojpibpjieanhaaM20
import Derived.Test.YtojpibpjieanhaaM10
import Derived.WalkSpells
import Derived.RegionTactic
import Derived.BigRegion
import Derived.Deep.RegionLaw
import Derived.StillTailTactics
section
namespace Go.Proofs.Ytojpibpjieanhaa.X
open Go.RowKit Go.Proofs.YtojpibpjieanhaaW.PrintWords Go.Proofs.YtojpibpjieanhaaW.PrintLast Go.Proofs.YtojpibpjieanhaaW.PrintMore
theorem to_below_d {w w' : World} (h : Drawn0 w w') : Below w.heap.size w w' := h.below
theorem to_below_b {w w' : World} (h : Below w.heap.size w w') : Below w.heap.size w w' := h
section
variable {P : Program} {ops : Array Oper} {Q : Exit → Act → World → Prop}
theorem goesV_ {rest : List Oper} {oi : Oper} {a : Act} {w : World} (N : Option Tmp) (hd : oi.dst = N) (hg : oi.guard = none) {f : FuncId} {fn : Func} {caps : Array Value} {x : Operand} {zs : Array Operand} {ts : Array TypeId} (hf : P.funcs[f]? = some fn) (hname : (fn.name == "runtime.NumGoroutine") = false) (hb : fn.body.isSome = true) (args : Array Value)
    (hop : oi.op = .call { callee := .value x, args := zs, argTypes := ts }) (hx : a.eval x = .func (.func f) #[] caps) (hargs : zs.map a.eval = args)
    (h : Calls P f (args ++ caps) w fun e w' => ∃ v, e = .returned v ∧ wpList P ops Q rest (a.put N v) w') : wpList P ops Q (oi :: rest) a w := by
  refine wpList_plain hg fun K hK => ?_
  have he := enters_ hf hname hb (args ++ caps) w
  have hrun : (execOp a.eval oi).run P w = .ok (.enter f (args ++ caps)) w := by
    unfold execOp
    simp [hop, resolve, Deferred.ofValue, invoke, hx, hargs, he]
  unfold Oper.wp
  rw [hrun, Oper.upon_enter]
  refine h.mono fun e w'' hh => ?_
  obtain ⟨v, rfl, hk⟩ := hh
  subst hd
  exact hK _ _ hk
end
structure CloIs (P : Program) (f : Nat) (fn : Func) : Prop where
  hf : P.funcs[f]? = some fn
  hname : (fn.name == "runtime.NumGoroutine") = false
  hb : fn.body.isSome = true
end Go.Proofs.Ytojpibpjieanhaa.X
end
section
namespace Go.Proofs.Ytojpibpjieanhaa.FlowMath
set_option linter.unusedVariables false
set_option linter.unusedSimpArgs false
theorem pigeon : ∀ (n : Nat) (f : Nat → Nat), (∀ i, i ≤ n → f i < n) → ∃ i j, i < j ∧ j ≤ n ∧ f i = f j := by
  intro n
  induction n with
  | zero => intro f h; exact absurd (h 0 (Nat.le_refl _)) (Nat.not_lt_zero _)
  | succ n ih =>
    intro f h
    by_cases hex : ∃ i, i ≤ n ∧ f i = f (n + 1)
    · obtain ⟨i, hi, e⟩ := hex
      exact ⟨i, n + 1, by omega, Nat.le_refl _, e⟩
    · have hne : ∀ i, i ≤ n → f i ≠ f (n + 1) := fun i hi e => hex ⟨i, hi, e⟩
      have hc := h (n + 1) (Nat.le_refl _)
      obtain ⟨i, j, hij, hj, e⟩ := ih (fun i => if f i = n then f (n + 1) else f i) (by
        intro i hi
        have h1 := h i (by omega)
        have h2 := hne i hi
        show (if f i = n then f (n + 1) else f i) < n
        split <;> omega)
      refine ⟨i, j, hij, by omega, ?_⟩
      have h1 := hne i (by omega)
      have h2 := hne j hj
      have e' : (if f i = n then f (n + 1) else f i) = (if f j = n then f (n + 1) else f j) := e
      split at e' <;> split at e' <;> omega
inductive Plus (E : Nat → Nat → Prop) : Nat → Nat → Prop
  | one {a b} : E a b → Plus E a b
  | step {a b c} : E a b → Plus E b c → Plus E a c
theorem Plus.trans {E : Nat → Nat → Prop} {a b c : Nat} (h : Plus E a b) (k : Plus E b c) : Plus E a c := by
  induction h with
  | one e => exact .step e k
  | step e _ ih => exact .step e (ih k)
theorem Plus.snoc {E : Nat → Nat → Prop} {a b c : Nat} (h : Plus E a b) (k : E b c) : Plus E a c := h.trans (.one k)
theorem cycle_of_back (E : Nat → Nat → Prop) (n : Nat) (S : Nat → Prop) (hS : ∀ v, S v → v < n ∧ ∃ u, S u ∧ E u v) (v0 : Nat) (h0 : S v0) : ∃ v, S v ∧ Plus E v v := by
  classical
  let p : {v // S v} → {v // S v} := fun v => ⟨Classical.choose (hS v.1 v.2).2, (Classical.choose_spec (hS v.1 v.2).2).1⟩
  have hp : ∀ v, E (p v).1 v.1 := fun v => (Classical.choose_spec (hS v.1 v.2).2).2
  let s : Nat → {v // S v} := fun k => Nat.rec ⟨v0, h0⟩ (fun _ x => p x) k
  have hs : ∀ k, E (s (k + 1)).1 (s k).1 := fun k => hp (s k)
  have hplus : ∀ d i, Plus E (s (i + d + 1)).1 (s i).1 := by
    intro d
    induction d with
    | zero => intro i; exact .one (hs i)
    | succ d ih => intro i; exact .step (hs (i + d + 1)) (ih i)
  obtain ⟨i, j, hij, _, e⟩ := pigeon n (fun k => (s k).1) (fun i _ => (hS _ (s i).2).1)
  refine ⟨(s i).1, (s i).2, ?_⟩
  have h := hplus (j - i - 1) i
  rw [show i + (j - i - 1) + 1 = j by omega] at h
  have e' : (s i).1 = (s j).1 := e
  rw [← e'] at h
  exact h
noncomputable def cnt (p : Nat → Prop) : Nat → Nat
  | 0 => 0
  | n + 1 => open Classical in cnt p n + if p n then 1 else 0
theorem cnt_le (p : Nat → Prop) (n : Nat) : cnt p n ≤ n := by
  induction n with
  | zero => exact Nat.le_refl _
  | succ n ih => unfold cnt; split <;> omega
theorem cnt_mono {p q : Nat → Prop} (n : Nat) (h : ∀ i, i < n → p i → q i) : cnt p n ≤ cnt q n := by
  induction n with
  | zero => exact Nat.le_refl _
  | succ n ih =>
    have := ih (fun i hi => h i (by omega))
    unfold cnt
    by_cases hp : p n
    · rw [if_pos hp, if_pos (h n (by omega) hp)]; omega
    · rw [if_neg hp]; omega
theorem cnt_lt {p q : Nat → Prop} (n : Nat) (h : ∀ i, i < n → p i → q i) (v : Nat) (hv : v < n) (hq : q v) (hp : ¬ p v) : cnt p n < cnt q n := by
  induction n with
  | zero => omega
  | succ n ih =>
    unfold cnt
    by_cases e : v = n
    · subst e
      have := cnt_mono (p := p) (q := q) v (fun i hi => h i (by omega))
      rw [if_neg hp, if_pos hq]; omega
    · have := ih (fun i hi => h i (by omega)) (by omega)
      by_cases hp' : p n
      · rw [if_pos hp', if_pos (h n (by omega) hp')]; omega
      · rw [if_neg hp']; omega
theorem cnt_lt_n {p : Nat → Prop} (n v : Nat) (hv : v < n) (hp : ¬ p v) : cnt p n < n := by
  have h1 := cnt_lt (p := p) (q := fun _ => True) n (fun _ _ _ => trivial) v hv trivial hp
  have h2 := cnt_le (fun _ => True) n
  omega
noncomputable def rank (E : Nat → Nat → Prop) (n v : Nat) : Nat := cnt (fun u => Plus E v u) n
theorem rank_lt {E : Nat → Nat → Prop} {n : Nat} (hE : ∀ a b, E a b → a < n ∧ b < n) (hac : ∀ v, ¬ Plus E v v) {v u : Nat} (h : E v u) : rank E n u < rank E n v :=
  cnt_lt n (fun _ _ k => .step h k) u (hE _ _ h).2 (.one h) (hac u)
theorem rank_n {E : Nat → Nat → Prop} {n : Nat} (hac : ∀ v, ¬ Plus E v v) {v : Nat} (hv : v < n) : rank E n v < n := cnt_lt_n n v hv (hac v)
theorem Plus.last {E : Nat → Nat → Prop} {a c : Nat} (h : Plus E a c) : ∃ b, E b c ∧ (b = a ∨ Plus E a b) := by
  induction h with
  | one e => exact ⟨_, e, .inl rfl⟩
  | step e k ih =>
    obtain ⟨b, hb, hh⟩ := ih
    refine ⟨b, hb, .inr ?_⟩
    rcases hh with rfl | hh
    · exact .one e
    · exact .step e hh
theorem ring_back {E : Nat → Nat → Prop} {v : Nat} (h : Plus E v v) : ∃ u, Plus E u u ∧ E u v := by
  obtain ⟨b, hb, hh⟩ := h.last
  rcases hh with rfl | hh
  · exact ⟨b, h, hb⟩
  · exact ⟨b, .step hb hh, hb⟩
theorem kahn (E : Nat → Nat → Prop) (n : Nat) (hE : ∀ a b, E a b → a < n ∧ b < n) (L : Nat → Nat → Prop) (h0 : ∀ v, v < n → L 0 v) (hlt : ∀ k v, L k v → v < n)
    (hsub : ∀ k v, L (k + 1) v → L k v) (hled : ∀ k v, L (k + 1) v → ∃ u, L k u ∧ E u v) (hkeep : ∀ k (C : Nat → Prop), (∀ v, C v → L k v) → (∀ v, C v → ∃ u, C u ∧ E u v) → ∀ v, C v → L (k + 1) v) :
    (∃ v, L n v) ↔ ∃ v, Plus E v v := by
  constructor
  · rintro ⟨v, hv⟩
    by_cases hst : ∃ k, k < n ∧ ∀ v, L k v → L (k + 1) v
    · obtain ⟨k, hk, hs⟩ := hst
      have hdown : ∀ d, L (k + d) v → L k v := by
        intro d
        induction d with
        | zero => exact id
        | succ d ih => exact fun h => ih (hsub _ _ h)
      have hkv : L k v := hdown (n - k) (by rw [show k + (n - k) = n by omega]; exact hv)
      obtain ⟨u, _, hu⟩ := cycle_of_back E n (L k) (fun x hx => ⟨hlt k x hx, hled k x (hs x hx)⟩) v hkv
      exact ⟨u, hu⟩
    · have hlow : ∀ k, k ≤ n → cnt (L k) n + k ≤ n := by
        intro k
        induction k with
        | zero => intro _; have := cnt_le (L 0) n; omega
        | succ k ih =>
          intro hk
          have h1 := ih (by omega)
          have hns : ¬ ∀ v, L k v → L (k + 1) v := fun h => hst ⟨k, by omega, h⟩
          obtain ⟨x, hx⟩ := Classical.not_forall.mp hns
          obtain ⟨hx1, hx2⟩ := Classical.not_imp.mp hx
          have := cnt_lt n (fun i _ h => hsub k i h) x (hlt k x hx1) hx1 hx2
          omega
      have h1 := hlow n (Nat.le_refl _)
      have h2 := cnt_lt (p := fun _ => False) (q := L n) n (fun _ _ h => h.elim) v (hlt n v hv) hv (fun h => h)
      omega
  · rintro ⟨v, hv⟩
    have hall : ∀ k v, Plus E v v → L k v := by
      intro k
      induction k with
      | zero => intro v hv; obtain ⟨u, _, hu⟩ := ring_back hv; exact h0 v (hE _ _ hu).2
      | succ k ih => exact fun v hv => hkeep k (fun x => Plus E x x) ih (fun x hx => ring_back hx) v hv
    exact ⟨v, hall n v hv⟩
def relax (d : Nat → Int) (out : Nat → Int) (e : Nat × Nat) : Nat → Int := fun v => if v = e.1 then max (out e.1) (d e.1 + out e.2) else out v
def rnd (d : Nat → Int) (es : List (Nat × Nat)) (out : Nat → Int) : Nat → Int := es.foldl (relax d) out
structure IsSlow (d : Nat → Int) (es : List (Nat × Nat)) (D : Nat → Int) : Prop where
  own : ∀ v, d v ≤ D v
  far : ∀ e, e ∈ es → d e.1 + D e.2 ≤ D e.1
  att : ∀ v, D v = d v ∨ ∃ b, (v, b) ∈ es ∧ D v = d v + D b
theorem fold_max (d : Nat → Int) (D : Nat → Int) (v : Nat) : ∀ (es : List (Nat × Nat)) (m : Int), m ≤ es.foldl (fun m e => if e.1 = v then max m (d v + D e.2) else m) m ∧
    (∀ e, e ∈ es → e.1 = v → d v + D e.2 ≤ es.foldl (fun m e => if e.1 = v then max m (d v + D e.2) else m) m) ∧
    (es.foldl (fun m e => if e.1 = v then max m (d v + D e.2) else m) m = m ∨ ∃ b, (v, b) ∈ es ∧ es.foldl (fun m e => if e.1 = v then max m (d v + D e.2) else m) m = d v + D b) := by
  intro es
  induction es with
  | nil => intro m; exact ⟨Int.le_refl _, by simp, .inl rfl⟩
  | cons e es ih =>
    intro m
    rw [List.foldl_cons]
    obtain ⟨h1, h2, h3⟩ := ih (if e.1 = v then max m (d v + D e.2) else m)
    refine ⟨?_, ?_, ?_⟩
    · refine Int.le_trans ?_ h1; split <;> omega
    · intro x hx hv
      rcases List.mem_cons.mp hx with rfl | hx
      · refine Int.le_trans ?_ h1; rw [if_pos hv]; omega
      · exact h2 x hx hv
    · rcases h3 with h3 | ⟨b, hb, h3⟩
      · rw [h3]
        by_cases hv : e.1 = v
        · rw [if_pos hv]
          by_cases hm : d v + D e.2 ≤ m
          · exact .inl (by omega)
          · exact .inr ⟨e.2, by rw [← hv]; exact List.mem_cons_self .., by omega⟩
        · rw [if_neg hv]; exact .inl rfl
      · exact .inr ⟨b, List.mem_cons_of_mem _ hb, h3⟩
theorem slow_exists (d : Nat → Int) (es : List (Nat × Nat)) (r : Nat → Nat) (hr : ∀ e, e ∈ es → r e.2 < r e.1) : ∃ D, IsSlow d es D := by
  have hk : ∀ k, ∃ D : Nat → Int, (∀ v, r v < k → d v ≤ D v) ∧ (∀ e, e ∈ es → r e.1 < k → d e.1 + D e.2 ≤ D e.1) ∧ (∀ v, r v < k → D v = d v ∨ ∃ b, (v, b) ∈ es ∧ D v = d v + D b) := by
    intro k
    induction k with
    | zero => exact ⟨fun _ => 0, fun _ h => by omega, fun _ _ h => by omega, fun _ h => by omega⟩
    | succ k ih =>
      obtain ⟨D, h1, h2, h3⟩ := ih
      refine ⟨fun v => if r v < k then D v else es.foldl (fun m e => if e.1 = v then max m (d v + D e.2) else m) (d v), ?_, ?_, ?_⟩
      · intro v hv
        show d v ≤ if r v < k then D v else _
        split
        · exact h1 v ‹_›
        · exact (fold_max d D v es (d v)).1
      · intro e he hv
        have hb := hr e he
        show d e.1 + (if r e.2 < k then D e.2 else _) ≤ if r e.1 < k then D e.1 else _
        rw [if_pos (by omega)]
        split
        · exact h2 e he ‹_›
        · exact (fold_max d D e.1 es (d e.1)).2.1 e he rfl
      · intro v hv
        show (if r v < k then D v else _) = d v ∨ ∃ b, (v, b) ∈ es ∧ (if r v < k then D v else _) = d v + (if r b < k then D b else _)
        by_cases hvk : r v < k
        · rw [if_pos hvk]
          rcases h3 v hvk with h | ⟨b, hb, h⟩
          · exact .inl h
          · have : r b < r v := hr (v, b) hb
            exact .inr ⟨b, hb, by rw [if_pos (by omega)]; exact h⟩
        · rw [if_neg hvk]
          rcases (fold_max d D v es (d v)).2.2 with h | ⟨b, hb, h⟩
          · exact .inl h
          · have : r b < r v := hr (v, b) hb
            exact .inr ⟨b, hb, by rw [if_pos (by omega)]; exact h⟩
  -- all ranks of vertices that edges name are bounded
  obtain ⟨m, hm⟩ : ∃ m, ∀ e, e ∈ es → r e.1 < m := by
    clear hk hr
    induction es with
    | nil => exact ⟨0, by simp⟩
    | cons e es ih =>
      obtain ⟨m, hm⟩ := ih
      refine ⟨max m (r e.1 + 1), fun x hx => ?_⟩
      rcases List.mem_cons.mp hx with rfl | hx
      · omega
      · have := hm x hx; omega
  obtain ⟨D, h1, h2, h3⟩ := hk m
  refine ⟨fun v => if r v < m then D v else d v, ?_, ?_, ?_⟩
  · intro v; show d v ≤ if r v < m then D v else d v
    split
    · exact h1 v ‹_›
    · omega
  · intro e he
    have ha := hm e he
    have hb := hr e he
    show d e.1 + (if r e.2 < m then D e.2 else d e.2) ≤ if r e.1 < m then D e.1 else d e.1
    rw [if_pos ha, if_pos (by omega)]; exact h2 e he ha
  · intro v
    show (if r v < m then D v else d v) = d v ∨ ∃ b, (v, b) ∈ es ∧ (if r v < m then D v else d v) = d v + (if r b < m then D b else d b)
    by_cases hv : r v < m
    · rw [if_pos hv]
      rcases h3 v hv with h | ⟨b, hb, h⟩
      · exact .inl h
      · have : r b < r v := hr (v, b) hb
        exact .inr ⟨b, hb, by rw [if_pos (by omega)]; exact h⟩
    · rw [if_neg hv]; exact .inl rfl
def Btw (d D out : Nat → Int) : Prop := ∀ v, d v ≤ out v ∧ out v ≤ D v
theorem btw_relax {d D out : Nat → Int} {es : List (Nat × Nat)} (hD : IsSlow d es D) (h : Btw d D out) (e : Nat × Nat) (he : e ∈ es) : Btw d D (relax d out e) := by
  intro v
  unfold relax
  split
  · rename_i hv
    subst hv
    have h1 := h e.1
    have h2 := h e.2
    have h3 := hD.far e he
    omega
  · exact h v
theorem relax_up {d out : Nat → Int} (e : Nat × Nat) (v : Nat) : out v ≤ relax d out e v := by unfold relax; split <;> (try subst_vars) <;> omega
theorem fold_btw {d D : Nat → Int} {es : List (Nat × Nat)} (hD : IsSlow d es D) : ∀ (l : List (Nat × Nat)) (out : Nat → Int), (∀ e, e ∈ l → e ∈ es) → Btw d D out → Btw d D (l.foldl (relax d) out) ∧ ∀ v, out v ≤ l.foldl (relax d) out v := by
  intro l
  induction l with
  | nil => intro out _ h; exact ⟨h, fun _ => Int.le_refl _⟩
  | cons e l ih =>
    intro out hl h
    obtain ⟨h1, h2⟩ := ih (relax d out e) (fun x hx => hl x (List.mem_cons_of_mem _ hx)) (btw_relax hD h e (hl e (List.mem_cons_self ..)))
    exact ⟨h1, fun v => Int.le_trans (relax_up e v) (h2 v)⟩
theorem fold_reach {d D : Nat → Int} {es : List (Nat × Nat)} (hD : IsSlow d es D) (v b : Nat) (hvb : D v = d v + D b) : ∀ (l : List (Nat × Nat)) (out : Nat → Int), (∀ e, e ∈ l → e ∈ es) → Btw d D out → out b = D b → (v, b) ∈ l → l.foldl (relax d) out v = D v := by
  intro l
  induction l with
  | nil => intro out _ _ _ hm; simp at hm
  | cons e l ih =>
    intro out hl h hb hm
    rw [List.foldl_cons]
    have hB := btw_relax hD h e (hl e (List.mem_cons_self ..))
    have hF := fold_btw hD l (relax d out e) (fun x hx => hl x (List.mem_cons_of_mem _ hx)) hB
    rcases List.mem_cons.mp hm with rfl | hm
    · have h1 : relax d out (v, b) v = D v := by
        have := (h v).2
        unfold relax; rw [if_pos rfl]; simp only; rw [hb]; omega
      have h2 := hF.2 v
      have h3 := (hF.1 v).2
      omega
    · refine ih _ (fun x hx => hl x (List.mem_cons_of_mem _ hx)) hB ?_ hm
      have h2 := relax_up (d := d) (out := out) e b
      have h3 := (hB b).2
      omega
theorem rnd_step {d D : Nat → Int} {es : List (Nat × Nat)} (hD : IsSlow d es D) (r : Nat → Nat) (hr : ∀ e, e ∈ es → r e.2 < r e.1) {out : Nat → Int} (h : Btw d D out) (k : Nat) (hk : ∀ v, r v < k → out v = D v) :
    Btw d D (rnd d es out) ∧ ∀ v, r v < k + 1 → rnd d es out v = D v := by
  have hF := fold_btw hD es out (fun _ h => h) h
  refine ⟨hF.1, fun v hv => ?_⟩
  rcases hD.att v with ha | ⟨b, hb, ha⟩
  · have h1 := (hF.1 v).1
    have h2 := (hF.1 v).2
    unfold rnd; omega
  · exact fold_reach hD v b ha es out (fun _ h => h) h (hk b (by have : r b < r v := hr (v, b) hb; omega)) hb
def rnds (d : Nat → Int) (es : List (Nat × Nat)) : Nat → (Nat → Int)
  | 0 => d
  | k + 1 => rnd d es (rnds d es k)
theorem rnds_slow {d D : Nat → Int} {es : List (Nat × Nat)} (hD : IsSlow d es D) (r : Nat → Nat) (hr : ∀ e, e ∈ es → r e.2 < r e.1) : ∀ k, Btw d D (rnds d es k) ∧ ∀ v, r v < k + 1 → rnds d es k v = D v := by
  intro k
  induction k with
  | zero =>
    refine ⟨fun v => ⟨Int.le_refl _, hD.own v⟩, fun v hv => ?_⟩
    rcases hD.att v with h | ⟨b, hb, _⟩
    · exact h.symm
    · have : r b < r v := hr (v, b) hb; omega
  | succ k ih => exact rnd_step hD r hr ih.1 (k + 1) ih.2
end Go.Proofs.Ytojpibpjieanhaa.FlowMath
end
section
namespace Go.Proofs.Ytojpibpjieanhaa.ConsMath
open Go.Proofs.Ytojpibpjieanhaa.FlowMath
set_option linter.unusedVariables false
inductive Cw (C : Nat → Nat → Int → Prop) (n : Nat) : Nat → Nat → Int → Prop
  | start {v} : v < n → Cw C n 0 v 0
  | step {m u v s x} : Cw C n m u s → C u v x → Cw C n (m + 1) v (s + x)
structure Sol (C : Nat → Nat → Int → Prop) (n : Nat) (L : Nat → Int) : Prop where
  pos : ∀ v, v < n → 0 ≤ L v
  far : ∀ u v x, C u v x → L u + x ≤ L v
variable {C : Nat → Nat → Int → Prop} {n : Nat} {L : Nat → Int}
theorem Sol.ge (h : Sol C n L) {m v : Nat} {s : Int} (hw : Cw C n m v s) : s ≤ L v := by
  induction hw with
  | start hv => exact h.pos _ hv
  | step _ hc ih => have := h.far _ _ _ hc; omega
theorem Cw.lt (hC : ∀ u v x, C u v x → u < n ∧ v < n) {m v : Nat} {s : Int} (hw : Cw C n m v s) : v < n := by
  cases hw with
  | start hv => exact hv
  | step _ hc => exact (hC _ _ _ hc).2
theorem Cw.eqv {m v : Nat} {s t : Int} (h : Cw C n m v s) (e : s = t) : Cw C n m v t := e ▸ h
theorem chain {m v : Nat} {s : Int} (h : Cw C n m v s) : ∃ (p : Nat → Nat) (q : Nat → Int), p m = v ∧ q m = s ∧ (∀ i, i ≤ m → Cw C n i (p i) (q i)) ∧ ∀ i, i < m → ∃ x, C (p i) (p (i + 1)) x ∧ q (i + 1) = q i + x := by
  induction h with
  | @start v hv =>
    refine ⟨fun _ => v, fun _ => 0, rfl, rfl, fun i hi => ?_, fun i hi => by omega⟩
    have : i = 0 := by omega
    subst this
    exact .start hv
  | @step m u v s x h hc ih =>
    obtain ⟨p, q, e1, e2, h3, h4⟩ := ih
    refine ⟨fun i => if i = m + 1 then v else p i, fun i => if i = m + 1 then s + x else q i, by simp, by simp, fun i hi => ?_, fun i hi => ?_⟩
    · by_cases e : i = m + 1
      · subst e; simp only [if_true]; exact h.step hc
      · simp only [if_neg e]; exact h3 i (by omega)
    · by_cases e : i = m
      · subst e
        refine ⟨x, ?_, ?_⟩
        · simp only [if_neg (show ¬ i = i + 1 by omega), if_true]; rw [e1]; exact hc
        · simp only [if_neg (show ¬ i = i + 1 by omega), if_true]; rw [e2]
      · obtain ⟨y, g1, g2⟩ := h4 i (by omega)
        refine ⟨y, ?_, ?_⟩
        · simp only [if_neg (show ¬ i = m + 1 by omega), if_neg (show ¬ i + 1 = m + 1 by omega)]; exact g1
        · simp only [if_neg (show ¬ i = m + 1 by omega), if_neg (show ¬ i + 1 = m + 1 by omega)]; exact g2
theorem short (hC : ∀ u v x, C u v x → u < n ∧ v < n) (hL : Sol C n L) : ∀ (m v : Nat) (s : Int), Cw C n m v s → ∃ m' s', m' < n ∧ s ≤ s' ∧ Cw C n m' v s' := by
  intro m
  induction m using Nat.strongRecOn with
  | _ m ih =>
    intro v s h
    by_cases hm : m < n
    · exact ⟨m, s, hm, Int.le_refl _, h⟩
    · obtain ⟨p, q, e1, e2, h3, h4⟩ := chain h
      obtain ⟨i, j, hij, hj, he⟩ := pigeon n p (fun i hi => (h3 i (by omega)).lt hC)
      have hseg : ∀ e, i + e ≤ m → L (p i) + (q (i + e) - q i) ≤ L (p (i + e)) := by
        intro e
        induction e with
        | zero => intro _; simp
        | succ e ihe =>
          intro hle
          obtain ⟨x, g1, g2⟩ := h4 (i + e) (by omega)
          have a1 := ihe (by omega)
          have a2 := hL.far _ _ _ g1
          rw [← Nat.add_assoc, g2]
          omega
      have hle := hseg (j - i) (by omega)
      rw [show i + (j - i) = j by omega, ← he] at hle
      have hk : ∀ k, j + k ≤ m → Cw C n (i + k) (p (j + k)) (q (j + k) - (q j - q i)) := by
        intro k
        induction k with
        | zero => intro _; have := h3 i (by omega); rw [he] at this; exact this.eqv (by simp only [Nat.add_zero]; omega)
        | succ k ihk =>
          intro hk
          obtain ⟨x, g1, g2⟩ := h4 (j + k) (by omega)
          exact ((ihk (by omega)).step g1).eqv (by rw [show j + (k + 1) = j + k + 1 by omega, g2]; omega)
      have := hk (m - j) (by omega)
      rw [show j + (m - j) = m by omega, e1, e2] at this
      obtain ⟨m', s', r1, r2, r3⟩ := ih _ (by omega) v _ this
      exact ⟨m', s', r1, by omega, r3⟩
abbrev Ed : Type := Nat × Nat × Int
abbrev Mv : Type := (Nat → Int) × Bool
def up (s : Mv) (e : Ed) : Mv := if s.1 e.2.1 < s.1 e.1 + e.2.2 then (fun v => if v = e.2.1 then s.1 e.1 + e.2.2 else s.1 v, true) else s
def ups (es : List Ed) (s : Mv) : Mv := es.foldl up s
theorem up_ge (s : Mv) (e : Ed) (v : Nat) : s.1 v ≤ (up s e).1 v := by
  unfold up
  split
  · show s.1 v ≤ if v = e.2.1 then s.1 e.1 + e.2.2 else s.1 v
    split
    · subst_vars; omega
    · exact Int.le_refl _
  · exact Int.le_refl _
theorem up_new (s : Mv) (e : Ed) : s.1 e.1 + e.2.2 ≤ (up s e).1 e.2.1 := by
  unfold up
  split
  · show _ ≤ if e.2.1 = e.2.1 then _ else _
    rw [if_pos rfl]; exact Int.le_refl _
  · omega
theorem ups_ge : ∀ (es : List Ed) (s : Mv) (v : Nat), s.1 v ≤ (ups es s).1 v
  | [], _, _ => Int.le_refl _
  | e :: es, s, v => Int.le_trans (up_ge s e v) (ups_ge es (up s e) v)
theorem ups_new : ∀ (es : List Ed) (s : Mv) (e : Ed), e ∈ es → s.1 e.1 + e.2.2 ≤ (ups es s).1 e.2.1
  | [], _, _, h => by cases h
  | d :: es, s, e, h => by
    rcases List.mem_cons.1 h with rfl | h
    · exact Int.le_trans (up_new s e) (ups_ge es (up s e) _)
    · have h1 := ups_new es (up s d) e h
      have h2 := up_ge s d e.1
      show _ ≤ (ups es (up s d)).1 e.2.1
      omega
theorem ups_flag : ∀ (es : List Ed) (s : Mv), (ups es s).2 = false → s.2 = false ∧ ups es s = s ∧ ∀ e, e ∈ es → s.1 e.1 + e.2.2 ≤ s.1 e.2.1
  | [], s, h => ⟨h, rfl, fun e he => by cases he⟩
  | d :: es, s, h => by
    obtain ⟨h1, h2, h3⟩ := ups_flag es (up s d) h
    by_cases hc : s.1 d.2.1 < s.1 d.1 + d.2.2
    · unfold up at h1; rw [if_pos hc] at h1; cases h1
    · have e : up s d = s := by unfold up; rw [if_neg hc]
      rw [e] at h1 h2 h3
      refine ⟨h1, (show ups es (up s d) = s by rw [e]; exact h2), fun x hx => ?_⟩
      rcases List.mem_cons.1 hx with rfl | hx
      · omega
      · exact h3 x hx
theorem ups_still : ∀ (es : List Ed) (s : Mv), (∀ e, e ∈ es → s.1 e.1 + e.2.2 ≤ s.1 e.2.1) → ups es s = s
  | [], _, _ => rfl
  | d :: es, s, h => by
    have h0 := h d (List.mem_cons_self ..)
    have e : up s d = s := by unfold up; rw [if_neg (by omega)]
    show ups es (up s d) = s
    rw [e]
    exact ups_still es s fun x hx => h x (List.mem_cons_of_mem _ hx)
def Snd (C : Nat → Nat → Int → Prop) (n : Nat) (f : Nat → Int) : Prop := ∀ v, v < n → ∃ m, Cw C n m v (f v)
def Far (C : Nat → Nat → Int → Prop) (n k : Nat) (f : Nat → Int) : Prop := ∀ m v s, m ≤ k → Cw C n m v s → s ≤ f v
theorem ups_snd (hC : ∀ u v x, C u v x → u < n ∧ v < n) : ∀ (es : List Ed) (s : Mv), (∀ e, e ∈ es → C e.1 e.2.1 e.2.2) → Snd C n s.1 → Snd C n (ups es s).1
  | [], _, _, h => h
  | e :: es, s, he, h => by
    refine ups_snd hC es (up s e) (fun x hx => he x (List.mem_cons_of_mem _ hx)) fun v hv => ?_
    have hc := he e (List.mem_cons_self ..)
    unfold up
    split
    · show ∃ m, Cw C n m v (if v = e.2.1 then s.1 e.1 + e.2.2 else s.1 v)
      split
      · obtain ⟨m, hm⟩ := h e.1 (hC _ _ _ hc).1
        subst_vars
        exact ⟨m + 1, hm.step hc⟩
      · exact h v hv
    · exact h v hv
theorem far_next {es : List Ed} (hs : ∀ u v x, C u v x → (u, v, x) ∈ es) {k : Nat} {s : Mv} (h : Far C n k s.1) : Far C n (k + 1) (ups es s).1 := by
  intro m v t hm hw
  cases hw with
  | start hv => exact Int.le_trans (h 0 v 0 (Nat.zero_le _) (.start hv)) (ups_ge es s v)
  | step h1 hc =>
    have a1 := h _ _ _ (by omega) h1
    have a2 := ups_new es s _ (hs _ _ _ hc)
    simp only at a2
    omega
theorem far_still (hC : ∀ u v x, C u v x → u < n ∧ v < n) (hL : Sol C n L) {es : List Ed} (he : ∀ e, e ∈ es → C e.1 e.2.1 e.2.2) {s : Mv} (hs : Snd C n s.1) (h : Far C n (n - 1) s.1) : ups es s = s := by
  refine ups_still es s fun e hm => ?_
  have hc := he e hm
  obtain ⟨m, hw⟩ := hs e.1 (hC _ _ _ hc).1
  obtain ⟨m', s', g1, g2, g3⟩ := short hC hL _ _ _ (hw.step hc)
  have := h m' e.2.1 s' (by omega) g3
  omega
end Go.Proofs.Ytojpibpjieanhaa.ConsMath
end
section
-- Written by a program of this session out of the kit's print of the loaded functions: a plain function of a Go function, and its contract.
namespace Go.Proofs.Ytojpibpjieanhaa.X
open Go.RowKit Go.Proofs.YtojpibpjieanhaaW.PrintWords Go.Proofs.YtojpibpjieanhaaW.PrintLast Go.Proofs.YtojpibpjieanhaaW.PrintMore
attribute [local go_sem] max2_int min2_int max_two min_two max_three min_three max_four min_four   -- for this text's walks alone
set_option linter.unusedVariables false
set_option linter.unusedSimpArgs false
def errW : Option Int → Value
 | none => .nilIface
 | some c => .iface 0 (.int .i64 c)
theorem errW_none : errW none = .nilIface := rfl
theorem errW_some (c : Int) : errW (some c) = .iface 0 (.int .i64 c) := rfl
theorem info2 : (Try.prog.info? 2).map (fun i => (i.zero, i.size, i.bytes)) = some (some (.int .i64 0), 1, 8) := by kernel_rfl
theorem info55 : (Try.prog.info? 55).map (fun i => (i.zero, i.size, i.bytes)) = some (some (.agg #[(.int .i64 0), (.int .i64 0), (.int .i64 0)]), 3, 24) := by kernel_rfl
-- the values' own types
structure S96 where
 f0 : Int
 f1 : Int
 f2 : Int
def z96 : S96 := ⟨(0 : Int), (0 : Int), (0 : Int)⟩
def k96 : Kd S96 := Kd.iso (Kd.pair (Kd.int .i64) (Kd.pair (Kd.int .i64) (Kd.int .i64))) (fun x : S96 => (x.f0, x.f1, x.f2))
theorem k96_open {w : World} {x : S96} {cs : List Value} (h : k96.K w x cs) : cs = [.int .i64 x.f0, .int .i64 x.f1, .int .i64 x.f2] := by
 obtain ⟨_, _, rfl, rfl, ⟨_, _, rfl, rfl, rfl⟩⟩ := h
 exact rfl
theorem k96_mk (w : World) (x : S96)  : k96.K w x [.int .i64 x.f0, .int .i64 x.f1, .int .i64 x.f2] := ⟨[.int .i64 x.f0], [.int .i64 x.f1, .int .i64 x.f2], rfl, rfl, ⟨[.int .i64 x.f1], [.int .i64 x.f2], rfl, rfl, rfl⟩⟩
def rd_T96 (xs : List S96) (i : Int) : S96 := xs.getD i.toNat z96
theorem at_T96 {w : World} {A : Option Addr} {n : Nat} {xs : List S96} (h : Kd.C k96 w A n xs) (i : Int) (h0 : 0 ≤ i) (h1 : i < n) : ∃ ad , A = some ad ∧ w.cell? (ad.add (i.toNat * 3)) = some (.int .i64 (rd_T96 xs i).f0) ∧ w.cell? ⟨(ad.add (i.toNat * 3)).block, (ad.add (i.toNat * 3)).off + 1, none⟩ = some (.int .i64 (rd_T96 xs i).f1) ∧ w.cell? ⟨(ad.add (i.toNat * 3)).block, (ad.add (i.toNat * 3)).off + 2, none⟩ = some (.int .i64 (rd_T96 xs i).f2) := by
 obtain ⟨ad, c, e, _, hK, hc0⟩ := Kd.C_get h z96 i h0 h1
 have hc : ∀ j u, c[j]? = some u → w.cell? (ad.add (i.toNat * 3 + j)) = some u := hc0
 obtain rfl := k96_open hK
 exact ⟨ad, e, hc 0 _ rfl, by rw [← add_field _ _ 1 (by omega)]; exact hc 1 _ rfl, by rw [← add_field _ _ 2 (by omega)]; exact hc 2 _ rfl⟩
structure S55 where
 f0 : Int
 f1 : Int
 f2 : Int
def z55 : S55 := ⟨(0 : Int), (0 : Int), (0 : Int)⟩
def k55 : Kd S55 := Kd.iso (Kd.pair (Kd.int .i64) (Kd.pair (Kd.int .i64) (Kd.int .i64))) (fun x : S55 => (x.f0, x.f1, x.f2))
theorem k55_open {w : World} {x : S55} {cs : List Value} (h : k55.K w x cs) : cs = [.int .i64 x.f0, .int .i64 x.f1, .int .i64 x.f2] := by
 obtain ⟨_, _, rfl, rfl, ⟨_, _, rfl, rfl, rfl⟩⟩ := h
 exact rfl
theorem k55_openM {w : World} {base : Nat} {ok : Nat → Prop} {x : S55} {cs : List Value} (h : k55.M w base ok x cs) : cs = [.int .i64 x.f0, .int .i64 x.f1, .int .i64 x.f2] := by
 obtain ⟨_, _, rfl, rfl, ⟨_, _, rfl, rfl, rfl⟩⟩ := h
 exact rfl
theorem k55_mkM (w : World) (base : Nat) (ok : Nat → Prop) (x : S55)  : k55.M w base ok x [.int .i64 x.f0, .int .i64 x.f1, .int .i64 x.f2] := ⟨[.int .i64 x.f0], [.int .i64 x.f1, .int .i64 x.f2], rfl, rfl, ⟨[.int .i64 x.f1], [.int .i64 x.f2], rfl, rfl, rfl⟩⟩
def rd_T55 (xs : List S55) (i : Int) : S55 := xs.getD i.toNat z55
theorem at_T55 {w : World} {A : Option Addr} {n : Nat} {xs : List S55} (h : Kd.C k55 w A n xs) (i : Int) (h0 : 0 ≤ i) (h1 : i < n) : ∃ ad , A = some ad ∧ w.cell? (ad.add (i.toNat * 3)) = some (.int .i64 (rd_T55 xs i).f0) ∧ w.cell? ⟨(ad.add (i.toNat * 3)).block, (ad.add (i.toNat * 3)).off + 1, none⟩ = some (.int .i64 (rd_T55 xs i).f1) ∧ w.cell? ⟨(ad.add (i.toNat * 3)).block, (ad.add (i.toNat * 3)).off + 2, none⟩ = some (.int .i64 (rd_T55 xs i).f2) := by
 obtain ⟨ad, c, e, _, hK, hc0⟩ := Kd.C_get h z55 i h0 h1
 have hc : ∀ j u, c[j]? = some u → w.cell? (ad.add (i.toNat * 3 + j)) = some u := hc0
 obtain rfl := k55_open hK
 exact ⟨ad, e, hc 0 _ rfl, by rw [← add_field _ _ 1 (by omega)]; exact hc 1 _ rfl, by rw [← add_field _ _ 2 (by omega)]; exact hc 2 _ rfl⟩
structure S77 where
 f0 : Int
 f1 : Int
 f2 : Bool
def z77 : S77 := ⟨(0 : Int), (0 : Int), false⟩
def k77 : Kd S77 := Kd.iso (Kd.pair (Kd.int .i64) (Kd.pair (Kd.int .i64) Kd.bool)) (fun x : S77 => (x.f0, x.f1, x.f2))
theorem k77_open {w : World} {x : S77} {cs : List Value} (h : k77.K w x cs) : cs = [.int .i64 x.f0, .int .i64 x.f1, .bool x.f2] := by
 obtain ⟨_, _, rfl, rfl, ⟨_, _, rfl, rfl, rfl⟩⟩ := h
 exact rfl
theorem k77_mkM (w : World) (base : Nat) (ok : Nat → Prop) (x : S77)  : k77.M w base ok x [.int .i64 x.f0, .int .i64 x.f1, .bool x.f2] := ⟨[.int .i64 x.f0], [.int .i64 x.f1, .bool x.f2], rfl, rfl, ⟨[.int .i64 x.f1], [.bool x.f2], rfl, rfl, rfl⟩⟩
def rd_T77 (xs : List S77) (i : Int) : S77 := xs.getD i.toNat z77
theorem at_T77 {w : World} {A : Option Addr} {n : Nat} {xs : List S77} (h : Kd.C k77 w A n xs) (i : Int) (h0 : 0 ≤ i) (h1 : i < n) : ∃ ad , A = some ad ∧ w.cell? (ad.add (i.toNat * 3)) = some (.int .i64 (rd_T77 xs i).f0) ∧ w.cell? ⟨(ad.add (i.toNat * 3)).block, (ad.add (i.toNat * 3)).off + 1, none⟩ = some (.int .i64 (rd_T77 xs i).f1) ∧ w.cell? ⟨(ad.add (i.toNat * 3)).block, (ad.add (i.toNat * 3)).off + 2, none⟩ = some (.bool (rd_T77 xs i).f2) := by
 obtain ⟨ad, c, e, _, hK, hc0⟩ := Kd.C_get h z77 i h0 h1
 have hc : ∀ j u, c[j]? = some u → w.cell? (ad.add (i.toNat * 3 + j)) = some u := hc0
 obtain rfl := k77_open hK
 exact ⟨ad, e, hc 0 _ rfl, by rw [← add_field _ _ 1 (by omega)]; exact hc 1 _ rfl, by rw [← add_field _ _ 2 (by omega)]; exact hc 2 _ rfl⟩
def rd_L5 (xs : List (List S77)) (i : Int) : (List S77) := xs.getD i.toNat ([] : List S77)
theorem at_L5 {w : World} {A : Option Addr} {n : Nat} {xs : List (List S77)} (h : Kd.C (Kd.slice 77 k77) w A n xs) (i : Int) (h0 : 0 ≤ i) (h1 : i < n) : ∃ ad A0 c0, A = some ad ∧ w.cell? (ad.add i.toNat) = some (.slice A0 (rd_L5 xs i).length c0) ∧ (rd_L5 xs i).length ≤ c0 ∧ k77.C w A0 (rd_L5 xs i).length (rd_L5 xs i) := by
 obtain ⟨ad, c, e, _, hK, hc0⟩ := Kd.C_get h ([] : List S77) i h0 h1
 have hc : ∀ j u, c[j]? = some u → w.cell? (ad.add (i.toNat * 1 + j)) = some u := hc0
 obtain ⟨A0, c0, rfl, l0, g0⟩ := hK
 exact ⟨ad, A0, c0, e, by have hq := hc 0 _ rfl; rwa [Nat.mul_one, Nat.add_zero] at hq, l0, g0⟩
end Go.Proofs.Ytojpibpjieanhaa.X
end
section
namespace Go.Proofs.Ytojpibpjieanhaa.X
open Go.RowKit Go.Proofs.YtojpibpjieanhaaW.PrintWords Go.Proofs.YtojpibpjieanhaaW.PrintLast Go.Proofs.YtojpibpjieanhaaW.PrintMore
set_option linter.unusedVariables false
set_option linter.unusedSimpArgs false
def slices_Clone_int64_int64.f (l0 : List Int) : Option (List Int) := if l0.length < 17592186044416 then some l0 else none
set_option maxHeartbeats 8000000 in
set_option maxRecDepth 100000 in
theorem Clone_some (ad : Addr) (c0 : Nat) (l0 r : List Int) (w : World) (hr0 : Kd.C (Kd.int .i64) w (some ad) l0.length l0) (hlen : l0.length < 17592186044416) (hr : r = l0) :
    Calls Try.prog 69 #[.slice (some ad) l0.length c0] w fun e w' => ∃ v0_ : Value, e = .returned (v0_) ∧ Kd.R (Kd.int .i64) 2 w' w.heap.size (fun _ => True) v0_ r ∧ Below w.heap.size w w' := by
  have HR0 := Aside0.mk hr0
  clear hr0
  have HB := Aside0.mk (Below.refl w.heap.size w)
  obtain ⟨y313, hy313⟩ : ∃ y_ : List Int, y_ = (([] : List Int)) := ⟨_, rfl⟩
  have Ny313 := Aside0.mk hy313
  have LMc2 : Aside0 (y313.length + l0.length < 17592186044416) := ⟨by rw [hy313]; simpa using hlen⟩
  obtain ⟨y316, hy316⟩ : ∃ y_ : List Int, y_ = (y313 ++ l0) := ⟨_, rfl⟩
  have Ny316 := Aside0.mk hy316
  have HE : Aside0 (y316 = r) := ⟨by rw [hy316, hy313, hr]; rfl⟩
  clear hy313 hy316 hr hlen
  have e1 := fun (W : World) => Lib.run_eql_slice_nil (P := Try.prog) W 22 2 (some ad) l0.length c0 0 0 Try.underlying22
  go_enter Try.func69, Try.ntmps69
  go_wp2_with (first | ((with_reducible refine gate_dst (N := 5) rfl ?_); refine Kd.R_lit (Kd.int .i64) _ 2 ?hg (N := 5) ?hd (xs := ([] : List Int)) (inner := []) (ok := fun _ => True) (okp := fun _ => True) ?hr ?hp (fun _ hk => hk) trivial (Below.refl _ _) (Nat.le_refl _) (by simp) ?_; (case hd => rfl); (case hg => rfl); (case hr => first | (go_simp; done) | (go_simp; rfl)); (case hp => exact (Reps.none _ _)); intro v314 w3 ho4 hb hg_ hnew_; clear hg_ hnew_; (first | rw [← Ny313.out] at ho4 | (simp only [Int.reduceToNat] at ho4; rw [← Ny313.out] at ho4)); have n0_ := Aside0.mk (Kd.R_lower ho4 (below_size (by repeat (first | (with_reducible first | exact HB.out | apply below_alloc | apply pw_below_drewN | apply below_drew1) | exact HB.out)))); have n1_ := Aside0.mk (below_step (by repeat (first | (with_reducible first | exact HB.out | apply below_alloc | apply pw_below_drewN | apply below_drew1) | exact HB.out)) hb); clear HB; have HO315 := n0_; have HB := n1_; clear n0_ n1_; clear hb ho4) | ((with_reducible refine gate_builtin (b := .append) (xs := #[.tmp 5, .tmp 6]) rfl ?_); at_builtin; refine Kd.R_append_rows (Kd.int .i64) (w0 := w) w.heap.size rfl (.tmp 5) (.tmp 6) 22 2 (.int .i64 0) 8 rfl Try.underlying22 info2 rfl (by decide) (by omega) v314 y313 l0 _ _ _ (fun _ => True) (fun _ => False) rfl rfl ?aO ?aR (fun _ _ h => h) (fun _ h => h.elim) ?aF ?aB ?aS ?aL ?_; (case aR => repeat (first | exact (Kd.C_below HR0.out HB.out) | (with_reducible refine Kd.C_alloc ?_ _) | (with_reducible refine Kd.C_drewN ?_ _) | (with_reducible refine Kd.C_drew ?_))); (case aB => exact (by repeat (first | (with_reducible first | exact HB.out | apply below_alloc | apply pw_below_drewN | apply below_drew1) | exact HB.out))); (case aF => exact (fun _ _ => trivial)); (case aO => exact (by (with_reducible repeat (first | apply Kd.R_alloc | apply Kd.R_drewN | apply Kd.R_drew)); exact HO315.out)); (case aS => exact (below_size (by repeat (first | (with_reducible first | exact HB.out | apply below_alloc | apply pw_below_drewN | apply below_drew1) | exact HB.out)))); (case aL => have := LMc2.out; omega); intro v317 w5 ho hb hg hat; rw [← Ny316.out] at ho; have n0_ := Aside0.mk (hb); have n1_ := Aside0.mk (ho); clear HB; clear HO315; have HB := n0_; have HO318 := n1_; clear n0_ n1_; clear ho hb hg hat))
  go_ret
  exact ⟨_, rfl, by (with_reducible repeat (first | apply Kd.R_alloc | apply Kd.R_drewN | apply Kd.R_drew)); rw [← HE.out]; exact HO318.out, by repeat (first | (with_reducible first | exact HB.out | apply below_alloc | apply pw_below_drewN | apply below_drew1) | exact HB.out)⟩
set_option maxHeartbeats 8000000 in
set_option maxRecDepth 100000 in
theorem Clone_none (c0 : Nat) (w : World) :
    Calls Try.prog 69 #[.slice none 0 c0] w fun e w' => ∃ v0_ : Value, e = .returned (v0_) ∧ Kd.R (Kd.int .i64) 2 w' w.heap.size (fun _ => True) v0_ [] ∧ Below w.heap.size w w' := by
  have e1 := fun (W : World) => Lib.run_eql_slice_nil (P := Try.prog) W 22 2 none 0 c0 0 0 Try.underlying22
  go_enter Try.func69, Try.ntmps69
  go_wp2
  go_ret
  exact ⟨_, rfl, Kd.R_nil _ _ _ _ _, Below.refl _ _⟩
theorem slices_Clone_int64_int64.calls (A0 : Option Addr) (c0 : Nat) (l0 : List Int) (r : List Int) (w : World) (hr0 : Kd.C (Kd.int .i64) w A0 l0.length l0) (hc0 : True) (h : slices_Clone_int64_int64.f l0 = some r) :
    Calls Try.prog 69 #[.slice A0 l0.length c0] w fun e w' => ∃ v0_ : Value, e = .returned (v0_) ∧ Kd.R (Kd.int .i64) 2 w' w.heap.size (fun _ => True) v0_ r ∧ Below w.heap.size w w' := by
  unfold slices_Clone_int64_int64.f at h
  by_cases hl : l0.length < 17592186044416
  · rw [if_pos hl] at h
    have hr := (Option.some.inj h).symm
    cases A0 with
    | some ad => exact Clone_some ad c0 l0 r w hr0 hl hr
    | none =>
      have e : l0 = [] := by
        rcases l0 with _ | ⟨x, l⟩
        · rfl
        · obtain ⟨ad, h1, _⟩ := hr0.2.2 (by simp)
          cases h1
      subst e
      subst hr
      exact Clone_none c0 w
  · rw [if_neg hl] at h
    exact absurd h (by simp)
end Go.Proofs.Ytojpibpjieanhaa.X
end
section
-- Written by a program of this session out of the kit's print of the loaded functions: a plain function of a Go function, and its contract.
namespace Go.Proofs.Ytojpibpjieanhaa.X
open Go.RowKit Go.Proofs.YtojpibpjieanhaaW.PrintWords Go.Proofs.YtojpibpjieanhaaW.PrintLast Go.Proofs.YtojpibpjieanhaaW.PrintMore
attribute [local go_sem] max2_int min2_int max_two min_two max_three min_three max_four min_four   -- for this text's walks alone
set_option linter.unusedVariables false
set_option linter.unusedSimpArgs false
def laws_eqInt64S.l0 : Nat → List Int → List Int → Int → Option (Bool)
 | 0, _, _, _ => none
 | k + 1, x0, x1, x5 => if x5 < (x0.length : Int) then (if 0 ≤ x5 then (if x5 < (x1.length : Int) then (if (rd x0 x5) = (rd x1 x5) then (laws_eqInt64S.l0 k x0 x1 (wrap64 (x5 + 1))) else (some false)) else (none)) else (none)) else (some true)
def laws_eqInt64S.f (k : Nat) (l0 : List Int) (l1 : List Int) : Option (Bool) := if (l0.length : Int) = (l1.length : Int) then (laws_eqInt64S.l0 k l0 l1 0) else (some false)
set_option maxHeartbeats 8000000 in
set_option maxRecDepth 100000 in
theorem laws_eqInt64S.calls (k : Nat) (A0 : Option Addr) (c0 : Nat) (l0 : List Int) (A1 : Option Addr) (c1 : Nat) (l1 : List Int) (r : Bool) (w : World) (hr0 : Kd.C (Kd.int .i64) w A0 l0.length l0) (hc0 : l0.length ≤ c0) (hr1 : Kd.C (Kd.int .i64) w A1 l1.length l1) (hc1 : l1.length ≤ c1) (h : laws_eqInt64S.f k l0 l1 = some r) :
  Calls Try.prog 17 #[.slice A0 l0.length c0, .slice A1 l1.length c1] w fun e w' => e = .returned (.bool r) ∧ Drawn0 w w' := by
 have HR0 := Aside0.mk hr0
 have HC0 := Aside0.mk hc0
 clear hr0 hc0
 have HR1 := Aside0.mk hr1
 have HC1 := Aside0.mk hc1
 clear hr1 hc1
 have H : (if (l0.length : Int) = (l1.length : Int) then (laws_eqInt64S.l0 k l0 l1 0) else (some false)) = some r := h
 clear h
 by_cases c3 : (l0.length : Int) = (l1.length : Int)
 ·rw [if_pos c3] at H
  have c3b0 : ((l0.length : Int) == (l1.length : Int)) = true := beq_iff_eq.mpr c3
  have c3b1 : ((l0.length : Int) != (l1.length : Int)) = false := bne_eq_false_iff_eq.mpr c3
  have c3b2 : (l0.length == l1.length) = true := by first | simpa using c3 | (simp at c3 ⊢; omega)
  clear c3
  have H' := Aside0.mk H
  clear H
  go_enter Try.func17, Try.ntmps17
  go_wp2
  repeat (go_quiet (fail); try go_wp2)
  go_loopg [5] k (fun kq v5 w' => ∃ (x5_1 : Int), v5 = .int .i64 x5_1 ∧ Aside0 (laws_eqInt64S.l0 kq l0 l1 x5_1 = some r) ∧ Aside0 (kq ≤ k) ∧ Drawn0 w w')
  case atStart => exact ⟨(0), (by first | rfl | (simp; done) | (simp [*]; done)), H', ⟨Nat.le_refl _⟩, by repeat (first | exact Drawn0.refl _ | apply Drawn0.step)⟩
  case round =>
   clear H'
   try clear c1
   try clear p2
   try clear c3
   try clear c3b0
   try clear c3b1
   try clear c3b2
   obtain ⟨x5_1, rfl, HA, HK1, ⟨m1, rfl⟩⟩ := hrel
   cases gk with
   | zero => exact absurd HA.out (by simp [laws_eqInt64S.l0])
   | succ k1 =>
    have H := HA.out
    clear HA
    simp only [laws_eqInt64S.l0] at H
    by_cases c4 : x5_1 < (l0.length : Int)
    ·rw [if_pos c4] at H
     have c4b0 : decide (x5_1 < (l0.length : Int)) = true := decide_eq_true c4
     clear c4
     by_cases c5 : 0 ≤ x5_1
     ·rw [if_pos c5] at H
      have c5b0 : decide (0 ≤ x5_1) = true := decide_eq_true c5
      clear c5
      by_cases c6 : x5_1 < (l1.length : Int)
      ·rw [if_pos c6] at H
       have c6b0 : decide (x5_1 < (l1.length : Int)) = true := decide_eq_true c6
       clear c6
       by_cases c7 : (rd l0 x5_1) = (rd l1 x5_1)
       ·rw [if_pos c7] at H
        have c7b0 : ((rd l0 x5_1) == (rd l1 x5_1)) = true := beq_iff_eq.mpr c7
        have c7b1 : ((rd l0 x5_1) != (rd l1 x5_1)) = false := bne_eq_false_iff_eq.mpr c7
        clear c7
        have H' := Aside0.mk H
        clear H
        have p132 : 0 ≤ (x5_1 : Int) := of_decide_eq_true (by first | (with_reducible assumption) | assumption)
        have q132 : x5_1 < (l0.length : Int) := of_decide_eq_true (by first | (with_reducible assumption) | assumption)
        obtain ⟨ad132, e132, hx132_0⟩ := Kd.at_int HR0.out x5_1 p132 q132
        cases e132
        replace p132 := eq_true p132
        replace q132 := eq_true q132
        have p133 : 0 ≤ (x5_1 : Int) := of_decide_eq_true (by first | (with_reducible assumption) | assumption)
        have q133 : x5_1 < (l1.length : Int) := of_decide_eq_true (by first | (with_reducible assumption) | assumption)
        obtain ⟨ad133, e133, hx133_0⟩ := Kd.at_int HR1.out x5_1 p133 q133
        cases e133
        replace p133 := eq_true p133
        replace q133 := eq_true q133
        go_wp2
        repeat (go_quiet (fail); try go_wp2)
        go_roundg k1
        case measure => have := HK1.out; omega
        case rel => exact ⟨(wrap64 (x5_1 + 1)), (by first | rfl | (simp; done) | (simp [*]; done)), H', ⟨by have := HK1.out; omega⟩, by repeat (first | exact Drawn0.refl _ | apply Drawn0.step)⟩
       ·rw [if_neg c7] at H
        have c7b0 : ((rd l0 x5_1) == (rd l1 x5_1)) = false := beq_eq_false_iff_ne.mpr c7
        have c7b1 : ((rd l0 x5_1) != (rd l1 x5_1)) = true := bne_iff_ne.mpr c7
        obtain rfl := Option.some.inj H
        have p132 : 0 ≤ (x5_1 : Int) := of_decide_eq_true (by first | (with_reducible assumption) | assumption)
        have q132 : x5_1 < (l0.length : Int) := of_decide_eq_true (by first | (with_reducible assumption) | assumption)
        obtain ⟨ad132, e132, hx132_0⟩ := Kd.at_int HR0.out x5_1 p132 q132
        cases e132
        replace p132 := eq_true p132
        replace q132 := eq_true q132
        have p133 : 0 ≤ (x5_1 : Int) := of_decide_eq_true (by first | (with_reducible assumption) | assumption)
        have q133 : x5_1 < (l1.length : Int) := of_decide_eq_true (by first | (with_reducible assumption) | assumption)
        obtain ⟨ad133, e133, hx133_0⟩ := Kd.at_int HR1.out x5_1 p133 q133
        cases e133
        replace p133 := eq_true p133
        replace q133 := eq_true q133
        go_wp2
        repeat (go_quiet (fail); try go_wp2)
        go_ret
        exact ⟨by first | rfl | (simp; done) | (simp [*]; done), by repeat (first | exact Drawn0.refl _ | apply Drawn0.step)⟩
      ·rw [if_neg c6] at H
       exact absurd H (by simp)
     ·rw [if_neg c5] at H
      exact absurd H (by simp)
    ·rw [if_neg c4] at H
     have c4b0 : decide (x5_1 < (l0.length : Int)) = false := decide_eq_false c4
     clear c4
     obtain rfl := Option.some.inj H
     go_wp2
     repeat (go_quiet (fail); try go_wp2)
     go_ret
     exact ⟨by first | rfl | (simp; done) | (simp [*]; done), by repeat (first | exact Drawn0.refl _ | apply Drawn0.step)⟩
 ·rw [if_neg c3] at H
  have c3b0 : ((l0.length : Int) == (l1.length : Int)) = false := beq_eq_false_iff_ne.mpr c3
  have c3b1 : ((l0.length : Int) != (l1.length : Int)) = true := bne_iff_ne.mpr c3
  have c3b2 : (l0.length == l1.length) = false := by first | simpa using c3 | (simp at c3 ⊢; omega)
  obtain rfl := Option.some.inj H
  go_enter Try.func17, Try.ntmps17
  go_wp2
  repeat (go_quiet (fail); try go_wp2)
  go_ret
  exact ⟨by first | rfl | (simp; done) | (simp [*]; done), by repeat (first | exact Drawn0.refl _ | apply Drawn0.step)⟩
end Go.Proofs.Ytojpibpjieanhaa.X
end
section
-- Written by a program of this session out of the kit's print of the loaded functions: a plain function of a Go function, and its contract.
namespace Go.Proofs.Ytojpibpjieanhaa.X
open Go.RowKit Go.Proofs.YtojpibpjieanhaaW.PrintWords Go.Proofs.YtojpibpjieanhaaW.PrintLast Go.Proofs.YtojpibpjieanhaaW.PrintMore
attribute [local go_sem] max2_int min2_int max_two min_two max_three min_three max_four min_four   -- for this text's walks alone
set_option linter.unusedVariables false
set_option linter.unusedSimpArgs false
def laws_markInt64S.l0 : Nat → List Int → Int → Int → Option (Int × List Int)
 | 0, _, _, _ => none
 | k + 1, x0, x1, x5 => if x5 < (x0.length : Int) then (if 0 ≤ x5 then (laws_markInt64S.l0 k (x0.set (x5 : Int).toNat x1) (wrap64 (x1 + 1)) (wrap64 (x5 + 1))) else (none)) else (some (x1, x0))
def laws_markInt64S.f (k : Nat) (l0 : List Int) (a1 : Int) : Option (Int × List Int) := laws_markInt64S.l0 k l0 a1 0
set_option maxHeartbeats 8000000 in
set_option maxRecDepth 100000 in
theorem laws_markInt64S.calls (k : Nat) (P0_ : Nat → Prop) (u9000_ : Value) (l0 : List Int) (a1 : Int) (r1 : Int) (r2 : List Int) (w0 w : World) (hB : Below w0.heap.size w0 w) (ho0 : Kd.R (Kd.int .i64) 2 w w0.heap.size P0_ u9000_ l0) (h : laws_markInt64S.f k l0 a1 = some (r1, r2)) :
  Calls Try.prog 18 #[u9000_, .int .i64 a1] w fun e w' => e = .returned (.int .i64 r1) ∧ Kd.R (Kd.int .i64) 2 w' w0.heap.size (fun k_ => (P0_ k_ ∨ w.heap.size ≤ k_)) u9000_ r2 ∧ Below w0.heap.size w0 w' ∧ Kept w w' (fun k_ => P0_ k_) := by
 have HO0 := Aside0.mk (show Kd.R (Kd.int .i64) 2 w w0.heap.size (fun k_ => (P0_ k_ ∨ w.heap.size ≤ k_)) u9000_ l0 from Kd.R_mono ho0 (fun k_ hk => (.inl hk)))
 have HK := Aside0.mk (Kept.refl w (fun k_ => P0_ k_))
 have HW0 := Aside0.mk hB.size
 have HB := Aside0.mk hB
 clear hB
 have H : (laws_markInt64S.l0 k l0 a1 0) = some (r1, r2) := h
 clear h
 have H' := Aside0.mk H
 clear H
 go_enter Try.func18, Try.ntmps18
 go_wp2
 go_loopg [1, 5] k (fun kq v1 v5 w' => ∃ (x0_1 : List Int) (x1_1 : Int) (x5_1 : Int), v1 = .int .i64 x1_1 ∧ v5 = .int .i64 x5_1 ∧ Aside0 (laws_markInt64S.l0 kq x0_1 x1_1 x5_1 = some (r1, r2)) ∧ Aside0 (kq ≤ k) ∧ Aside0 (Kd.R (Kd.int .i64) 2 w' w0.heap.size (fun k_ => (P0_ k_ ∨ w.heap.size ≤ k_)) u9000_ x0_1) ∧ Aside0 (Kept w w' (fun k_ => P0_ k_)) ∧ Aside0 (Below w0.heap.size w0 w'))
 case atStart => exact ⟨(l0), (a1), (0), (by first | rfl | (simp; done) | (simp [*]; done)), (by first | rfl | (simp; done) | (simp [*]; done)), H', ⟨Nat.le_refl _⟩, ⟨by (with_reducible repeat (first | apply Kd.R_alloc | apply Kd.R_drewN | apply Kd.R_drew)); exact HO0.out⟩, ⟨by repeat (first | (with_reducible first | exact HK.out | apply Kept.alloc | apply Kept.drewN | apply Kept.drew) | exact HK.out)⟩, ⟨by repeat (first | (with_reducible first | exact HB.out | apply below_alloc | apply pw_below_drewN | apply below_drew1) | exact HB.out)⟩⟩
 case round =>
  clear H'
  try clear c1
  try clear p2
  obtain ⟨x0_1, x1_1, x5_1, rfl, rfl, HA, HK1, HO_0, HK, HB⟩ := hrel
  cases gk with
  | zero => exact absurd HA.out (by simp [laws_markInt64S.l0])
  | succ k1 =>
   have H := HA.out
   clear HA
   simp only [laws_markInt64S.l0] at H
   by_cases c3 : x5_1 < (x0_1.length : Int)
   ·rw [if_pos c3] at H
    have c3b0 : decide (x5_1 < (x0_1.length : Int)) = true := decide_eq_true c3
    clear c3
    by_cases c4 : 0 ≤ x5_1
    ·rw [if_pos c4] at H
     have c4b0 : decide (0 ≤ x5_1) = true := decide_eq_true c4
     clear c4
     obtain ⟨y134, hy134⟩ : ∃ y_ : List Int, y_ = (x0_1.set (x5_1 : Int).toNat x1_1) := ⟨_, rfl⟩
     replace H : (laws_markInt64S.l0 k1 y134 (wrap64 (x1_1 + 1)) (wrap64 (x5_1 + 1))) = some (r1, r2) := by first | (rw [hy134]; with_reducible exact H) | (have H2_ := (Option.bind_some _ _).symm.trans H; rw [hy134]; with_reducible exact H2_) | (have H2_ := (Option.bind_some _ _).symm.trans H; with_reducible exact H2_) | with_reducible exact H | (rw [hy134]; exact H) | exact H
     have Ny134 := Aside0.mk hy134
     clear hy134
     have H' := Aside0.mk H
     clear H
     obtain ⟨Ao6, co6, eo6⟩ := Kd.R_slice HO_0.out
     subst eo6
     have p5 : 0 ≤ (x5_1 : Int) := of_decide_eq_true (by first | (with_reducible assumption) | assumption)
     have q5 : (x5_1 : Int) < ((x0_1.length : Int) : Int) := of_decide_eq_true (by first | (with_reducible assumption) | assumption)
     obtain ⟨go5, co5, eo5, gb5, gl5, cl5, HG5⟩ := Kd.R_form HO_0.out (by omega)
     (first | cases eo5 | (injection eo5 with ea_ en_ ec_; (first | subst ea_ | (injection ea_ with ea_; subst ea_)); subst ec_; clear en_))
     have GB5 := Aside0.mk gb5
     have GG5 := Aside0.mk HG5
     clear gb5 gl5 HG5
     have HMgo5 := Aside0.mk (show (P0_ go5 ∨ w.heap.size ≤ go5) from (HO_0.out.1 _ rfl))
     obtain ⟨hx5_0, hf5_0⟩ := Kd.R_celln 0 HO_0.out (x5_1 : Int) p5 q5
     replace p5 := eq_true p5
     replace q5 := eq_true q5
     have HP7 := Kd.R_putg HO_0.out (x5_1 : Int) x1_1
     go_wp2_with (first | ((with_reducible refine gate_store (t := 2) (p := 15) rfl ?_); refine store_event (t := 2) (p := 15) (v := ?vo_w8) (w1 := (wr.setCell ⟨go5, (x5_1 : Int).toNat, none⟩ (.int .i64 x1_1))) ?hg ?ho ?hn ?hr ?_; (case ho => rfl); (case hg => rfl); (case hn => rfl); (case hr => first | (go_simp; done) | (go_simp; rfl)); intro w8 hw; have hg : wr.grownBy w8 (some go5) := (by rw [hw]; exact HP7.2); have hp_ : Kd.R (Kd.int .i64) 2 w8 w0.heap.size (fun k_ => (P0_ k_ ∨ w.heap.size ≤ k_)) (.slice (some ⟨go5, 0, none⟩) x0_1.length co6) y134 := (by rw [hw, Ny134.out]; exact HP7.1); clear HP7; have n0_ := Aside0.mk (hp_); have n1_ := Aside0.mk ((by rw [hw]; exact below_set (HB.out) GB5.out : Below w0.heap.size w0 w8)); have n2_ := Aside0.mk (Kept.of_grown (S := (fun k_ => P0_ k_)) hg (by repeat (first | (with_reducible first | exact HK.out | apply Kept.alloc | apply Kept.drewN | apply Kept.drew) | exact HK.out)) (fun k_ e_ => (HO_0.out.1 k_ e_))); clear HO_0; clear HB; clear HK; have HO_0 := n0_; have HB := n1_; have HK := n2_; clear n0_ n1_ n2_; clear hg hw hp_))
     go_roundg k1
     case measure => have := HK1.out; omega
     case rel => exact ⟨(y134), (wrap64 (x1_1 + 1)), (wrap64 (x5_1 + 1)), (by first | rfl | (simp; done) | (simp [*]; done)), (by first | rfl | (simp; done) | (simp [*]; done)), H', ⟨by have := HK1.out; omega⟩, ⟨by (with_reducible repeat (first | apply Kd.R_alloc | apply Kd.R_drewN | apply Kd.R_drew)); exact HO_0.out⟩, ⟨by repeat (first | (with_reducible first | exact HK.out | apply Kept.alloc | apply Kept.drewN | apply Kept.drew) | exact HK.out)⟩, ⟨by repeat (first | (with_reducible first | exact HB.out | apply below_alloc | apply pw_below_drewN | apply below_drew1) | exact HB.out)⟩⟩
    ·rw [if_neg c4] at H
     exact absurd H (by simp)
   ·rw [if_neg c3] at H
    have c3b0 : decide (x5_1 < (x0_1.length : Int)) = false := decide_eq_false c3
    clear c3
    simp only [Option.some.injEq, Prod.mk.injEq] at H
    obtain ⟨rfl, rfl⟩ := H
    obtain ⟨Ao9, co9, eo9⟩ := Kd.R_slice HO_0.out
    subst eo9
    go_wp2
    go_ret
    exact ⟨by first | rfl | (simp [errW_none, errW_some] <;> rfl) | (simp [*, errW_none, errW_some] <;> rfl), by (with_reducible repeat (first | apply Kd.R_alloc | apply Kd.R_drewN | apply Kd.R_drew)); exact HO_0.out, by repeat (first | (with_reducible first | exact HB.out | apply below_alloc | apply pw_below_drewN | apply below_drew1) | exact HB.out), by repeat (first | (with_reducible first | exact HK.out | apply Kept.alloc | apply Kept.drewN | apply Kept.drew) | exact HK.out)⟩
end Go.Proofs.Ytojpibpjieanhaa.X
end
section
-- Written by a program of this session out of the kit's print of the loaded functions: a plain function of a Go function, and its contract.
namespace Go.Proofs.Ytojpibpjieanhaa.X
open Go.RowKit Go.Proofs.YtojpibpjieanhaaW.PrintWords Go.Proofs.YtojpibpjieanhaaW.PrintLast Go.Proofs.YtojpibpjieanhaaW.PrintMore
attribute [local go_sem] max2_int min2_int max_two min_two max_three min_three max_four min_four   -- for this text's walks alone
set_option linter.unusedVariables false
set_option linter.unusedSimpArgs false
def laws_heldInt64S.l0 : Nat → List Int → Int → Int → Option (Int)
 | 0, _, _, _ => none
 | k + 1, x0, x1, x5 => if x5 < (x0.length : Int) then (if 0 ≤ x5 then (if (rd x0 x5) = x1 then (laws_heldInt64S.l0 k x0 (wrap64 (x1 + 1)) (wrap64 (x5 + 1))) else (some (-1))) else (none)) else (some x1)
def laws_heldInt64S.f (k : Nat) (l0 : List Int) (a1 : Int) : Option (Int) := laws_heldInt64S.l0 k l0 a1 0
set_option maxHeartbeats 8000000 in
set_option maxRecDepth 100000 in
theorem laws_heldInt64S.calls (k : Nat) (A0 : Option Addr) (c0 : Nat) (l0 : List Int) (a1 : Int) (r : Int) (w : World) (hr0 : Kd.C (Kd.int .i64) w A0 l0.length l0) (hc0 : l0.length ≤ c0) (h : laws_heldInt64S.f k l0 a1 = some r) :
  Calls Try.prog 19 #[.slice A0 l0.length c0, .int .i64 a1] w fun e w' => e = .returned (.int .i64 r) ∧ Drawn0 w w' := by
 have HR0 := Aside0.mk hr0
 have HC0 := Aside0.mk hc0
 clear hr0 hc0
 have H : (laws_heldInt64S.l0 k l0 a1 0) = some r := h
 clear h
 have H' := Aside0.mk H
 clear H
 go_enter Try.func19, Try.ntmps19
 go_wp2
 go_loopg [1, 5] k (fun kq v1 v5 w' => ∃ (x1_1 : Int) (x5_1 : Int), v1 = .int .i64 x1_1 ∧ v5 = .int .i64 x5_1 ∧ Aside0 (laws_heldInt64S.l0 kq l0 x1_1 x5_1 = some r) ∧ Aside0 (kq ≤ k) ∧ Drawn0 w w')
 case atStart => exact ⟨(a1), (0), (by first | rfl | (simp; done) | (simp [*]; done)), (by first | rfl | (simp; done) | (simp [*]; done)), H', ⟨Nat.le_refl _⟩, by repeat (first | exact Drawn0.refl _ | apply Drawn0.step)⟩
 case round =>
  clear H'
  try clear c1
  try clear p2
  obtain ⟨x1_1, x5_1, rfl, rfl, HA, HK1, ⟨m1, rfl⟩⟩ := hrel
  cases gk with
  | zero => exact absurd HA.out (by simp [laws_heldInt64S.l0])
  | succ k1 =>
   have H := HA.out
   clear HA
   simp only [laws_heldInt64S.l0] at H
   by_cases c3 : x5_1 < (l0.length : Int)
   ·rw [if_pos c3] at H
    have c3b0 : decide (x5_1 < (l0.length : Int)) = true := decide_eq_true c3
    clear c3
    by_cases c4 : 0 ≤ x5_1
    ·rw [if_pos c4] at H
     have c4b0 : decide (0 ≤ x5_1) = true := decide_eq_true c4
     clear c4
     by_cases c5 : (rd l0 x5_1) = x1_1
     ·rw [if_pos c5] at H
      have c5b0 : ((rd l0 x5_1) == x1_1) = true := beq_iff_eq.mpr c5
      have c5b1 : ((rd l0 x5_1) != x1_1) = false := bne_eq_false_iff_eq.mpr c5
      clear c5
      have H' := Aside0.mk H
      clear H
      have p135 : 0 ≤ (x5_1 : Int) := of_decide_eq_true (by first | (with_reducible assumption) | assumption)
      have q135 : x5_1 < (l0.length : Int) := of_decide_eq_true (by first | (with_reducible assumption) | assumption)
      obtain ⟨ad135, e135, hx135_0⟩ := Kd.at_int HR0.out x5_1 p135 q135
      cases e135
      replace p135 := eq_true p135
      replace q135 := eq_true q135
      go_wp2
      go_roundg k1
      case measure => have := HK1.out; omega
      case rel => exact ⟨(wrap64 (x1_1 + 1)), (wrap64 (x5_1 + 1)), (by first | rfl | (simp; done) | (simp [*]; done)), (by first | rfl | (simp; done) | (simp [*]; done)), H', ⟨by have := HK1.out; omega⟩, by repeat (first | exact Drawn0.refl _ | apply Drawn0.step)⟩
     ·rw [if_neg c5] at H
      have c5b0 : ((rd l0 x5_1) == x1_1) = false := beq_eq_false_iff_ne.mpr c5
      have c5b1 : ((rd l0 x5_1) != x1_1) = true := bne_iff_ne.mpr c5
      obtain rfl := Option.some.inj H
      have p135 : 0 ≤ (x5_1 : Int) := of_decide_eq_true (by first | (with_reducible assumption) | assumption)
      have q135 : x5_1 < (l0.length : Int) := of_decide_eq_true (by first | (with_reducible assumption) | assumption)
      obtain ⟨ad135, e135, hx135_0⟩ := Kd.at_int HR0.out x5_1 p135 q135
      cases e135
      replace p135 := eq_true p135
      replace q135 := eq_true q135
      go_wp2
      go_ret
      exact ⟨by first | rfl | (simp; done) | (simp [*]; done), by repeat (first | exact Drawn0.refl _ | apply Drawn0.step)⟩
    ·rw [if_neg c4] at H
     exact absurd H (by simp)
   ·rw [if_neg c3] at H
    have c3b0 : decide (x5_1 < (l0.length : Int)) = false := decide_eq_false c3
    clear c3
    obtain rfl := Option.some.inj H
    go_wp2
    go_ret
    exact ⟨by first | rfl | (simp; done) | (simp [*]; done), by repeat (first | exact Drawn0.refl _ | apply Drawn0.step)⟩
end Go.Proofs.Ytojpibpjieanhaa.X
end
section
namespace Go.Proofs.Ytojpibpjieanhaa.X
open Go.RowKit Go.Proofs.YtojpibpjieanhaaW.PrintWords Go.Proofs.YtojpibpjieanhaaW.PrintLast Go.Proofs.YtojpibpjieanhaaW.PrintMore
theorem w64 {n : Int} (h0 : -9223372036854775808 ≤ n) (h1 : n ≤ 9223372036854775807) : wrap64 n = n := by unfold wrap64; omega
theorem mx_eq (a b : Int) : mx a b = max a b := by unfold mx; split <;> omega
theorem rd_nat (l : List Int) (i : Nat) (h : i < l.length) : rd l (i : Int) = l[i] := by
  unfold rd
  simp [h]
def iota (m : Int) (n : Nat) : List Int := (List.range n).map fun (i : Nat) => m + (i : Int)
theorem iota_len (m : Int) (n : Nat) : (iota m n).length = n := by simp [iota]
theorem iota_get (m : Int) (n i : Nat) (h : i < n) : (iota m n)[i]? = some (m + (i : Int)) := by simp [iota, h]
theorem eq_loop (l : List Int) (hl : l.length ≤ 4000000) : ∀ (d k i : Nat), i + d = l.length → d < k → laws_eqInt64S.l0 k l l i = some true
  | 0, k, i, hi, hk => by
    cases k with
    | zero => omega
    | succ k => rw [laws_eqInt64S.l0, if_neg (by omega)]
  | d + 1, k, i, hi, hk => by
    cases k with
    | zero => omega
    | succ k =>
      have ih := eq_loop l hl d k (i + 1) (by omega) (by omega)
      rw [laws_eqInt64S.l0, if_pos (by omega), if_pos (by omega), if_pos (by omega), if_pos rfl, w64 (by omega) (by omega)]
      rw [Int.natCast_add, Int.natCast_one] at ih
      exact ih
theorem eqInt64S_refl (k : Nat) (l : List Int) (hl : l.length ≤ 4000000) (hk : l.length < k) : laws_eqInt64S.f k l l = some true := by
  unfold laws_eqInt64S.f
  rw [if_pos rfl]
  exact eq_loop l hl l.length k 0 (by omega) hk
theorem mark_loop (m : Int) (n : Nat) (hm : 0 ≤ m) (hm2 : m ≤ 1000000000) (hn : n ≤ 4000000) : ∀ (d k i : Nat) (x : List Int), x.length = n → i + d = n → d < k → (∀ j, j < i → x[j]? = some (m + (j : Int))) →
    laws_markInt64S.l0 k x (m + (i : Int)) i = some (m + (n : Int), iota m n)
  | 0, k, i, x, hx, hi, hk, hj => by
    cases k with
    | zero => omega
    | succ k =>
      have e : x = iota m n := by
        apply List.ext_getElem?
        intro j
        rcases Nat.lt_or_ge j n with h | h
        · rw [hj j (by omega), iota_get m n j h]
        · rw [List.getElem?_eq_none (by omega), List.getElem?_eq_none (by rw [iota_len]; omega)]
      rw [laws_markInt64S.l0, if_neg (by omega), e, show i = n by omega]
  | d + 1, k, i, x, hx, hi, hk, hj => by
    cases k with
    | zero => omega
    | succ k =>
      have ih := mark_loop m n hm hm2 hn d k (i + 1) (x.set i (m + (i : Int))) (by simpa using hx) (by omega) (by omega) (by
        intro j hlt
        rw [List.getElem?_set]
        by_cases h : i = j
        · subst h; rw [if_pos rfl, if_pos (by omega)]
        · rw [if_neg h]; exact hj j (by omega))
      rw [laws_markInt64S.l0, if_pos (by omega), if_pos (by omega), w64 (n := m + (i : Int) + 1) (by omega) (by omega), w64 (n := (i : Int) + 1) (by omega) (by omega)]
      rw [Int.natCast_add, Int.natCast_one, ← Int.add_assoc] at ih
      exact ih
theorem markInt64S_eq (k : Nat) (l : List Int) (m : Int) (hm : 0 ≤ m) (hm2 : m ≤ 1000000000) (hl : l.length ≤ 4000000) (hk : l.length < k) :
    laws_markInt64S.f k l m = some (m + (l.length : Int), iota m l.length) := by
  unfold laws_markInt64S.f
  have h := mark_loop m l.length hm hm2 hl l.length k 0 l rfl (by omega) hk (fun j h => absurd h (by omega))
  simpa using h
theorem held_loop (m : Int) (n : Nat) (hm : 0 ≤ m) (hm2 : m ≤ 1000000000) (hn : n ≤ 4000000) : ∀ (d k i : Nat), i + d = n → d < k →
    laws_heldInt64S.l0 k (iota m n) (m + (i : Int)) i = some (m + (n : Int))
  | 0, k, i, hi, hk => by
    cases k with
    | zero => omega
    | succ k => rw [laws_heldInt64S.l0, if_neg (by rw [iota_len]; omega), show i = n by omega]
  | d + 1, k, i, hi, hk => by
    cases k with
    | zero => omega
    | succ k =>
      have ih := held_loop m n hm hm2 hn d k (i + 1) (by omega) (by omega)
      have e : rd (iota m n) (i : Int) = m + (i : Int) := by rw [rd_nat _ _ (by rw [iota_len]; omega)]; simp [iota]
      rw [laws_heldInt64S.l0, if_pos (by rw [iota_len]; omega), if_pos (by omega), if_pos e, w64 (n := m + (i : Int) + 1) (by omega) (by omega), w64 (n := (i : Int) + 1) (by omega) (by omega)]
      rw [Int.natCast_add, Int.natCast_one, ← Int.add_assoc] at ih
      exact ih
theorem heldInt64S_eq (k : Nat) (m : Int) (n : Nat) (hm : 0 ≤ m) (hm2 : m ≤ 1000000000) (hn : n ≤ 4000000) (hk : n < k) : laws_heldInt64S.f k (iota m n) m = some (m + (n : Int)) := by
  unfold laws_heldInt64S.f
  have h := held_loop m n hm hm2 hn n k 0 (by omega) hk
  simpa using h
end Go.Proofs.Ytojpibpjieanhaa.X
end
section
-- Written by a program of this session out of the kit's print of the loaded functions: a plain function of a Go function, and its contract.
namespace Go.Proofs.Ytojpibpjieanhaa.X
open Go.RowKit Go.Proofs.YtojpibpjieanhaaW.PrintWords Go.Proofs.YtojpibpjieanhaaW.PrintLast Go.Proofs.YtojpibpjieanhaaW.PrintMore
attribute [local go_sem] max2_int min2_int max_two min_two max_three min_three max_four min_four   -- for this text's walks alone
set_option linter.unusedVariables false
set_option linter.unusedSimpArgs false
def impl_between_isBetter.f (a0_0 : Int) (a0_1 : Int) (a0_2 : Bool) (a1_0 : Int) (a1_1 : Int) (a1_2 : Bool) : Option (Bool) := if a0_2 = true then (if a1_2 = true then (if a0_0 < a1_0 then (some true) else (if a0_0 = a1_0 then (some (decide (a0_1 > a1_1))) else (some false))) else (some a0_2)) else (some a0_2)
set_option maxHeartbeats 8000000 in
set_option maxRecDepth 100000 in
theorem impl_between_isBetter.calls (a0_0 : Int) (a0_1 : Int) (a0_2 : Bool) (a1_0 : Int) (a1_1 : Int) (a1_2 : Bool) (r : Bool) (w : World) (h : impl_between_isBetter.f a0_0 a0_1 a0_2 a1_0 a1_1 a1_2 = some r) :
  Calls Try.prog 92 #[.agg #[.int .i64 a0_0, .int .i64 a0_1, .bool a0_2], .agg #[.int .i64 a1_0, .int .i64 a1_1, .bool a1_2]] w fun e w' => e = .returned (.bool r) ∧ Below w.heap.size w w' := by
 have hu77 := Try.underlying77
 have HB := Aside0.mk (Below.refl w.heap.size w)
 have H : (if a0_2 = true then (if a1_2 = true then (if a0_0 < a1_0 then (some true) else (if a0_0 = a1_0 then (some (decide (a0_1 > a1_1))) else (some false))) else (some a0_2)) else (some a0_2)) = some r := h
 clear h
 by_cases c3 : a0_2 = true
 ·subst c3
  have H1 : (if a1_2 = true then (if a0_0 < a1_0 then (some true) else (if a0_0 = a1_0 then (some (decide (a0_1 > a1_1))) else (some false))) else (some true)) = some r := by rw [if_pos rfl] at H; exact H
  clear H
  have H := H1
  clear H1
  by_cases c4 : a1_2 = true
  ·subst c4
   have H1 : (if a0_0 < a1_0 then (some true) else (if a0_0 = a1_0 then (some (decide (a0_1 > a1_1))) else (some false))) = some r := by rw [if_pos rfl] at H; exact H
   clear H
   have H := H1
   clear H1
   by_cases c5 : a0_0 < a1_0
   ·rw [if_pos c5] at H
    have c5b0 : decide (a0_0 < a1_0) = true := decide_eq_true c5
    clear c5
    obtain rfl := Option.some.inj H
    go_enter Try.func92, Try.ntmps92
    go_wp2_with (first | ((with_reducible refine gate_dst (N := 2) rfl ?_); refine box_event ?hg (N := 2) ?hd (cs := #[.int .i64 a0_0, .int .i64 a0_1, .bool true]) (t := 77) ?hr ?_; (case hd => rfl); (case hg => rfl); (case hr => first | (go_simp; done) | (go_simp; rfl)); intro gb809 hg w6 hbox hb; have n0_ := Aside0.mk (below_step (by repeat (first | (with_reducible first | exact HB.out | apply below_alloc | apply pw_below_drewN | apply below_drew1) | exact HB.out)) hb); have n1_ := Aside0.mk (hbox); have n2_ := Aside0.mk ((by rw [hg]; exact (below_size (by repeat (first | (with_reducible first | exact HB.out | apply below_alloc | apply pw_below_drewN | apply below_drew1) | exact HB.out))) : w.heap.size ≤ gb809)); have n3_ := Aside0.mk ((by rw [hg]; exact (below_size (by repeat (first | (with_reducible first | exact HB.out | apply below_alloc | apply pw_below_drewN | apply below_drew1) | exact HB.out))) : w.heap.size ≤ gb809)); clear HB; have HB := n0_; have BK809 := n1_; have GW809 := n2_; have GE809 := n3_; clear n0_ n1_ n2_ n3_; clear hb hbox hg) | ((with_reducible refine gate_dst (N := 3) rfl ?_); refine box_event ?hg (N := 3) ?hd (cs := #[.int .i64 a1_0, .int .i64 a1_1, .bool true]) (t := 77) ?hr ?_; (case hd => rfl); (case hg => rfl); (case hr => first | (go_simp; done) | (go_simp; rfl)); intro gb810 hg w7 hbox hb; have n0_ := Aside0.mk (blk_below (g := gb809) (o := .cells #[.int .i64 a0_0, .int .i64 a0_1, .bool true] 77 (0, 0)) (by (with_reducible repeat (first | refine blk_drewN ?_ _ | refine blk_drew ?_ | refine blk_alloc ?_ _)); exact BK809.out) hb); have n1_ := Aside0.mk (below_step (by repeat (first | (with_reducible first | exact HB.out | apply below_alloc | apply pw_below_drewN | apply below_drew1 | refine below_set ?_ GE809.out) | exact HB.out)) hb); have n2_ := Aside0.mk (hbox); have n3_ := Aside0.mk ((by rw [hg]; exact (below_size (by repeat (first | (with_reducible first | exact HB.out | apply below_alloc | apply pw_below_drewN | apply below_drew1 | refine below_set ?_ GE809.out) | exact HB.out))) : w.heap.size ≤ gb810)); have n4_ := Aside0.mk ((by rw [hg]; exact (below_size (by repeat (first | (with_reducible first | exact HB.out | apply below_alloc | apply pw_below_drewN | apply below_drew1 | refine below_set ?_ GE809.out) | exact HB.out))) : w.heap.size ≤ gb810)); have n5_ := Aside0.mk ((by rw [hg]; exact Nat.ne_of_lt (blk_lt (g := gb809) (o := .cells #[.int .i64 a0_0, .int .i64 a0_1, .bool true] 77 (0, 0)) (by (with_reducible repeat (first | refine blk_drewN ?_ _ | refine blk_drew ?_ | refine blk_alloc ?_ _)); exact BK809.out)) : gb809 ≠ gb810)); have n6_ := Aside0.mk ((by rw [hg]; exact Nat.ne_of_gt (blk_lt (g := gb809) (o := .cells #[.int .i64 a0_0, .int .i64 a0_1, .bool true] 77 (0, 0)) (by (with_reducible repeat (first | refine blk_drewN ?_ _ | refine blk_drew ?_ | refine blk_alloc ?_ _)); exact BK809.out)) : gb810 ≠ gb809)); clear BK809; clear HB; have BK809 := n0_; have HB := n1_; have BK810 := n2_; have GW810 := n3_; have GE810 := n4_; have NB809_810 := n5_; have NB810_809 := n6_; clear n0_ n1_ n2_ n3_ n4_ n5_ n6_; clear hb hbox hg; have hnb8 := NB809_810.out; have hnc8 := NB810_809.out; have hcz9_0 : w7.cell? ⟨gb809, 0, none⟩ = some (.int .i64 a0_0) := (blk_cell BK809.out 0).trans rfl; have hcz9_1 : w7.cell? ⟨gb809, 1, none⟩ = some (.int .i64 a0_1) := (blk_cell BK809.out 1).trans rfl; have hcz9_2 : w7.cell? ⟨gb809, 2, none⟩ = some (.bool true) := (blk_cell BK809.out 2).trans rfl; have hfz9_0 := blk_frozen BK809.out 0; have hfz9_1 := blk_frozen BK809.out 1; have hfz9_2 := blk_frozen BK809.out 2; have hcz10_0 : w7.cell? ⟨gb810, 0, none⟩ = some (.int .i64 a1_0) := (blk_cell BK810.out 0).trans rfl; have hcz10_1 : w7.cell? ⟨gb810, 1, none⟩ = some (.int .i64 a1_1) := (blk_cell BK810.out 1).trans rfl; have hcz10_2 : w7.cell? ⟨gb810, 2, none⟩ = some (.bool true) := (blk_cell BK810.out 2).trans rfl; have hfz10_0 := blk_frozen BK810.out 0; have hfz10_1 := blk_frozen BK810.out 1; have hfz10_2 := blk_frozen BK810.out 2))
    go_ret
    exact ⟨by first | rfl | (simp [errW_none, errW_some] <;> rfl) | (simp [*, errW_none, errW_some] <;> rfl), by repeat (first | (with_reducible first | exact HB.out | apply below_alloc | apply pw_below_drewN | apply below_drew1 | refine below_set ?_ GE809.out | refine below_set ?_ GE810.out) | exact HB.out)⟩
   ·rw [if_neg c5] at H
    have c5b0 : decide (a0_0 < a1_0) = false := decide_eq_false c5
    clear c5
    by_cases c11 : a0_0 = a1_0
    ·rw [if_pos c11] at H
     have c11b0 : (a0_0 == a1_0) = true := beq_iff_eq.mpr c11
     have c11b1 : (a0_0 != a1_0) = false := bne_eq_false_iff_eq.mpr c11
     clear c11
     obtain rfl := Option.some.inj H
     go_enter Try.func92, Try.ntmps92
     go_wp2_with (first | ((with_reducible refine gate_dst (N := 2) rfl ?_); refine box_event ?hg (N := 2) ?hd (cs := #[.int .i64 a0_0, .int .i64 a0_1, .bool true]) (t := 77) ?hr ?_; (case hd => rfl); (case hg => rfl); (case hr => first | (go_simp; done) | (go_simp; rfl)); intro gb809 hg w12 hbox hb; have n0_ := Aside0.mk (below_step (by repeat (first | (with_reducible first | exact HB.out | apply below_alloc | apply pw_below_drewN | apply below_drew1) | exact HB.out)) hb); have n1_ := Aside0.mk (hbox); have n2_ := Aside0.mk ((by rw [hg]; exact (below_size (by repeat (first | (with_reducible first | exact HB.out | apply below_alloc | apply pw_below_drewN | apply below_drew1) | exact HB.out))) : w.heap.size ≤ gb809)); have n3_ := Aside0.mk ((by rw [hg]; exact (below_size (by repeat (first | (with_reducible first | exact HB.out | apply below_alloc | apply pw_below_drewN | apply below_drew1) | exact HB.out))) : w.heap.size ≤ gb809)); clear HB; have HB := n0_; have BK809 := n1_; have GW809 := n2_; have GE809 := n3_; clear n0_ n1_ n2_ n3_; clear hb hbox hg) | ((with_reducible refine gate_dst (N := 3) rfl ?_); refine box_event ?hg (N := 3) ?hd (cs := #[.int .i64 a1_0, .int .i64 a1_1, .bool true]) (t := 77) ?hr ?_; (case hd => rfl); (case hg => rfl); (case hr => first | (go_simp; done) | (go_simp; rfl)); intro gb810 hg w13 hbox hb; have n0_ := Aside0.mk (blk_below (g := gb809) (o := .cells #[.int .i64 a0_0, .int .i64 a0_1, .bool true] 77 (0, 0)) (by (with_reducible repeat (first | refine blk_drewN ?_ _ | refine blk_drew ?_ | refine blk_alloc ?_ _)); exact BK809.out) hb); have n1_ := Aside0.mk (below_step (by repeat (first | (with_reducible first | exact HB.out | apply below_alloc | apply pw_below_drewN | apply below_drew1 | refine below_set ?_ GE809.out) | exact HB.out)) hb); have n2_ := Aside0.mk (hbox); have n3_ := Aside0.mk ((by rw [hg]; exact (below_size (by repeat (first | (with_reducible first | exact HB.out | apply below_alloc | apply pw_below_drewN | apply below_drew1 | refine below_set ?_ GE809.out) | exact HB.out))) : w.heap.size ≤ gb810)); have n4_ := Aside0.mk ((by rw [hg]; exact (below_size (by repeat (first | (with_reducible first | exact HB.out | apply below_alloc | apply pw_below_drewN | apply below_drew1 | refine below_set ?_ GE809.out) | exact HB.out))) : w.heap.size ≤ gb810)); have n5_ := Aside0.mk ((by rw [hg]; exact Nat.ne_of_lt (blk_lt (g := gb809) (o := .cells #[.int .i64 a0_0, .int .i64 a0_1, .bool true] 77 (0, 0)) (by (with_reducible repeat (first | refine blk_drewN ?_ _ | refine blk_drew ?_ | refine blk_alloc ?_ _)); exact BK809.out)) : gb809 ≠ gb810)); have n6_ := Aside0.mk ((by rw [hg]; exact Nat.ne_of_gt (blk_lt (g := gb809) (o := .cells #[.int .i64 a0_0, .int .i64 a0_1, .bool true] 77 (0, 0)) (by (with_reducible repeat (first | refine blk_drewN ?_ _ | refine blk_drew ?_ | refine blk_alloc ?_ _)); exact BK809.out)) : gb810 ≠ gb809)); clear BK809; clear HB; have BK809 := n0_; have HB := n1_; have BK810 := n2_; have GW810 := n3_; have GE810 := n4_; have NB809_810 := n5_; have NB810_809 := n6_; clear n0_ n1_ n2_ n3_ n4_ n5_ n6_; clear hb hbox hg; have hnb14 := NB809_810.out; have hnc14 := NB810_809.out; have hcz15_0 : w13.cell? ⟨gb809, 0, none⟩ = some (.int .i64 a0_0) := (blk_cell BK809.out 0).trans rfl; have hcz15_1 : w13.cell? ⟨gb809, 1, none⟩ = some (.int .i64 a0_1) := (blk_cell BK809.out 1).trans rfl; have hcz15_2 : w13.cell? ⟨gb809, 2, none⟩ = some (.bool true) := (blk_cell BK809.out 2).trans rfl; have hfz15_0 := blk_frozen BK809.out 0; have hfz15_1 := blk_frozen BK809.out 1; have hfz15_2 := blk_frozen BK809.out 2; have hcz16_0 : w13.cell? ⟨gb810, 0, none⟩ = some (.int .i64 a1_0) := (blk_cell BK810.out 0).trans rfl; have hcz16_1 : w13.cell? ⟨gb810, 1, none⟩ = some (.int .i64 a1_1) := (blk_cell BK810.out 1).trans rfl; have hcz16_2 : w13.cell? ⟨gb810, 2, none⟩ = some (.bool true) := (blk_cell BK810.out 2).trans rfl; have hfz16_0 := blk_frozen BK810.out 0; have hfz16_1 := blk_frozen BK810.out 1; have hfz16_2 := blk_frozen BK810.out 2))
     go_ret
     exact ⟨by first | rfl | (simp [errW_none, errW_some] <;> rfl) | (simp [*, errW_none, errW_some] <;> rfl), by repeat (first | (with_reducible first | exact HB.out | apply below_alloc | apply pw_below_drewN | apply below_drew1 | refine below_set ?_ GE809.out | refine below_set ?_ GE810.out) | exact HB.out)⟩
    ·rw [if_neg c11] at H
     have c11b0 : (a0_0 == a1_0) = false := beq_eq_false_iff_ne.mpr c11
     have c11b1 : (a0_0 != a1_0) = true := bne_iff_ne.mpr c11
     obtain rfl := Option.some.inj H
     go_enter Try.func92, Try.ntmps92
     go_wp2_with (first | ((with_reducible refine gate_dst (N := 2) rfl ?_); refine box_event ?hg (N := 2) ?hd (cs := #[.int .i64 a0_0, .int .i64 a0_1, .bool true]) (t := 77) ?hr ?_; (case hd => rfl); (case hg => rfl); (case hr => first | (go_simp; done) | (go_simp; rfl)); intro gb809 hg w17 hbox hb; have n0_ := Aside0.mk (below_step (by repeat (first | (with_reducible first | exact HB.out | apply below_alloc | apply pw_below_drewN | apply below_drew1) | exact HB.out)) hb); have n1_ := Aside0.mk (hbox); have n2_ := Aside0.mk ((by rw [hg]; exact (below_size (by repeat (first | (with_reducible first | exact HB.out | apply below_alloc | apply pw_below_drewN | apply below_drew1) | exact HB.out))) : w.heap.size ≤ gb809)); have n3_ := Aside0.mk ((by rw [hg]; exact (below_size (by repeat (first | (with_reducible first | exact HB.out | apply below_alloc | apply pw_below_drewN | apply below_drew1) | exact HB.out))) : w.heap.size ≤ gb809)); clear HB; have HB := n0_; have BK809 := n1_; have GW809 := n2_; have GE809 := n3_; clear n0_ n1_ n2_ n3_; clear hb hbox hg) | ((with_reducible refine gate_dst (N := 3) rfl ?_); refine box_event ?hg (N := 3) ?hd (cs := #[.int .i64 a1_0, .int .i64 a1_1, .bool true]) (t := 77) ?hr ?_; (case hd => rfl); (case hg => rfl); (case hr => first | (go_simp; done) | (go_simp; rfl)); intro gb810 hg w18 hbox hb; have n0_ := Aside0.mk (blk_below (g := gb809) (o := .cells #[.int .i64 a0_0, .int .i64 a0_1, .bool true] 77 (0, 0)) (by (with_reducible repeat (first | refine blk_drewN ?_ _ | refine blk_drew ?_ | refine blk_alloc ?_ _)); exact BK809.out) hb); have n1_ := Aside0.mk (below_step (by repeat (first | (with_reducible first | exact HB.out | apply below_alloc | apply pw_below_drewN | apply below_drew1 | refine below_set ?_ GE809.out) | exact HB.out)) hb); have n2_ := Aside0.mk (hbox); have n3_ := Aside0.mk ((by rw [hg]; exact (below_size (by repeat (first | (with_reducible first | exact HB.out | apply below_alloc | apply pw_below_drewN | apply below_drew1 | refine below_set ?_ GE809.out) | exact HB.out))) : w.heap.size ≤ gb810)); have n4_ := Aside0.mk ((by rw [hg]; exact (below_size (by repeat (first | (with_reducible first | exact HB.out | apply below_alloc | apply pw_below_drewN | apply below_drew1 | refine below_set ?_ GE809.out) | exact HB.out))) : w.heap.size ≤ gb810)); have n5_ := Aside0.mk ((by rw [hg]; exact Nat.ne_of_lt (blk_lt (g := gb809) (o := .cells #[.int .i64 a0_0, .int .i64 a0_1, .bool true] 77 (0, 0)) (by (with_reducible repeat (first | refine blk_drewN ?_ _ | refine blk_drew ?_ | refine blk_alloc ?_ _)); exact BK809.out)) : gb809 ≠ gb810)); have n6_ := Aside0.mk ((by rw [hg]; exact Nat.ne_of_gt (blk_lt (g := gb809) (o := .cells #[.int .i64 a0_0, .int .i64 a0_1, .bool true] 77 (0, 0)) (by (with_reducible repeat (first | refine blk_drewN ?_ _ | refine blk_drew ?_ | refine blk_alloc ?_ _)); exact BK809.out)) : gb810 ≠ gb809)); clear BK809; clear HB; have BK809 := n0_; have HB := n1_; have BK810 := n2_; have GW810 := n3_; have GE810 := n4_; have NB809_810 := n5_; have NB810_809 := n6_; clear n0_ n1_ n2_ n3_ n4_ n5_ n6_; clear hb hbox hg; have hnb19 := NB809_810.out; have hnc19 := NB810_809.out; have hcz20_0 : w18.cell? ⟨gb809, 0, none⟩ = some (.int .i64 a0_0) := (blk_cell BK809.out 0).trans rfl; have hcz20_1 : w18.cell? ⟨gb809, 1, none⟩ = some (.int .i64 a0_1) := (blk_cell BK809.out 1).trans rfl; have hcz20_2 : w18.cell? ⟨gb809, 2, none⟩ = some (.bool true) := (blk_cell BK809.out 2).trans rfl; have hfz20_0 := blk_frozen BK809.out 0; have hfz20_1 := blk_frozen BK809.out 1; have hfz20_2 := blk_frozen BK809.out 2; have hcz21_0 : w18.cell? ⟨gb810, 0, none⟩ = some (.int .i64 a1_0) := (blk_cell BK810.out 0).trans rfl; have hcz21_1 : w18.cell? ⟨gb810, 1, none⟩ = some (.int .i64 a1_1) := (blk_cell BK810.out 1).trans rfl; have hcz21_2 : w18.cell? ⟨gb810, 2, none⟩ = some (.bool true) := (blk_cell BK810.out 2).trans rfl; have hfz21_0 := blk_frozen BK810.out 0; have hfz21_1 := blk_frozen BK810.out 1; have hfz21_2 := blk_frozen BK810.out 2))
     go_ret
     exact ⟨by first | rfl | (simp [errW_none, errW_some] <;> rfl) | (simp [*, errW_none, errW_some] <;> rfl), by repeat (first | (with_reducible first | exact HB.out | apply below_alloc | apply pw_below_drewN | apply below_drew1 | refine below_set ?_ GE809.out | refine below_set ?_ GE810.out) | exact HB.out)⟩
  ·replace c4 := Bool.eq_false_iff.mpr c4
   subst c4
   have H1 : (some true) = some r := by rw [if_neg (show ¬ (false = true) by decide)] at H; exact H
   clear H
   have H := H1
   clear H1
   obtain rfl := Option.some.inj H
   go_enter Try.func92, Try.ntmps92
   go_wp2_with (first | ((with_reducible refine gate_dst (N := 2) rfl ?_); refine box_event ?hg (N := 2) ?hd (cs := #[.int .i64 a0_0, .int .i64 a0_1, .bool true]) (t := 77) ?hr ?_; (case hd => rfl); (case hg => rfl); (case hr => first | (go_simp; done) | (go_simp; rfl)); intro gb809 hg w22 hbox hb; have n0_ := Aside0.mk (below_step (by repeat (first | (with_reducible first | exact HB.out | apply below_alloc | apply pw_below_drewN | apply below_drew1) | exact HB.out)) hb); have n1_ := Aside0.mk (hbox); have n2_ := Aside0.mk ((by rw [hg]; exact (below_size (by repeat (first | (with_reducible first | exact HB.out | apply below_alloc | apply pw_below_drewN | apply below_drew1) | exact HB.out))) : w.heap.size ≤ gb809)); have n3_ := Aside0.mk ((by rw [hg]; exact (below_size (by repeat (first | (with_reducible first | exact HB.out | apply below_alloc | apply pw_below_drewN | apply below_drew1) | exact HB.out))) : w.heap.size ≤ gb809)); clear HB; have HB := n0_; have BK809 := n1_; have GW809 := n2_; have GE809 := n3_; clear n0_ n1_ n2_ n3_; clear hb hbox hg) | ((with_reducible refine gate_dst (N := 3) rfl ?_); refine box_event ?hg (N := 3) ?hd (cs := #[.int .i64 a1_0, .int .i64 a1_1, .bool false]) (t := 77) ?hr ?_; (case hd => rfl); (case hg => rfl); (case hr => first | (go_simp; done) | (go_simp; rfl)); intro gb810 hg w23 hbox hb; have n0_ := Aside0.mk (blk_below (g := gb809) (o := .cells #[.int .i64 a0_0, .int .i64 a0_1, .bool true] 77 (0, 0)) (by (with_reducible repeat (first | refine blk_drewN ?_ _ | refine blk_drew ?_ | refine blk_alloc ?_ _)); exact BK809.out) hb); have n1_ := Aside0.mk (below_step (by repeat (first | (with_reducible first | exact HB.out | apply below_alloc | apply pw_below_drewN | apply below_drew1 | refine below_set ?_ GE809.out) | exact HB.out)) hb); have n2_ := Aside0.mk (hbox); have n3_ := Aside0.mk ((by rw [hg]; exact (below_size (by repeat (first | (with_reducible first | exact HB.out | apply below_alloc | apply pw_below_drewN | apply below_drew1 | refine below_set ?_ GE809.out) | exact HB.out))) : w.heap.size ≤ gb810)); have n4_ := Aside0.mk ((by rw [hg]; exact (below_size (by repeat (first | (with_reducible first | exact HB.out | apply below_alloc | apply pw_below_drewN | apply below_drew1 | refine below_set ?_ GE809.out) | exact HB.out))) : w.heap.size ≤ gb810)); have n5_ := Aside0.mk ((by rw [hg]; exact Nat.ne_of_lt (blk_lt (g := gb809) (o := .cells #[.int .i64 a0_0, .int .i64 a0_1, .bool true] 77 (0, 0)) (by (with_reducible repeat (first | refine blk_drewN ?_ _ | refine blk_drew ?_ | refine blk_alloc ?_ _)); exact BK809.out)) : gb809 ≠ gb810)); have n6_ := Aside0.mk ((by rw [hg]; exact Nat.ne_of_gt (blk_lt (g := gb809) (o := .cells #[.int .i64 a0_0, .int .i64 a0_1, .bool true] 77 (0, 0)) (by (with_reducible repeat (first | refine blk_drewN ?_ _ | refine blk_drew ?_ | refine blk_alloc ?_ _)); exact BK809.out)) : gb810 ≠ gb809)); clear BK809; clear HB; have BK809 := n0_; have HB := n1_; have BK810 := n2_; have GW810 := n3_; have GE810 := n4_; have NB809_810 := n5_; have NB810_809 := n6_; clear n0_ n1_ n2_ n3_ n4_ n5_ n6_; clear hb hbox hg; have hnb24 := NB809_810.out; have hnc24 := NB810_809.out; have hcz25_0 : w23.cell? ⟨gb809, 0, none⟩ = some (.int .i64 a0_0) := (blk_cell BK809.out 0).trans rfl; have hcz25_1 : w23.cell? ⟨gb809, 1, none⟩ = some (.int .i64 a0_1) := (blk_cell BK809.out 1).trans rfl; have hcz25_2 : w23.cell? ⟨gb809, 2, none⟩ = some (.bool true) := (blk_cell BK809.out 2).trans rfl; have hfz25_0 := blk_frozen BK809.out 0; have hfz25_1 := blk_frozen BK809.out 1; have hfz25_2 := blk_frozen BK809.out 2; have hcz26_0 : w23.cell? ⟨gb810, 0, none⟩ = some (.int .i64 a1_0) := (blk_cell BK810.out 0).trans rfl; have hcz26_1 : w23.cell? ⟨gb810, 1, none⟩ = some (.int .i64 a1_1) := (blk_cell BK810.out 1).trans rfl; have hcz26_2 : w23.cell? ⟨gb810, 2, none⟩ = some (.bool false) := (blk_cell BK810.out 2).trans rfl; have hfz26_0 := blk_frozen BK810.out 0; have hfz26_1 := blk_frozen BK810.out 1; have hfz26_2 := blk_frozen BK810.out 2))
   go_ret
   exact ⟨by first | rfl | (simp [errW_none, errW_some] <;> rfl) | (simp [*, errW_none, errW_some] <;> rfl), by repeat (first | (with_reducible first | exact HB.out | apply below_alloc | apply pw_below_drewN | apply below_drew1 | refine below_set ?_ GE809.out | refine below_set ?_ GE810.out) | exact HB.out)⟩
 ·replace c3 := Bool.eq_false_iff.mpr c3
  subst c3
  have H1 : (some false) = some r := by rw [if_neg (show ¬ (false = true) by decide)] at H; exact H
  clear H
  have H := H1
  clear H1
  obtain rfl := Option.some.inj H
  go_enter Try.func92, Try.ntmps92
  go_wp2_with (first | ((with_reducible refine gate_dst (N := 2) rfl ?_); refine box_event ?hg (N := 2) ?hd (cs := #[.int .i64 a0_0, .int .i64 a0_1, .bool false]) (t := 77) ?hr ?_; (case hd => rfl); (case hg => rfl); (case hr => first | (go_simp; done) | (go_simp; rfl)); intro gb809 hg w27 hbox hb; have n0_ := Aside0.mk (below_step (by repeat (first | (with_reducible first | exact HB.out | apply below_alloc | apply pw_below_drewN | apply below_drew1) | exact HB.out)) hb); have n1_ := Aside0.mk (hbox); have n2_ := Aside0.mk ((by rw [hg]; exact (below_size (by repeat (first | (with_reducible first | exact HB.out | apply below_alloc | apply pw_below_drewN | apply below_drew1) | exact HB.out))) : w.heap.size ≤ gb809)); have n3_ := Aside0.mk ((by rw [hg]; exact (below_size (by repeat (first | (with_reducible first | exact HB.out | apply below_alloc | apply pw_below_drewN | apply below_drew1) | exact HB.out))) : w.heap.size ≤ gb809)); clear HB; have HB := n0_; have BK809 := n1_; have GW809 := n2_; have GE809 := n3_; clear n0_ n1_ n2_ n3_; clear hb hbox hg) | ((with_reducible refine gate_dst (N := 3) rfl ?_); refine box_event ?hg (N := 3) ?hd (cs := #[.int .i64 a1_0, .int .i64 a1_1, .bool a1_2]) (t := 77) ?hr ?_; (case hd => rfl); (case hg => rfl); (case hr => first | (go_simp; done) | (go_simp; rfl)); intro gb810 hg w28 hbox hb; have n0_ := Aside0.mk (blk_below (g := gb809) (o := .cells #[.int .i64 a0_0, .int .i64 a0_1, .bool false] 77 (0, 0)) (by (with_reducible repeat (first | refine blk_drewN ?_ _ | refine blk_drew ?_ | refine blk_alloc ?_ _)); exact BK809.out) hb); have n1_ := Aside0.mk (below_step (by repeat (first | (with_reducible first | exact HB.out | apply below_alloc | apply pw_below_drewN | apply below_drew1 | refine below_set ?_ GE809.out) | exact HB.out)) hb); have n2_ := Aside0.mk (hbox); have n3_ := Aside0.mk ((by rw [hg]; exact (below_size (by repeat (first | (with_reducible first | exact HB.out | apply below_alloc | apply pw_below_drewN | apply below_drew1 | refine below_set ?_ GE809.out) | exact HB.out))) : w.heap.size ≤ gb810)); have n4_ := Aside0.mk ((by rw [hg]; exact (below_size (by repeat (first | (with_reducible first | exact HB.out | apply below_alloc | apply pw_below_drewN | apply below_drew1 | refine below_set ?_ GE809.out) | exact HB.out))) : w.heap.size ≤ gb810)); have n5_ := Aside0.mk ((by rw [hg]; exact Nat.ne_of_lt (blk_lt (g := gb809) (o := .cells #[.int .i64 a0_0, .int .i64 a0_1, .bool false] 77 (0, 0)) (by (with_reducible repeat (first | refine blk_drewN ?_ _ | refine blk_drew ?_ | refine blk_alloc ?_ _)); exact BK809.out)) : gb809 ≠ gb810)); have n6_ := Aside0.mk ((by rw [hg]; exact Nat.ne_of_gt (blk_lt (g := gb809) (o := .cells #[.int .i64 a0_0, .int .i64 a0_1, .bool false] 77 (0, 0)) (by (with_reducible repeat (first | refine blk_drewN ?_ _ | refine blk_drew ?_ | refine blk_alloc ?_ _)); exact BK809.out)) : gb810 ≠ gb809)); clear BK809; clear HB; have BK809 := n0_; have HB := n1_; have BK810 := n2_; have GW810 := n3_; have GE810 := n4_; have NB809_810 := n5_; have NB810_809 := n6_; clear n0_ n1_ n2_ n3_ n4_ n5_ n6_; clear hb hbox hg; have hnb29 := NB809_810.out; have hnc29 := NB810_809.out; have hcz30_0 : w28.cell? ⟨gb809, 0, none⟩ = some (.int .i64 a0_0) := (blk_cell BK809.out 0).trans rfl; have hcz30_1 : w28.cell? ⟨gb809, 1, none⟩ = some (.int .i64 a0_1) := (blk_cell BK809.out 1).trans rfl; have hcz30_2 : w28.cell? ⟨gb809, 2, none⟩ = some (.bool false) := (blk_cell BK809.out 2).trans rfl; have hfz30_0 := blk_frozen BK809.out 0; have hfz30_1 := blk_frozen BK809.out 1; have hfz30_2 := blk_frozen BK809.out 2))
  go_ret
  exact ⟨by first | rfl | (simp [errW_none, errW_some] <;> rfl) | (simp [*, errW_none, errW_some] <;> rfl), by repeat (first | (with_reducible first | exact HB.out | apply below_alloc | apply pw_below_drewN | apply below_drew1 | refine below_set ?_ GE809.out | refine below_set ?_ GE810.out) | exact HB.out)⟩
end Go.Proofs.Ytojpibpjieanhaa.X
end
section
namespace Go.Proofs.Ytojpibpjieanhaa.X
open Go.RowKit Go.Proofs.YtojpibpjieanhaaW.PrintWords Go.Proofs.YtojpibpjieanhaaW.PrintLast Go.Proofs.YtojpibpjieanhaaW.PrintMore
set_option linter.unusedVariables false
set_option linter.unusedSimpArgs false
structure Bt where
  r : Int
  d : Int
  f : Bool
def btr (x y : Bt) : Bool := if x.f = true then (if y.f = true then (if x.r < y.r then true else (if x.r = y.r then decide (x.d > y.d) else false)) else true) else false
theorem btr_eq (x y : Bt) : impl_between_isBetter.f x.r x.d x.f y.r y.d y.f = some (btr x y) := by
  unfold impl_between_isBetter.f btr
  cases x.f <;> cases y.f <;> by_cases h1 : x.r < y.r <;> by_cases h2 : x.r = y.r <;> simp [h1, h2]
def upd (M : Nat → Nat → Bt) (i j : Nat) (x : Bt) : Nat → Nat → Bt := fun a b => if a = i ∧ b = j then x else M a b
structure MatW (B n : Nat) (w : World) (g3 GR : Nat) (Gs : Nat → Nat) (cR : Nat) (M : Nat → Nat → Bt) : Prop where
  b3 : w.heap[g3]? = some (.cells #[.slice (some ⟨GR, 0, none⟩) n cR] 79 (0, 0))
  row : ∃ cells, w.heap[GR]? = some (.cells cells 78 (0, 0)) ∧ (cells.size = cR ∧ n ≤ cR ∧ cR ≤ maxLen) ∧ ∀ i, i < n → cells[i]? = some (.slice (some ⟨Gs i, 0, none⟩) n n)
  blk : ∀ i, i < n → ∃ cells, w.heap[Gs i]? = some (.cells cells 77 (0, 0)) ∧ cells.size = n * 3 ∧ ∀ j, j < n → cells[j * 3]? = some (.int .i64 (M i j).r) ∧ cells[j * 3 + 1]? = some (.int .i64 (M i j).d) ∧ cells[j * 3 + 2]? = some (.bool (M i j).f)
  inj : ∀ i j, i < n → j < n → Gs i = Gs j → i = j
  h3 : B ≤ g3
  hR : B ≤ GR
  hs : ∀ i, i < n → B ≤ Gs i
variable {B n : Nat} {w : World} {g3 GR : Nat} {Gs : Nat → Nat} {cR : Nat} {M : Nat → Nat → Bt}
theorem MatW.keep (h : MatW B n w g3 GR Gs cR M) {w1 : World} (hk : ∀ k o, w.heap[k]? = some o → (k = g3 ∨ k = GR ∨ ∃ i, i < n ∧ k = Gs i) → w1.heap[k]? = some o) : MatW B n w1 g3 GR Gs cR M :=
  { h with
    b3 := hk _ _ h.b3 (.inl rfl)
    row := by obtain ⟨cells, h1, h2⟩ := h.row; exact ⟨cells, hk _ _ h1 (.inr (.inl rfl)), h2⟩
    blk := fun i hi => by obtain ⟨cells, h1, h2⟩ := h.blk i hi; exact ⟨cells, hk _ _ h1 (.inr (.inr ⟨i, hi, rfl⟩)), h2⟩ }
theorem MatW.move (h : MatW B n w g3 GR Gs cR M) {w1 : World} (hb : Below w.heap.size w w1) : MatW B n w1 g3 GR Gs cR M :=
  h.keep fun k o ho _ => (hb.block k (blk_lt ho)).trans ho
theorem MatW.drew (h : MatW B n w g3 GR Gs cR M) : MatW B n w.drew g3 GR Gs cR M := h.move (below_drew1 (Below.refl _ _))
theorem MatW.alloc (h : MatW B n w g3 GR Gs cR M) (o : Obj) : MatW B n (w.alloc o) g3 GR Gs cR M := h.move (below_alloc (Below.refl _ _) _)
theorem MatW.far (h : MatW B n w g3 GR Gs cR M) {g : Nat} {cs : Array Value} {t : TypeId} (hg : w.heap[g]? = some (.cells cs t (0, 0))) (h1 : 79 ≠ t) (h2 : 78 ≠ t) (h3 : 77 ≠ t) (j : Nat) (u : Value) : MatW B n (w.setCell ⟨g, j, none⟩ u) g3 GR Gs cR M :=
  h.keep fun k o ho hk => by
    refine (Below.heap_setCell w ⟨g, j, none⟩ u k ?_).trans ho
    rcases hk with rfl | rfl | ⟨i, hi, rfl⟩
    · exact blk_ne h.b3 hg h1
    · obtain ⟨cells, q1, _⟩ := h.row; exact blk_ne q1 hg h2
    · obtain ⟨cells, q1, _⟩ := h.blk i hi; exact blk_ne q1 hg h3
theorem MatW.c3 (h : MatW B n w g3 GR Gs cR M) : w.cell? ⟨g3, 0, none⟩ = some (.slice (some ⟨GR, 0, none⟩) n cR) := (blk_cell h.b3 0).trans rfl
theorem MatW.cRow (h : MatW B n w g3 GR Gs cR M) (i : Nat) (hi : i < n) : w.cell? ⟨GR, i, none⟩ = some (.slice (some ⟨Gs i, 0, none⟩) n n) := by
  obtain ⟨cells, q1, _, q2⟩ := h.row; rw [blk_cell q1]; exact q2 i hi
theorem MatW.cM (h : MatW B n w g3 GR Gs cR M) (i j : Nat) (hi : i < n) (hj : j < n) : w.cell? ⟨Gs i, j * 3, none⟩ = some (.int .i64 (M i j).r) ∧ w.cell? ⟨Gs i, j * 3 + 1, none⟩ = some (.int .i64 (M i j).d) ∧ w.cell? ⟨Gs i, j * 3 + 2, none⟩ = some (.bool (M i j).f) := by
  obtain ⟨cells, q1, _, q2⟩ := h.blk i hi; rw [blk_cell q1, blk_cell q1, blk_cell q1]; exact q2 j hj
theorem MatW.zM (h : MatW B n w g3 GR Gs cR M) (i : Nat) (hi : i < n) (o : Nat) : w.frozen? ⟨Gs i, o, none⟩ = false := by
  obtain ⟨cells, q1, q2⟩ := h.blk i hi; exact blk_frozen q1 o
theorem set_get (cs : Array Value) (p q : Nat) (u : Value) : (cs.setIfInBounds p u)[q]? = if p = q then (if p < cs.size then some u else none) else cs[q]? := Array.getElem?_setIfInBounds
theorem MatW.put (h : MatW B n w g3 GR Gs cR M) (i j : Nat) (hi : i < n) (hj : j < n) (x : Bt) :
    MatW B n (((w.setCell ⟨Gs i, j * 3, none⟩ (.int .i64 x.r)).setCell ⟨Gs i, j * 3 + 1, none⟩ (.int .i64 x.d)).setCell ⟨Gs i, j * 3 + 2, none⟩ (.bool x.f)) g3 GR Gs cR (upd M i j x) := by
  obtain ⟨ci, q1, qz, q2⟩ := h.blk i hi
  have p1 := blk_put q1 (j * 3) (.int .i64 x.r) rfl
  have p2 := blk_put p1 (j * 3 + 1) (.int .i64 x.d) rfl
  have p3 := blk_put p2 (j * 3 + 2) (.bool x.f) rfl
  have far : ∀ (k : Nat) (o : Obj), w.heap[k]? = some o → k ≠ Gs i → (((w.setCell ⟨Gs i, j * 3, none⟩ (.int .i64 x.r)).setCell ⟨Gs i, j * 3 + 1, none⟩ (.int .i64 x.d)).setCell ⟨Gs i, j * 3 + 2, none⟩ (.bool x.f)).heap[k]? = some o := fun k o ho hk =>
    (Below.heap_setCell _ ⟨Gs i, j * 3 + 2, none⟩ _ k hk).trans ((Below.heap_setCell _ ⟨Gs i, j * 3 + 1, none⟩ _ k hk).trans ((Below.heap_setCell w ⟨Gs i, j * 3, none⟩ _ k hk).trans ho))
  exact { h with
    b3 := far _ _ h.b3 (blk_ne h.b3 q1 (by decide))
    row := by obtain ⟨cells, r1, r2⟩ := h.row; exact ⟨cells, far _ _ r1 (blk_ne r1 q1 (by decide)), r2⟩
    blk := fun a ha => by
      by_cases e : a = i
      · subst e
        refine ⟨_, p3, by simpa only [Array.size_setIfInBounds] using qz, fun b hb => ?_⟩
        obtain ⟨k1, k2, k3⟩ := q2 b hb
        obtain ⟨l1, l2, l3⟩ := q2 j hj
        have s1 := (Array.getElem?_eq_some_iff.1 l1).1
        have s2 := (Array.getElem?_eq_some_iff.1 l2).1
        have s3 := (Array.getElem?_eq_some_iff.1 l3).1
        simp only [set_get, Array.size_setIfInBounds]
        unfold upd
        by_cases eb : b = j
        · subst eb
          simp [s1, s2, s3]
        · rw [if_neg (show ¬ (a = a ∧ b = j) from fun hh => eb hh.2), if_neg (by omega), if_neg (by omega), if_neg (by omega), if_neg (by omega), if_neg (by omega), if_neg (by omega), if_neg (by omega), if_neg (by omega), if_neg (by omega)]
          exact ⟨k1, k2, k3⟩
      · obtain ⟨cells, r1, rz, r2⟩ := h.blk a ha
        refine ⟨cells, far _ _ r1 (fun hh => e (h.inj a i ha hi hh)), rz, fun b hb => ?_⟩
        unfold upd
        rw [if_neg (show ¬ (a = i ∧ b = j) from fun hh => e hh.1)]
        exact r2 b hb }
theorem step_append_own {P : Program} {ops : Array Oper} {o : Oper} {a : Act} {w : World} {K : Act → World → Prop} {Q : Exit → Act → World → Prop} {E : Prop} (hgd : o.guard = none) (s x : Operand) (t : TypeId)
    (ho : o.op = Op.call { callee := Callee.builtin Builtin.append, args := #[s, x], argTypes := #[t, t] }) (e : TypeId) (z : Value) (bytes : Nat)
    (ht : P.underlying t = some (.slice e)) (hinfo : (P.info? e).map (fun i => (i.zero, i.size, i.bytes)) = some (some z, 1, bytes)) (hz : z.cells.size = 1) (hb0 : 0 < bytes)
    (base : Nat) (v : Value) (n : Nat) (xs : List Value) (hs : a.eval s = v) (ad : Addr) (c : Nat) (y : Value) (hx : a.eval x = .slice (some ad) 1 c) (hc : w.cell? ad = some y) (h1 : y.oneCell' = true)
    (HO : w.ownsRow base e 1 v n xs) (hbase : base ≤ w.heap.size) (hl : (n + 1) * bytes ≤ 140737488355328)
    (hK : ∀ v' w', w'.ownsRow base e 1 v' (n + 1) (xs ++ [y]) → w.grownBy w' v.ownBlock → (v'.ownBlock = v.ownBlock ∨ ∃ b, v'.ownBlock = some b ∧ w.heap.size ≤ b) → K (a.put o.dst v') w') :
    if Region.wanted o (yielded ops a.tmps) = true then Oper.wp P o a w K Q else E := by
  have hw : Region.wanted o (yielded ops a.tmps) = true := by simp [Region.wanted, hgd]
  rw [if_pos hw]
  obtain ⟨i0, hi, hzz⟩ := Option.map_eq_some_iff.1 hinfo
  simp only [Prod.mk.injEq] at hzz
  obtain ⟨hz0, hz1, hz2⟩ := hzz
  have hlen : n + 1 ≤ 140737488355328 := Nat.le_trans (Nat.le_mul_of_pos_right _ hb0) hl
  obtain ⟨v1, w1, hr, h2, h3, _, h5⟩ := run_append_own_at (P := P) (w := w) base t o.type e i0 z 1 bytes ht hi hz0 hz1 hz2 hz (by omega) v n xs HO ad 1 c [y] rfl
    (fun j u hj => by
      cases j with
      | zero => rw [← Option.some.inj hj]; simpa [Addr.add] using hc
      | succ j => simp at hj)
    (by intro u hu; obtain rfl := List.mem_singleton.1 hu; exact h1) (by simp only [maxLen]; omega) hl hbase
  unfold Oper.wp
  simp [execOp, ho, resolve, invoke, builtin, hs, hx, hr, Result.andThen]
  refine hK v1 w1 h2 h3 ?_
  rcases h5 with h5 | h5
  · exact .inl h5
  · exact .inr ⟨_, h5, Nat.le_refl _⟩
end Go.Proofs.Ytojpibpjieanhaa.X
end
section
namespace Go.Proofs.Ytojpibpjieanhaa.FewMath
open Go.Proofs.Ytojpibpjieanhaa.X Go.Proofs.Ytojpibpjieanhaa.FlowMath
set_option linter.unusedVariables false
set_option linter.unusedSimpArgs false
set_option linter.unusedSectionVars false
inductive T (E : Nat → Nat → Int → Prop) (d : Nat → Int) (a : Nat) : Nat → Nat → Int → Prop
  | one {v c} : E a v c → T E d a 1 v (1000000 * c - d a - d v)
  | snoc {m u v x c} : T E d a m u x → E u v c → T E d a (m + 1) v (x + 1000000 * c - d v)
structure Net (E : Nat → Nat → Int → Prop) (d : Nat → Int) (n : Nat) : Prop where
  n8 : n ≤ 8
  lt : ∀ u v c, E u v c → u < n ∧ v < n ∧ 0 ≤ c ∧ c ≤ 20
  del : ∀ v, 0 ≤ d v ∧ d v ≤ 100
  ac : ∀ v, ¬ Plus (fun u v => E u v 0) v v
variable {E : Nat → Nat → Int → Prop} {d : Nat → Int} {n : Nat} {a : Nat}
theorem T.eqv {m v : Nat} {x y : Int} (h : T E d a m v x) (e : x = y) : T E d a m v y := e ▸ h
theorem T.cons {m v : Nat} {x : Int} (h : T E d a m v x) {u : Nat} {c : Int} (hE : E u a c) : T E d u (m + 1) v (x + 1000000 * c - d u) := by
  induction h with
  | one h => exact ((T.one hE).snoc h).eqv (by omega)
  | snoc _ h ih => exact (ih.snoc h).eqv (by omega)
theorem T.rev {m v : Nat} {x : Int} (h : T E d a m v x) : T (fun u v c => E v u c) d v m a x := by
  induction h with
  | @one v c h => exact (T.one (E := fun u v c => E v u c) (d := d) (a := v) (v := a) (c := c) h).eqv (by omega)
  | @snoc m u v x c _ h ih => exact ih.cons h
theorem T.pos {m v : Nat} {x : Int} (h : T E d a m v x) : 1 ≤ m := by cases h <;> omega
theorem T.lt (hN : Net E d n) {m v : Nat} {x : Int} (h : T E d a m v x) : v < n := by
  cases h with
  | one h => exact (hN.lt _ _ _ h).2.1
  | snoc _ h => exact (hN.lt _ _ _ h).2.1
theorem chain {m v : Nat} {x : Int} (h : T E d a m v x) : ∃ (p : Nat → Nat) (q : Nat → Int), p m = v ∧ q m = x ∧ (∀ i, 1 ≤ i → i ≤ m → T E d a i (p i) (q i)) ∧ ∀ i, 1 ≤ i → i < m → ∃ c, E (p i) (p (i + 1)) c ∧ q (i + 1) = q i + 1000000 * c - d (p (i + 1)) := by
  induction h with
  | @one v c h =>
    refine ⟨fun _ => v, fun _ => _, rfl, rfl, fun i h1 h2 => ?_, fun i h1 h2 => by omega⟩
    have : i = 1 := by omega
    subst this
    exact .one h
  | @snoc m u v x c h hE ih =>
    obtain ⟨p, q, e1, e2, h3, h4⟩ := ih
    refine ⟨fun i => if i = m + 1 then v else p i, fun i => if i = m + 1 then x + 1000000 * c - d v else q i, by simp, by simp, fun i h1 h2 => ?_, fun i h1 h2 => ?_⟩
    · by_cases e : i = m + 1
      · subst e; simp only [if_true]; exact h.snoc hE
      · simp only [if_neg e]; exact h3 i h1 (by omega)
    · by_cases e : i = m
      · subst e
        refine ⟨c, ?_, ?_⟩
        · simp only [if_neg (show ¬ i = i + 1 by omega), if_true]; rw [e1]; exact hE
        · simp only [if_neg (show ¬ i = i + 1 by omega), if_true]; rw [e2]
      · obtain ⟨c', g1, g2⟩ := h4 i h1 (by omega)
        refine ⟨c', ?_, ?_⟩
        · simp only [if_neg (show ¬ i = m + 1 by omega), if_neg (show ¬ i + 1 = m + 1 by omega)]; exact g1
        · simp only [if_neg (show ¬ i = m + 1 by omega), if_neg (show ¬ i + 1 = m + 1 by omega)]; exact g2
theorem seg (hN : Net E d n) {p : Nat → Nat} {q : Nat → Int} {m : Nat} (h4 : ∀ i, 1 ≤ i → i < m → ∃ c, E (p i) (p (i + 1)) c ∧ q (i + 1) = q i + 1000000 * c - d (p (i + 1))) (i : Nat) (hi : 1 ≤ i) : ∀ e : Nat, i + e ≤ m →
    q i ≤ q (i + e) + 100 * e ∧ ((e = 0 ∨ Plus (fun u v => E u v 0) (p i) (p (i + e))) ∨ q i + 1000000 ≤ q (i + e) + 100 * e)
  | 0, _ => ⟨by simp, .inl (.inl rfl)⟩
  | e + 1, he => by
    obtain ⟨h1, h2⟩ := seg hN h4 i hi e (by omega)
    obtain ⟨c, g1, g2⟩ := h4 (i + e) (by omega) (by omega)
    rw [Nat.add_assoc] at g1 g2
    have hd := hN.del (p (i + (e + 1)))
    have hc := hN.lt _ _ _ g1
    by_cases c0 : c = 0
    · subst c0
      refine ⟨by omega, ?_⟩
      rcases h2 with (h2 | h2) | h2
      · subst h2; exact .inl (.inr (.one g1))
      · exact .inl (.inr (h2.snoc g1))
      · exact .inr (by omega)
    · exact ⟨by omega, .inr (by omega)⟩
theorem short (hN : Net E d n) : ∀ (m v : Nat) (x : Int), T E d a m v x → ∃ m' x', m' ≤ n ∧ x' ≤ x ∧ T E d a m' v x' := by
  intro m
  induction m using Nat.strongRecOn with
  | _ m ih =>
    intro v x h
    by_cases hm : m ≤ n
    · exact ⟨m, x, hm, Int.le_refl _, h⟩
    · obtain ⟨p, q, e1, e2, h3, h4⟩ := chain h
      obtain ⟨i, j, hij, hj, he⟩ := pigeon n (fun i => p (i + 1)) (fun i hi => (h3 (i + 1) (by omega) (by omega)).lt hN)
      have he : p (i + 1) = p (j + 1) := he
      obtain ⟨s1, s2⟩ := seg hN h4 (i + 1) (by omega) (j - i) (by omega)
      rw [show i + 1 + (j - i) = j + 1 by omega] at s1 s2
      have hn := hN.n8
      have hlt : q (i + 1) < q (j + 1) := by
        rcases s2 with (s2 | s2) | s2
        · omega
        · rw [← he] at s2; exact absurd s2 (hN.ac _)
        · omega
      have hk : ∀ k, j + 1 + k ≤ m → T E d a (i + 1 + k) (p (j + 1 + k)) (q (j + 1 + k) - (q (j + 1) - q (i + 1))) := by
        intro k
        induction k with
        | zero => intro _; have := h3 (i + 1) (by omega) (by omega); rw [he] at this; exact this.eqv (by simp only [Nat.add_zero]; omega)
        | succ k ihk =>
          intro hk
          obtain ⟨c, g1, g2⟩ := h4 (j + 1 + k) (by omega) (by omega)
          exact ((ihk (by omega)).snoc g1).eqv (by rw [show j + 1 + (k + 1) = j + 1 + k + 1 by omega, g2]; omega)
      have := hk (m - (j + 1)) (by omega)
      rw [show j + 1 + (m - (j + 1)) = m by omega, e1, e2] at this
      obtain ⟨m', x', r1, r2, r3⟩ := ih _ (by omega) v _ this
      exact ⟨m', x', r1, by omega, r3⟩
def key (x : Bt) : Int := 1000000 * x.r - x.d
def Bd (t : Nat) (x : Bt) : Prop := x.f = true → 0 ≤ x.r ∧ x.r ≤ 20 * t ∧ 0 ≤ x.d ∧ x.d ≤ 100 * t
theorem Bd.up {t t' : Nat} {x : Bt} (h : Bd t x) (ht : t ≤ t') : Bd t' x := fun hf => by have := h hf; omega
def Le (x y : Bt) : Prop := y.f = true → x.f = true ∧ key x ≤ key y
def hit (x : Bt) (c : Int) : Prop := x.f = true ∧ key x ≤ c
theorem Le.refl (x : Bt) : Le x x := fun h => ⟨h, Int.le_refl _⟩
theorem Le.trans {x y z : Bt} (h : Le x y) (k : Le y z) : Le x z := fun hz => by
  obtain ⟨h1, h2⟩ := k hz
  obtain ⟨h3, h4⟩ := h h1
  exact ⟨h3, by omega⟩
theorem hit.le {x y : Bt} {c : Int} (h : hit y c) (k : Le x y) : hit x c := by
  obtain ⟨h1, h2⟩ := k h.1
  exact ⟨h1, by have := h.2; omega⟩
theorem btr_iff {t : Nat} (ht : t ≤ 9000) {x y : Bt} (hx : Bd t x) (hy : Bd t y) (hf : x.f = true) : btr x y = true ↔ (y.f = true → key x < key y) := by
  unfold btr key
  rw [if_pos hf]
  have bx := hx hf
  cases hg : y.f with
  | false => simp
  | true =>
    have bye := hy hg
    simp only [if_true]
    by_cases h1 : x.r < y.r
    · rw [if_pos h1]; simp; omega
    · rw [if_neg h1]
      by_cases h2 : x.r = y.r
      · rw [if_pos h2]; simp; omega
      · rw [if_neg h2]; simp; omega
theorem btr_none {x y : Bt} (hf : x.f = false) : btr x y = false := by unfold btr; rw [if_neg (by rw [hf]; decide)]
def pick (x y : Bt) : Bt := if btr x y = true then x else y
theorem pick_old {t : Nat} (ht : t ≤ 9000) {x y : Bt} (hx : Bd t x) (hy : Bd t y) : Le (pick x y) y := by
  unfold pick
  cases hf : x.f with
  | false => rw [btr_none hf]; exact Le.refl _
  | true =>
    by_cases hb : btr x y = true
    · rw [if_pos hb]; intro hg; exact ⟨hf, by have := (btr_iff ht hx hy hf).1 hb hg; omega⟩
    · rw [if_neg hb]; exact Le.refl _
theorem pick_new {t : Nat} (ht : t ≤ 9000) {x y : Bt} (hx : Bd t x) (hy : Bd t y) : Le (pick x y) x := by
  intro hf
  unfold pick
  by_cases hb : btr x y = true
  · rw [if_pos hb]; exact ⟨hf, Int.le_refl _⟩
  · rw [if_neg hb]
    rw [btr_iff ht hx hy hf] at hb
    by_cases hg : y.f = true
    · exact ⟨hg, by have : ¬ key x < key y := fun h => hb fun _ => h
                    omega⟩
    · exact absurd (fun h => absurd h hg) hb
section
variable {N : Type} [DecidableEq N]
def rlx (L : N → Bt) (v : N) (x : Bt) : N → Bt := fun u => if u = v then pick x (L v) else L u
theorem rlx_bd {t : Nat} {L : N → Bt} (h : ∀ u, Bd t (L u)) {v : N} {x : Bt} (hx : Bd t x) : ∀ u, Bd t (rlx L v x u) := by
  intro u
  unfold rlx
  split
  · unfold pick; split
    · exact hx
    · exact h v
  · exact h u
theorem rlx_old {t : Nat} (ht : t ≤ 9000) {L : N → Bt} (h : ∀ u, Bd t (L u)) {v : N} {x : Bt} (hx : Bd t x) (u : N) : Le (rlx L v x u) (L u) := by
  unfold rlx
  split
  · subst_vars; exact pick_old ht hx (h _)
  · exact Le.refl _
theorem rlx_new {t : Nat} (ht : t ≤ 9000) {L : N → Bt} (h : ∀ u, Bd t (L u)) {v : N} {x : Bt} (hx : Bd t x) : Le (rlx L v x v) x := by
  unfold rlx
  rw [if_pos rfl]
  exact pick_new ht hx (h _)
theorem rlx_same {L : N → Bt} {v : N} {x : Bt} (hb : btr x (L v) = false) : rlx L v x = L := by
  funext u
  unfold rlx pick
  by_cases e : u = v
  · rw [if_pos e, hb, e]; rfl
  · rw [if_neg e]
inductive Ev (N : Type)
  | base (v : N) (c e : Int)
  | link (u v : N) (c e : Int)
def ext (x : Bt) (c e : Int) : Bt := ⟨x.r + c, x.d + e, x.f⟩
def Ev.at : Ev N → N
  | .base v _ _ => v
  | .link _ v _ _ => v
def Ev.cand (L : N → Bt) : Ev N → Bt
  | .base _ c e => ⟨c, e, true⟩
  | .link u _ c e => ext (L u) c e
def Ev.ok : Ev N → Prop
  | .base _ c e => 0 ≤ c ∧ c ≤ 20 ∧ 0 ≤ e ∧ e ≤ 200
  | .link _ _ c e => 0 ≤ c ∧ c ≤ 20 ∧ 0 ≤ e ∧ e ≤ 100
def step1 (s : (N → Bt) × Bool) (e : Ev N) : (N → Bt) × Bool := (rlx s.1 e.at (e.cand s.1), s.2 || btr (e.cand s.1) (s.1 e.at))
def run (evs : List (Ev N)) (s : (N → Bt) × Bool) : (N → Bt) × Bool := evs.foldl step1 s
theorem cand_bd {t : Nat} (h1 : 1 ≤ t) {L : N → Bt} (h : ∀ u, Bd t (L u)) {e : Ev N} (he : e.ok) : Bd (t + 1) (e.cand L) := by
  cases e with
  | base v c e => intro _; unfold Ev.ok at he; unfold Ev.cand; simp only at he ⊢; omega
  | link u v c e => intro hf; have := h u hf; unfold Ev.ok at he; unfold Ev.cand ext; simp only at he ⊢; omega
theorem run_bd : ∀ (evs : List (Ev N)) (t : Nat) (s : (N → Bt) × Bool), 1 ≤ t → (∀ e, e ∈ evs → e.ok) → (∀ u, Bd t (s.1 u)) → ∀ u, Bd (t + evs.length) ((run evs s).1 u)
  | [], _, _, _, _, h => h
  | e :: evs, t, s, h1, he, h => fun u => by
    have hb := rlx_bd (L := s.1) (v := e.at) (fun u => (h u).up (Nat.le_succ t)) (cand_bd h1 h (he e (List.mem_cons_self ..)))
    have := run_bd evs (t + 1) (step1 s e) (by omega) (fun x hx => he x (List.mem_cons_of_mem _ hx)) hb u
    rw [List.length_cons, show t + (evs.length + 1) = t + 1 + evs.length by omega]
    exact this
theorem run_old : ∀ (evs : List (Ev N)) (t : Nat) (s : (N → Bt) × Bool), 1 ≤ t → t + evs.length ≤ 9000 → (∀ e, e ∈ evs → e.ok) → (∀ u, Bd t (s.1 u)) → ∀ u, Le ((run evs s).1 u) (s.1 u)
  | [], _, _, _, _, _, _, _ => Le.refl _
  | e :: evs, t, s, h1, ht, he, h, u => by
    rw [List.length_cons] at ht
    have hc := cand_bd h1 h (he e (List.mem_cons_self ..))
    have hb := rlx_bd (L := s.1) (v := e.at) (fun u => (h u).up (Nat.le_succ t)) hc
    have := run_old evs (t + 1) (step1 s e) (by omega) (by omega) (fun x hx => he x (List.mem_cons_of_mem _ hx)) hb u
    exact this.trans (rlx_old (t := t + 1) (by omega) (fun u => (h u).up (Nat.le_succ t)) hc u)
theorem run_new : ∀ (evs : List (Ev N)) (t : Nat) (s : (N → Bt) × Bool), 1 ≤ t → t + evs.length ≤ 9000 → (∀ e, e ∈ evs → e.ok) → (∀ u, Bd t (s.1 u)) → ∀ e, e ∈ evs → ∀ x, hit (e.cand s.1) x → hit ((run evs s).1 e.at) x
  | [], _, _, _, _, _, _, _, h, _, _ => by cases h
  | e :: evs, t, s, h1, ht, he, h, e0, h0, x, hx => by
    rw [List.length_cons] at ht
    have hc := cand_bd h1 h (he e (List.mem_cons_self ..))
    have hup : ∀ u, Bd (t + 1) (s.1 u) := fun u => (h u).up (Nat.le_succ t)
    have hb := rlx_bd (L := s.1) (v := e.at) hup hc
    have hr : ∀ x, x ∈ evs → x.ok := fun x hx => he x (List.mem_cons_of_mem _ hx)
    rcases List.mem_cons.1 h0 with rfl | h0
    · have k1 : hit ((step1 s e0).1 e0.at) x := hx.le (rlx_new (t := t + 1) (by omega) hup hc)
      exact k1.le (run_old evs (t + 1) (step1 s e0) (by omega) (by omega) hr hb e0.at)
    · refine run_new evs (t + 1) (step1 s e) (by omega) (by omega) hr hb e0 h0 x ?_
      cases e0 with
      | base v c e => exact hx
      | link u v c b =>
        have hl : Le ((step1 s e).1 u) (s.1 u) := rlx_old (t := t + 1) (by omega) hup hc u
        obtain ⟨g1, g2⟩ := hx
        obtain ⟨g3, g4⟩ := hl g1
        refine ⟨g3, ?_⟩
        unfold Ev.cand ext key at g2 ⊢
        unfold key at g4
        simp only at g2 ⊢
        omega
theorem run_flag : ∀ (evs : List (Ev N)) (s : (N → Bt) × Bool), (run evs s).2 = false → s.2 = false ∧ run evs s = s ∧ ∀ e, e ∈ evs → btr (e.cand s.1) (s.1 e.at) = false
  | [], s, h => ⟨h, rfl, fun e he => by cases he⟩
  | e :: evs, s, h => by
    obtain ⟨h1, h2, h3⟩ := run_flag evs (step1 s e) h
    have h1' : (s.2 || btr (e.cand s.1) (s.1 e.at)) = false := h1
    rw [Bool.or_eq_false_iff] at h1'
    have es : step1 s e = s := by
      unfold step1
      rw [rlx_same h1'.2, h1'.1, h1'.2]
      exact Prod.ext rfl h1'.1.symm
    refine ⟨h1'.1, h2.trans es, fun x hx => ?_⟩
    rcases List.mem_cons.1 hx with rfl | hx
    · exact h1'.2
    · have := h3 x hx; rw [es] at this; exact this
theorem run_still : ∀ (evs : List (Ev N)) (s : (N → Bt) × Bool), (∀ e, e ∈ evs → btr (e.cand s.1) (s.1 e.at) = false) → run evs s = s
  | [], s, _ => rfl
  | e :: evs, s, h => by
    have h0 := h e (List.mem_cons_self ..)
    have es : step1 s e = s := by
      unfold step1
      rw [rlx_same h0, h0, Bool.or_false]
    show run evs (step1 s e) = s
    rw [es]
    exact run_still evs s fun x hx => h x (List.mem_cons_of_mem _ hx)
structure Ways (W : Nat → N → Int → Prop) (evs : List (Ev N)) (n : Nat) : Prop where
  n8 : n ≤ 8
  few : evs.length ≤ 200
  ok : ∀ e, e ∈ evs → e.ok
  base : ∀ v c e, Ev.base v c e ∈ evs → W 1 v (1000000 * c - e)
  link : ∀ u v c e m x, Ev.link u v c e ∈ evs → W m u x → W (m + 1) v (x + 1000000 * c - e)
  back : ∀ m v x, W (m + 2) v x → ∃ u x' c e, W (m + 1) u x' ∧ Ev.link u v c e ∈ evs ∧ x = x' + 1000000 * c - e
  pos : ∀ m v x, W m v x → 1 ≤ m
  short : ∀ m v x, W m v x → ∃ m' x', m' ≤ n ∧ x' ≤ x ∧ W m' v x'
variable {W : Nat → N → Int → Prop} {evs : List (Ev N)}
def Sound (W : Nat → N → Int → Prop) (L : N → Bt) : Prop := ∀ v, (L v).f = true → ∃ m, W m v (key (L v))
def Prog (W : Nat → N → Int → Prop) (k : Nat) (L : N → Bt) : Prop := ∀ m v x, m ≤ k → W m v x → hit (L v) x
def Full (W : Nat → N → Int → Prop) (L : N → Bt) : Prop := ∀ m v x, W m v x → hit (L v) x
theorem cand_sound (hW : Ways W evs n) {L : N → Bt} (h : Sound W L) {e : Ev N} (he : e ∈ evs) (hf : (e.cand L).f = true) : ∃ m, W m e.at (key (e.cand L)) := by
  cases e with
  | base v c e => exact ⟨1, hW.base v c e he⟩
  | link u v c e =>
    obtain ⟨m, hm⟩ := h u hf
    refine ⟨m + 1, ?_⟩
    have := hW.link u v c e m _ he hm
    have ek : key (Ev.cand L (.link u v c e)) = key (L u) + 1000000 * c - e := by unfold Ev.cand ext key; simp only; omega
    rw [ek]; exact this
theorem run_sound (hW : Ways W evs n) : ∀ (l : List (Ev N)) (s : (N → Bt) × Bool), (∀ e, e ∈ l → e ∈ evs) → Sound W s.1 → Sound W (run l s).1
  | [], _, _, h => h
  | e :: l, s, hl, h => by
    refine run_sound hW l (step1 s e) (fun x hx => hl x (List.mem_cons_of_mem _ hx)) fun v hv => ?_
    have hv : (rlx s.1 e.at (e.cand s.1) v).f = true := hv
    show ∃ m, W m v (key (rlx s.1 e.at (e.cand s.1) v))
    unfold rlx pick at hv ⊢
    by_cases ev : v = e.at
    · rw [if_pos ev] at hv ⊢
      by_cases hb : btr (e.cand s.1) (s.1 e.at) = true
      · rw [if_pos hb] at hv ⊢
        rw [ev]; exact cand_sound hW h (hl e (List.mem_cons_self ..)) hv
      · rw [if_neg hb] at hv ⊢; rw [ev]; exact h _ hv
    · rw [if_neg ev] at hv ⊢; exact h _ hv
theorem prog_next (hW : Ways W evs n) {t : Nat} (h1 : 1 ≤ t) (ht : t + evs.length ≤ 9000) {s : (N → Bt) × Bool} (hb : ∀ u, Bd t (s.1 u)) {k : Nat} (hp : Prog W k s.1) (h0 : ∀ v x, W 1 v x → hit ((run evs s).1 v) x) : Prog W (k + 1) (run evs s).1 := by
  intro m v x hm hw
  match m, hm, hw with
  | 0, _, hw => exact absurd (hW.pos _ _ _ hw) (by omega)
  | 1, _, hw => exact h0 v x hw
  | m + 2, hm, hw =>
    obtain ⟨u, x', c, e, g1, g2, rfl⟩ := hW.back m v x hw
    have hh := hp _ _ _ (by omega) g1
    refine run_new evs t s h1 ht hW.ok hb _ g2 _ ⟨hh.1, ?_⟩
    have := hh.2
    unfold Ev.cand ext key
    unfold key at this
    simp only
    omega
theorem prog_full (hW : Ways W evs n) {L : N → Bt} (hp : Prog W n L) : Full W L := by
  intro m v x hw
  obtain ⟨m', x', g1, g2, g3⟩ := hW.short m v x hw
  have := hp _ _ _ g1 g3
  exact ⟨this.1, by have := this.2; omega⟩
theorem full_still (hW : Ways W evs n) {t : Nat} (h1 : 1 ≤ t) (ht : t + 1 ≤ 9000) {s : (N → Bt) × Bool} (hb : ∀ u, Bd t (s.1 u)) (hs : Sound W s.1) (hf : Full W s.1) : run evs s = s := by
  refine run_still evs s fun e he => ?_
  cases hc : (e.cand s.1).f with
  | false => exact btr_none hc
  | true =>
    obtain ⟨m, hm⟩ := cand_sound hW hs he hc
    have hh := hf _ _ _ hm
    cases hbb : btr (e.cand s.1) (s.1 e.at) with
    | false => rfl
    | true =>
      have := (btr_iff (t := t + 1) ht (cand_bd h1 hb (hW.ok e he)) ((hb _).up (Nat.le_succ t)) hc).1 hbb hh.1
      have := hh.2
      omega
theorem fixed_full (hW : Ways W evs n) {t : Nat} (h1 : 1 ≤ t) (ht : t + 1 ≤ 9000) {s : (N → Bt) × Bool} (hb : ∀ u, Bd t (s.1 u)) (h0 : ∀ v x, W 1 v x → hit (s.1 v) x) (hf : (run evs s).2 = false) : Full W s.1 := by
  obtain ⟨_, _, h3⟩ := run_flag evs s hf
  intro m
  induction m with
  | zero => intro v x hw; exact absurd (hW.pos _ _ _ hw) (by omega)
  | succ m ih =>
    intro v x hw
    cases m with
    | zero => exact h0 v x hw
    | succ m =>
      obtain ⟨u, x', c, e, g1, g2, rfl⟩ := hW.back m v x hw
      have hh := ih u x' g1
      have hn := h3 _ g2
      have hc : (Ev.cand s.1 (.link u v c e)).f = true := hh.1
      have hi := btr_iff (t := t + 1) ht (cand_bd h1 hb (hW.ok _ g2)) ((hb v).up (Nat.le_succ t)) hc
      have hnn : ¬ (btr (Ev.cand s.1 (.link u v c e)) (s.1 v) = true) := Bool.eq_false_iff.1 hn
      rw [hi] at hnn
      by_cases hg : (s.1 v).f = true
      · refine ⟨hg, ?_⟩
        have h5 : ¬ key (Ev.cand s.1 (.link u v c e)) < key (s.1 v) := fun h => hnn fun _ => h
        have h6 := hh.2
        unfold Ev.cand ext at h5
        unfold key at h5 h6 ⊢
        simp only at h5
        omega
      · exact absurd (fun h => absurd h hg) hnn
def Nil (L : N → Bt) : Prop := ∀ v, (L v).f = false → L v = ⟨0, 0, false⟩
theorem run_nil : ∀ (l : List (Ev N)) (s : (N → Bt) × Bool), Nil s.1 → Nil (run l s).1
  | [], _, h => h
  | e :: l, s, h => by
    refine run_nil l (step1 s e) fun v hv => ?_
    have hv : (rlx s.1 e.at (e.cand s.1) v).f = false := hv
    show rlx s.1 e.at (e.cand s.1) v = _
    unfold rlx pick at hv ⊢
    by_cases ev : v = e.at
    · rw [if_pos ev] at hv ⊢
      by_cases hb : btr (e.cand s.1) (s.1 e.at) = true
      · rw [if_pos hb] at hv ⊢
        rw [btr_none hv] at hb; exact absurd hb (by decide)
      · rw [if_neg hb] at hv ⊢; exact h _ hv
    · rw [if_neg ev] at hv ⊢; exact h _ hv
end
end Go.Proofs.Ytojpibpjieanhaa.FewMath
end
section
namespace Go.Proofs.Ytojpibpjieanhaa.X
open Go.RowKit Go.Proofs.YtojpibpjieanhaaW.PrintWords Go.Proofs.YtojpibpjieanhaaW.PrintLast Go.Proofs.YtojpibpjieanhaaW.PrintMore
set_option linter.unusedVariables false
set_option linter.unusedSimpArgs false
def putM (M : Nat → Nat → Bt) (i j : Nat) (x : Bt) : Nat → Nat → Bt := if btr x (M i j) = true then upd M i j x else M
variable {B n : Nat} {w : World} {g3 GR g4 : Nat} {Gs : Nat → Nat} {cR : Nat} {M : Nat → Nat → Bt}
def PutW (B n : Nat) (w : World) (g3 GR g4 : Nat) (Gs : Nat → Nat) (cR : Nat) (M : Nat → Nat → Bt) (ch : Bool) (w' : World) : Prop :=
  MatW B n w' g3 GR Gs cR M ∧ w'.heap[g4]? = some (.cells #[.bool ch] 4 (0, 0)) ∧ Below B w w' ∧ Kept w w' (fun k => k = g4 ∨ ∃ i, i < n ∧ k = Gs i)
theorem PutW.move {ch : Bool} {w1 w2 : World} (h : PutW B n w g3 GR g4 Gs cR M ch w1) (hB : B ≤ w1.heap.size) (hb : Below w1.heap.size w1 w2) : PutW B n w g3 GR g4 Gs cR M ch w2 :=
  ⟨h.1.move hb, blk_below h.2.1 hb, h.2.2.1.trans (hb.mono hB), h.2.2.2.below hb⟩
theorem PutW.put {ch : Bool} {w1 : World} (h : PutW B n w g3 GR g4 Gs cR M ch w1) (i j : Nat) (hi : i < n) (hj : j < n) (x : Bt) :
    PutW B n w g3 GR g4 Gs cR (upd M i j x) ch (((w1.setCell ⟨Gs i, j * 3, none⟩ (.int .i64 x.r)).setCell ⟨Gs i, j * 3 + 1, none⟩ (.int .i64 x.d)).setCell ⟨Gs i, j * 3 + 2, none⟩ (.bool x.f)) := by
  obtain ⟨ci, q1, _⟩ := h.1.blk i hi
  have ne : g4 ≠ Gs i := blk_ne h.2.1 q1 (by decide)
  exact ⟨h.1.put i j hi hj x, blk_far (blk_far (blk_far h.2.1 (p := ⟨Gs i, j * 3, none⟩) ne _) (p := ⟨Gs i, j * 3 + 1, none⟩) ne _) (p := ⟨Gs i, j * 3 + 2, none⟩) ne _,
    ((h.2.2.1.setCell (h.1.hs i hi) _).setCell (h.1.hs i hi) _).setCell (h.1.hs i hi) _,
    Kept.setCell (p := ⟨Gs i, j * 3 + 2, none⟩) (Kept.setCell (p := ⟨Gs i, j * 3 + 1, none⟩) (Kept.setCell (p := ⟨Gs i, j * 3, none⟩) h.2.2.2 (.inl (.inr ⟨i, hi, rfl⟩)) _) (.inl (.inr ⟨i, hi, rfl⟩)) _) (.inl (.inr ⟨i, hi, rfl⟩)) _⟩
theorem PutW.flag {ch : Bool} {w1 : World} (h : PutW B n w g3 GR g4 Gs cR M ch w1) (hB4 : B ≤ g4) (c : Bool) : PutW B n w g3 GR g4 Gs cR M c (w1.setCell ⟨g4, 0, none⟩ (.bool c)) :=
  ⟨h.1.far h.2.1 (by decide) (by decide) (by decide) 0 _, blk_put h.2.1 0 _ rfl, h.2.2.1.setCell hB4 _, Kept.setCell (p := ⟨g4, 0, none⟩) h.2.2.2 (.inl (.inl rfl)) _⟩
set_option maxHeartbeats 4000000 in
set_option maxRecDepth 100000 in
theorem PutClo (a b : Nat) (x : Bt) (ch : Bool) (ha : a < n) (hb : b < n) (hn : n ≤ 1000000) (h : MatW B n w g3 GR Gs cR M) (h4 : w.heap[g4]? = some (.cells #[.bool ch] 4 (0, 0))) (hB4 : B ≤ g4) :
    Calls Try.prog 91 #[.int .i64 (a : Int), .int .i64 (b : Int), .agg #[.int .i64 x.r, .int .i64 x.d, .bool x.f], .pointer (some ⟨g3, 0, none⟩), .pointer (some ⟨g4, 0, none⟩)] w fun e w' => e = .returned (.tuple #[]) ∧ PutW B n w g3 GR g4 Gs cR (putM M a b x) (ch || btr x (M a b)) w' := by
  have H0 : Aside0 (PutW B n w g3 GR g4 Gs cR M ch w) := ⟨⟨h, h4, Below.refl _ _, Kept.refl _ _⟩⟩
  have HBW : Aside0 (B ≤ w.heap.size) := ⟨Nat.le_trans hB4 (Nat.le_of_lt (blk_lt h4))⟩
  have HE : Aside0 (impl_between_isBetter.f x.r x.d x.f (M a b).r (M a b).d (M a b).f = some (btr x (M a b))) := ⟨btr_eq _ _⟩
  have HB4 := Aside0.mk hB4
  clear h h4 hB4
  have p0 : (0 ≤ (a : Int)) = True := eq_true (by omega)
  have p1 : ((a : Int) < (n : Int)) = True := eq_true (by omega)
  have p2 : (0 ≤ (b : Int)) = True := eq_true (by omega)
  have p3 : ((b : Int) < (n : Int)) = True := eq_true (by omega)
  cases hv : btr x (M a b) with
  | false =>
    rw [hv] at HE
    have HP : Aside0 (putM M a b x = M) := ⟨by unfold putM; rw [hv, if_neg (by decide)]⟩
    clear hv
    go_enter Try.func91, Try.ntmps91
    go_wp2_with ((with_reducible refine gate_dst (N := 7) rfl ?_); refine box_event ?hg (N := 7) ?hd (cs := #[.int .i64 x.r, .int .i64 x.d, .bool x.f]) (t := 77) ?hr ?_; (case hd => rfl); (case hg => rfl); (case hr => first | (go_simp; done) | (go_simp; rfl)); intro g7 hg wn hbox hb7; have B7 := Aside0.mk hbox; have n0_ := Aside0.mk (H0.out.move HBW.out hb7); have n1_ := Aside0.mk (Nat.le_trans HBW.out hb7.size); clear H0 HBW hb7 hbox hg; have H0 := n0_; have HBW := n1_; clear n0_ n1_; have c70 : wn.cell? ⟨g7, 0, none⟩ = some (.int .i64 x.r) := (blk_cell B7.out 0).trans rfl; have c71 : wn.cell? ⟨g7, 1, none⟩ = some (.int .i64 x.d) := (blk_cell B7.out 1).trans rfl; have c72 : wn.cell? ⟨g7, 2, none⟩ = some (.bool x.f) := (blk_cell B7.out 2).trans rfl; have c3 := H0.out.1.c3; have cr := H0.out.1.cRow a ha; obtain ⟨cm0, cm1, cm2⟩ := H0.out.1.cM a b ha hb)
    go_still_tail 8, (by kernel_rfl)
    change wpList _ _ _ _ _ wn.drew
    go_wp2_with (go_at_call 92; (with_reducible refine (impl_between_isBetter.calls x.r x.d x.f (M a b).r (M a b).d (M a b).f false _ HE.out).mono ?_); rintro e w2 ⟨rfl, hb2⟩; have n0_ := Aside0.mk ((H0.out.move HBW.out (below_drew1 (Below.refl _ _))).move HBW.out hb2); clear H0 hb2; have H0 := n0_; clear n0_)
    (first | (refine bodyPost_end (results_none rfl _ _ _) rfl ?_) | (refine bodyPost_ret (results_none rfl _ _ _) rfl ?_))
    rw [HP.out, Bool.or_false]
    exact ⟨rfl, H0.out⟩
  | true =>
    rw [hv] at HE
    have HP : Aside0 (putM M a b x = upd M a b x) := ⟨by unfold putM; rw [hv, if_pos rfl]⟩
    clear hv
    go_enter Try.func91, Try.ntmps91
    go_wp2_with ((with_reducible refine gate_dst (N := 7) rfl ?_); refine box_event ?hg (N := 7) ?hd (cs := #[.int .i64 x.r, .int .i64 x.d, .bool x.f]) (t := 77) ?hr ?_; (case hd => rfl); (case hg => rfl); (case hr => first | (go_simp; done) | (go_simp; rfl)); intro g7 hg wn hbox hb7; have B7 := Aside0.mk hbox; have n0_ := Aside0.mk (H0.out.move HBW.out hb7); have n1_ := Aside0.mk (Nat.le_trans HBW.out hb7.size); clear H0 HBW hb7 hbox hg; have H0 := n0_; have HBW := n1_; clear n0_ n1_; have c70 : wn.cell? ⟨g7, 0, none⟩ = some (.int .i64 x.r) := (blk_cell B7.out 0).trans rfl; have c71 : wn.cell? ⟨g7, 1, none⟩ = some (.int .i64 x.d) := (blk_cell B7.out 1).trans rfl; have c72 : wn.cell? ⟨g7, 2, none⟩ = some (.bool x.f) := (blk_cell B7.out 2).trans rfl; have c3 := H0.out.1.c3; have cr := H0.out.1.cRow a ha; obtain ⟨cm0, cm1, cm2⟩ := H0.out.1.cM a b ha hb)
    go_still_tail 8, (by kernel_rfl)
    change wpList _ _ _ _ _ wn.drew
    go_wp2_with (go_at_call 92; (with_reducible refine (impl_between_isBetter.calls x.r x.d x.f (M a b).r (M a b).d (M a b).f true _ HE.out).mono ?_); rintro e w2 ⟨rfl, hb2⟩; have n2_ := Aside0.mk (blk_below (blk_drew B7.out) hb2); have n0_ := Aside0.mk ((H0.out.move HBW.out (below_drew1 (Below.refl _ _))).move HBW.out hb2); clear H0 B7 hb2 c70 c71 c72 c3 cr cm0 cm1 cm2; have H0 := n0_; have B7 := n2_; clear n0_ n2_; have c70 : w2.cell? ⟨g7, 0, none⟩ = some (.int .i64 x.r) := (blk_cell B7.out 0).trans rfl; have c71 : w2.cell? ⟨g7, 1, none⟩ = some (.int .i64 x.d) := (blk_cell B7.out 1).trans rfl; have c72 : w2.cell? ⟨g7, 2, none⟩ = some (.bool x.f) := (blk_cell B7.out 2).trans rfl; have c3 := H0.out.1.c3; have cr := H0.out.1.cRow a ha; obtain ⟨cm0, cm1, cm2⟩ := H0.out.1.cM a b ha hb; have c4 : w2.cell? ⟨g4, 0, none⟩ = some (.bool ch) := (blk_cell H0.out.2.1 0).trans rfl; have z4 := blk_frozen H0.out.2.1 0; have zm0 := H0.out.1.zM a ha (b * 3); have zm1 := H0.out.1.zM a ha (b * 3 + 1); have zm2 := H0.out.1.zM a ha (b * 3 + 2))
    have HQ := Aside0.mk (H0.out.put a b ha hb x)
    have c4s := (blk_cell HQ.out.2.1 0).trans (show (#[Value.bool ch] : Array Value)[0]? = some (.bool ch) from rfl)
    have z4s := blk_frozen HQ.out.2.1 0
    have zs1 : ∀ v, (w2.setCell ⟨Gs a, b * 3, none⟩ v).frozen? ⟨Gs a, b * 3 + 1, none⟩ = false := fun v => by obtain ⟨ci, q1, _⟩ := H0.out.1.blk a ha; exact blk_frozen (blk_put q1 (b * 3) v rfl) _
    have zs2 : ∀ v u, ((w2.setCell ⟨Gs a, b * 3, none⟩ v).setCell ⟨Gs a, b * 3 + 1, none⟩ u).frozen? ⟨Gs a, b * 3 + 2, none⟩ = false := fun v u => by obtain ⟨ci, q1, _⟩ := H0.out.1.blk a ha; exact blk_frozen (blk_put (blk_put q1 (b * 3) v rfl) (b * 3 + 1) u rfl) _
    have HR := Aside0.mk (HQ.out.flag HB4.out true)
    have HR2 := Aside0.mk (HR.out.move (Nat.le_trans HB4.out (Nat.le_of_lt (blk_lt HR.out.2.1))) (below_drew1 (Below.refl _ _)))
    go_region
    (first | (refine bodyPost_end (results_none rfl _ _ _) rfl ?_) | (refine bodyPost_ret (results_none rfl _ _ _) rfl ?_))
    rw [HP.out, Bool.or_true]
    exact ⟨rfl, HR2.out⟩
end Go.Proofs.Ytojpibpjieanhaa.X
end
section
namespace Go.Proofs.Ytojpibpjieanhaa.X
open Go.RowKit Go.Proofs.YtojpibpjieanhaaW.PrintWords Go.Proofs.YtojpibpjieanhaaW.PrintLast Go.Proofs.YtojpibpjieanhaaW.PrintMore
attribute [local go_sem] max2_int min2_int max_two min_two max_three min_three max_four min_four
set_option linter.unusedVariables false
set_option linter.unusedSimpArgs false
def slowStep (d x : List Int) (w : S55) : List Int := if (w.f2 == 0) = true then x.set w.f0.toNat (mx (rd x w.f0) (wrap64 (rd d w.f0 + rd x w.f1))) else x
def slowRound (d : List Int) (ws : List S55) : Nat → List Int → List Int
  | 0, x => x
  | j + 1, x => slowStep d (slowRound d ws j x) (rd_T55 ws (j : Int))
def slowRounds (d : List Int) (ws : List S55) : Nat → List Int
  | 0 => d
  | i + 1 => slowRound d ws ws.length (slowRounds d ws i)
def WireIn (n : Nat) (w : S55) : Prop := 0 ≤ w.f0 ∧ w.f0 < n ∧ 0 ≤ w.f1 ∧ w.f1 < n
instance (n : Nat) (w : S55) : Decidable (WireIn n w) := by unfold WireIn; infer_instance
set_option maxHeartbeats 16000000 in
set_option maxRecDepth 100000 in
theorem slowest_walk (A0 : Option Addr) (c0 : Nat) (d : List Int) (A1 : Option Addr) (c1 : Nat) (ws : List S55) (n m : Nat) (hn0 : n = d.length) (hm0 : m = ws.length) (h1 : 1 ≤ n) (hn : n ≤ 1000000) (hm : m ≤ 1000000) (hw : ∀ j : Nat, j < m → WireIn n (rd_T55 ws (j : Int))) (w : World)
    (hr0 : Kd.C (Kd.int .i64) w A0 n d) (hr1 : Kd.C k55 w A1 m ws) :
    Calls Try.prog 90 #[.agg #[.slice A0 n c0, .slice A1 m c1]] w fun e w' => ∃ v0_ : Value, e = .returned (v0_) ∧ Kd.R (Kd.int .i64) 2 w' w.heap.size (fun _ => True) v0_ (slowRounds d ws n) ∧ Below w.heap.size w w' := by
  have HR0 := Aside0.mk hr0
  have HR1 := Aside0.mk hr1
  have HW := Aside0.mk hw
  have HN0 := Aside0.mk hn0
  have HM0 := Aside0.mk hm0
  have HCL : Aside0 (slices_Clone_int64_int64.f d = some d) := ⟨by unfold slices_Clone_int64_int64.f; rw [if_pos (by omega)]⟩
  clear hr0 hr1 hw hm0 hn0
  have HB := Aside0.mk (Below.refl w.heap.size w)
  go_enter Try.func90, Try.ntmps90
  go_wp2_with (first
    | ((with_reducible refine gate_dst (N := 1) rfl ?_); refine box_event ?hg (N := 1) ?hd (cs := #[.slice A0 n c0, .slice A1 m c1]) (t := 36) ?hr ?_; (case hd => rfl); (case hg => rfl); (case hr => first | (go_simp; done) | (go_simp; rfl)); intro g1 hg wn hbox hb; have GE1 := Aside0.mk (by rw [hg]; exact below_size HB.out : w.heap.size ≤ g1); clear hg; have BK10 := Aside0.mk hbox; clear hbox; have n0_ := Aside0.mk (below_step HB.out hb); clear HB  hb; have HB := n0_; clear n0_ ; have BK1 := BK10; clear BK10; have c1_0 : wn.cell? ⟨g1, 0, none⟩ = some (.slice A0 n c0) := (blk_cell BK1.out 0).trans rfl; have c1_1 : wn.cell? ⟨g1, 1, none⟩ = some (.slice A1 m c1) := (blk_cell BK1.out 1).trans rfl)
    | (go_at_call 69; have T := slices_Clone_int64_int64.calls A0 c0 d d wn (by rw [← HN0.out]; exact Kd.C_below HR0.out HB.out) trivial HCL.out; rw [← HN0.out] at T; refine T.mono ?_; clear T; rintro e wz ⟨v1, rfl, ho, hb⟩; obtain ⟨gR, cR, rfl, hgb, hgl, cl, hcl⟩ := Kd.R_form ho (by rw [← HN0.out]; exact h1); rw [← HN0.out] at ho; have HO := Aside0.mk (Kd.R_lower ho (below_size HB.out)); have GR := Aside0.mk (Nat.le_trans (below_size HB.out) hgb); have NE1R := Aside0.mk (show g1 ≠ gR by have := blk_lt BK1.out; omega); clear ho hgb hgl hcl cl; rw [← HN0.out]; have n0_ := Aside0.mk (below_step HB.out hb); have m1_ := Aside0.mk (blk_below BK1.out hb); clear HB BK1 hb; have HB := n0_; have BK1 := m1_; clear n0_ m1_; have c1_0 : wz.cell? ⟨g1, 0, none⟩ = some (.slice A0 n c0) := (blk_cell BK1.out 0).trans rfl; have c1_1 : wz.cell? ⟨g1, 1, none⟩ = some (.slice A1 m c1) := (blk_cell BK1.out 1).trans rfl))
  go_loopg [12] n (fun kq v12 w' => ∃ i : Nat, v12 = .int .i64 i ∧ Aside0 (i + kq = n) ∧ Aside0 (w'.heap[g1]? = some (.cells #[.slice A0 n c0, .slice A1 m c1] 36 (0, 0))) ∧ Aside0 (Kd.R (Kd.int .i64) 2 w' w.heap.size (fun _ => True) (.slice (some ⟨gR, 0, none⟩) n cR) (slowRounds d ws i)) ∧ Aside0 (Below w.heap.size w w'))
  case atStart => exact ⟨0, by first | rfl | simp, ⟨by omega⟩, BK1, HO, HB⟩
  case round =>
    clear BK1 HO HB c1_0 c1_1
    obtain ⟨i, rfl, HE, Q1, QR, QB⟩ := hrel
    have c1_0 : wr.cell? ⟨g1, 0, none⟩ = some (.slice A0 n c0) := (blk_cell Q1.out 0).trans rfl
    have c1_1 : wr.cell? ⟨g1, 1, none⟩ = some (.slice A1 m c1) := (blk_cell Q1.out 1).trans rfl
    by_cases hlt : i < n
    · cases gk with
      | zero => have := HE.out; omega
      | succ gq =>
      go_wp2
      obtain ⟨wo, rfl⟩ : ∃ wo : World, wo = wr := ⟨_, rfl⟩
      go_loopg [17] m (fun kq v17 w' => ∃ j : Nat, v17 = .int .i64 j ∧ Aside0 (j + kq = m) ∧ Aside0 (w'.heap[g1]? = some (.cells #[.slice A0 n c0, .slice A1 m c1] 36 (0, 0))) ∧ Aside0 (Kd.R (Kd.int .i64) 2 w' w.heap.size (fun _ => True) (.slice (some ⟨gR, 0, none⟩) n cR) (slowRound d ws j (slowRounds d ws i))) ∧ Aside0 (Below w.heap.size w w'))
      case atStart => exact ⟨0, by first | rfl | simp, ⟨by omega⟩, Q1, QR, QB⟩
      case round =>
        clear Q1 QR QB c1_0 c1_1
        obtain ⟨j, rfl, HJ, Q1, QR, QB⟩ := hrel
        by_cases hlj : j < m
        · cases gk with
          | zero => have := HJ.out; omega
          | succ gq2 =>
          obtain ⟨ad, hA, x0, x1, x2⟩ := at_T55 (Kd.C_below HR1.out QB.out) (j : Int) (by omega) (by omega)
          cases hA
          rw [Int.toNat_natCast] at x0 x1 x2
          obtain ⟨o0, o1, o2, o3⟩ := HW.out j hlj
          obtain ⟨X, hX⟩ : ∃ X, X = slowRound d ws j (slowRounds d ws i) := ⟨_, rfl⟩
          have HX : Aside0 (slowRound d ws (j + 1) (slowRounds d ws i) = slowStep d X (rd_T55 ws (j : Int))) := ⟨by rw [hX]; rfl⟩
          rw [← hX] at QR
          clear hX
          obtain ⟨el, hel⟩ : ∃ el, el = rd_T55 ws (j : Int) := ⟨_, rfl⟩
          rw [← hel] at x0 x1 x2 o0 o1 o2 o3 HX
          clear hel
          have GRL := Aside0.mk (Kd.R_lt QR.out gR (by simp [Value.ownBlock]))
          have step : ∀ b : Bool, (el.f2 == 0) = b → True := fun _ _ => trivial
          clear step
          cases hf : (el.f2 == 0) with
          | false =>
            have HF := Aside0.mk hf
            go_wp2_with (first
              | ((with_reducible refine gate_dst (N := 5) rfl ?_); refine box_event ?hg (N := 5) ?hd (cs := #[.int .i64 0, .int .i64 0, .int .i64 0]) (t := 55) ?hr ?_; (case hd => rfl); (case hg => rfl); (case hr => first | (go_simp; done) | (go_simp; rfl)); intro g5 hg wn hbox hb; have GE5 := Aside0.mk (by rw [hg]; exact below_size QB.out : w.heap.size ≤ g5); have NE1_5 := Aside0.mk (show g1 ≠ g5 by have := blk_lt Q1.out; omega); have NER_5 := Aside0.mk (show gR ≠ g5 by have := GRL.out; omega); clear hg; have B5 := Aside0.mk hbox; clear hbox; have n0_ := Aside0.mk (below_step QB.out hb); have n1_ := Aside0.mk (blk_below Q1.out hb); have nR_ := Aside0.mk (Kd.R_below QR.out hb); clear QB Q1 QR hb; have QB := n0_; have Q1 := n1_; have QR := nR_; clear n0_ n1_ nR_; have z5_0 := blk_frozen B5.out 0; have z5_1 := blk_frozen B5.out 1; have z5_2 := blk_frozen B5.out 2; have c5_0 : wn.cell? ⟨g5, 0, none⟩ = some (.int .i64 0) := (blk_cell B5.out 0).trans rfl; have c5_1 : wn.cell? ⟨g5, 1, none⟩ = some (.int .i64 0) := (blk_cell B5.out 1).trans rfl; have c5_2 : wn.cell? ⟨g5, 2, none⟩ = some (.int .i64 0) := (blk_cell B5.out 2).trans rfl))
            have p1 := Aside0.mk (blk_far (blk_far (blk_far Q1.out (p := ⟨g5, 0, none⟩) NE1_5.out (.int .i64 el.f0)) (p := ⟨g5, 1, none⟩) NE1_5.out (.int .i64 el.f1)) (p := ⟨g5, 2, none⟩) NE1_5.out (.int .i64 el.f2))
            have pR : Aside0 (Kd.R (Kd.int .i64) 2 _ w.heap.size (fun _ => True) (.slice (some ⟨gR, 0, none⟩) n cR) X) := Aside0.mk (Kd.R_mono (Kd.R_far (p := ⟨g5, 2, none⟩) (Kd.R_far (p := ⟨g5, 1, none⟩) (Kd.R_far (p := ⟨g5, 0, none⟩) (Kd.R_types QR.out B5.out (by decide)) (fun _ hk => hk.2) (.int .i64 el.f0)) (fun _ hk => hk.2) (.int .i64 el.f1)) (fun _ hk => hk.2) (.int .i64 el.f2)) (fun _ _ => trivial))
            have p5 := Aside0.mk (blk_put (cs' := #[.int .i64 el.f0, .int .i64 el.f1, .int .i64 el.f2]) (blk_put (cs' := #[.int .i64 el.f0, .int .i64 el.f1, .int .i64 0]) (blk_put (cs' := #[.int .i64 el.f0, .int .i64 0, .int .i64 0]) B5.out 0 (.int .i64 el.f0) rfl) 1 (.int .i64 el.f1) rfl) 2 (.int .i64 el.f2) rfl)
            have pb := Aside0.mk (below_set (j := 2) (v := .int .i64 el.f2) (below_set (j := 1) (v := .int .i64 el.f1) (below_set (j := 0) (v := .int .i64 el.f0) QB.out GE5.out) GE5.out) GE5.out)
            go_roundg gq2
            case measure => omega
            case rel => exact ⟨j + 1, by go_num, ⟨by have := HJ.out; omega⟩, p1, ⟨by rw [HX.out]; unfold slowStep; rw [HF.out, if_neg (by decide)]; exact pR.out⟩, pb⟩
          | true =>
            have HF := Aside0.mk hf
            go_wp2_with (first
              | ((with_reducible refine gate_dst (N := 5) rfl ?_); refine box_event ?hg (N := 5) ?hd (cs := #[.int .i64 0, .int .i64 0, .int .i64 0]) (t := 55) ?hr ?_; (case hd => rfl); (case hg => rfl); (case hr => first | (go_simp; done) | (go_simp; rfl)); intro g5 hg wn hbox hb; have GE5 := Aside0.mk (by rw [hg]; exact below_size QB.out : w.heap.size ≤ g5); have NE1_5 := Aside0.mk (show g1 ≠ g5 by have := blk_lt Q1.out; omega); have NER_5 := Aside0.mk (show gR ≠ g5 by have := GRL.out; omega); clear hg; have B5 := Aside0.mk hbox; clear hbox; have n0_ := Aside0.mk (below_step QB.out hb); have n1_ := Aside0.mk (blk_below Q1.out hb); have nR_ := Aside0.mk (Kd.R_below QR.out hb); clear QB Q1 QR hb; have QB := n0_; have Q1 := n1_; have QR := nR_; clear n0_ n1_ nR_; have z5_0 := blk_frozen B5.out 0; have z5_1 := blk_frozen B5.out 1; have z5_2 := blk_frozen B5.out 2; have c5_0 : wn.cell? ⟨g5, 0, none⟩ = some (.int .i64 0) := (blk_cell B5.out 0).trans rfl; have c5_1 : wn.cell? ⟨g5, 1, none⟩ = some (.int .i64 0) := (blk_cell B5.out 1).trans rfl; have c5_2 : wn.cell? ⟨g5, 2, none⟩ = some (.int .i64 0) := (blk_cell B5.out 2).trans rfl))
            have p1 := Aside0.mk (blk_far (blk_far (blk_far Q1.out (p := ⟨g5, 0, none⟩) NE1_5.out (.int .i64 el.f0)) (p := ⟨g5, 1, none⟩) NE1_5.out (.int .i64 el.f1)) (p := ⟨g5, 2, none⟩) NE1_5.out (.int .i64 el.f2))
            have pR : Aside0 (Kd.R (Kd.int .i64) 2 _ w.heap.size (fun _ => True) (.slice (some ⟨gR, 0, none⟩) n cR) X) := Aside0.mk (Kd.R_mono (Kd.R_far (p := ⟨g5, 2, none⟩) (Kd.R_far (p := ⟨g5, 1, none⟩) (Kd.R_far (p := ⟨g5, 0, none⟩) (Kd.R_types QR.out B5.out (by decide)) (fun _ hk => hk.2) (.int .i64 el.f0)) (fun _ hk => hk.2) (.int .i64 el.f1)) (fun _ hk => hk.2) (.int .i64 el.f2)) (fun _ _ => trivial))
            have p5 := Aside0.mk (blk_put (cs' := #[.int .i64 el.f0, .int .i64 el.f1, .int .i64 el.f2]) (blk_put (cs' := #[.int .i64 el.f0, .int .i64 el.f1, .int .i64 0]) (blk_put (cs' := #[.int .i64 el.f0, .int .i64 0, .int .i64 0]) B5.out 0 (.int .i64 el.f0) rfl) 1 (.int .i64 el.f1) rfl) 2 (.int .i64 el.f2) rfl)
            have pb := Aside0.mk (below_set (j := 2) (v := .int .i64 el.f2) (below_set (j := 1) (v := .int .i64 el.f1) (below_set (j := 0) (v := .int .i64 el.f0) QB.out GE5.out) GE5.out) GE5.out)
            clear c5_0 c5_1 c5_2 z5_0 z5_1 z5_2 Q1 QR QB B5
            generalize ((wn.setCell ⟨g5, 0, none⟩ (.int .i64 el.f0)).setCell ⟨g5, 1, none⟩ (.int .i64 el.f1)).setCell ⟨g5, 2, none⟩ (.int .i64 el.f2) = W5 at p1 pR p5 pb ⊢
            obtain ⟨rA, zA⟩ := Kd.R_celln 0 pR.out el.f0 o0 o1
            obtain ⟨rB, zB⟩ := Kd.R_celln 0 pR.out el.f1 o2 o3
            obtain ⟨dd, hD, dA⟩ := Kd.at_int (Kd.C_below HR0.out pb.out) el.f0 o0 o1
            cases hD
            have rA' : W5.cell? ⟨gR, el.f0.toNat, none⟩ = some (.int .i64 (rd X el.f0)) := rA
            have rB' : W5.cell? ⟨gR, el.f1.toNat, none⟩ = some (.int .i64 (rd X el.f1)) := rB
            have k1_0 : W5.cell? ⟨g1, 0, none⟩ = some (.slice (some dd) n c0) := (blk_cell p1.out 0).trans rfl
            have k5_0 : W5.cell? ⟨g5, 0, none⟩ = some (.int .i64 el.f0) := (blk_cell p5.out 0).trans rfl
            have k5_1 : W5.cell? ⟨g5, 1, none⟩ = some (.int .i64 el.f1) := (blk_cell p5.out 1).trans rfl
            clear rA rB zB x0 x1 x2 hf
            go_region
            have q1 := Aside0.mk (blk_drew (blk_far p1.out (p := ⟨gR, el.f0.toNat, none⟩) NE1R.out (.int .i64 (mx (rd X el.f0) (wrap64 (rd d el.f0 + rd X el.f1))))))
            have qR := Aside0.mk (Kd.R_drew (Kd.R_putn pR.out el.f0 (mx (rd X el.f0) (wrap64 (rd d el.f0 + rd X el.f1)))))
            have qb := Aside0.mk (below_drew1 (Below.setCell (p := ⟨gR, el.f0.toNat, none⟩) pb.out GR.out (.int .i64 (mx (rd X el.f0) (wrap64 (rd d el.f0 + rd X el.f1))))))
            have hmx : (if rd X el.f0 < wrap64 (rd d el.f0 + rd X el.f1) then wrap64 (rd d el.f0 + rd X el.f1) else rd X el.f0) = mx (rd X el.f0) (wrap64 (rd d el.f0 + rd X el.f1)) := rfl
            rw [hmx]
            clear rA' rB' zA k1_0 k5_0 k5_1 dA hmx
            go_wp2
            go_roundg gq2
            case measure => omega
            case rel => exact ⟨j + 1, by go_num, ⟨by have := HJ.out; omega⟩, q1, ⟨by rw [HX.out]; unfold slowStep; rw [HF.out, if_pos rfl]; exact qR.out⟩, qb⟩
        · have e : j = m := by have := HJ.out; omega
          have f1 : decide ((j : Int) < (m : Int)) = false := decide_eq_false (by omega)
          have f2 : decide (j < m) = false := decide_eq_false hlj
          have QR2 : Aside0 (Kd.R (Kd.int .i64) 2 wr w.heap.size (fun _ => True) (.slice (some ⟨gR, 0, none⟩) n cR) (slowRounds d ws (i + 1))) := ⟨by rw [slowRounds, ← HM0.out, ← e]; exact QR.out⟩
          clear hlj e
          go_wp2
          go_roundg gq
          case measure => omega
          case rel => exact ⟨i + 1, by go_num, ⟨by have := HE.out; omega⟩, Q1, QR2, QB⟩
    · have e : i = n := by have := HE.out; omega
      have f1 : decide ((i : Int) < (n : Int)) = false := decide_eq_false (by omega)
      have f2 : decide (i < n) = false := decide_eq_false hlt
      have QR2 : Aside0 (Kd.R (Kd.int .i64) 2 wr w.heap.size (fun _ => True) (.slice (some ⟨gR, 0, none⟩) n cR) (slowRounds d ws n)) := ⟨by have h := QR.out; rw [e] at h; exact h⟩
      clear hlt e
      go_wp2
      go_ret
      exact ⟨_, rfl, QR2.out, QB.out⟩
def impl_Flow_slowest.f (l0_0 : List Int) (l0_1 : List S55) : Option (List Int) := if 1 ≤ l0_0.length ∧ l0_0.length ≤ 1000000 ∧ l0_1.length ≤ 1000000 ∧ (∀ j : Nat, j < l0_1.length → WireIn l0_0.length (rd_T55 l0_1 (j : Int))) then some (slowRounds l0_0 l0_1 l0_0.length) else none
theorem impl_Flow_slowest.calls (A0_0 : Option Addr) (c0_0 : Nat) (l0_0 : List Int) (A0_1 : Option Addr) (c0_1 : Nat) (l0_1 : List S55) (r : List Int) (w : World) (hr0_0 : Kd.C (Kd.int .i64) w A0_0 l0_0.length l0_0) (hc0_0 : True) (hr0_1 : Kd.C k55 w A0_1 l0_1.length l0_1) (hc0_1 : True) (h : impl_Flow_slowest.f l0_0 l0_1 = some r) :
    Calls Try.prog 90 #[.agg #[.slice A0_0 l0_0.length c0_0, .slice A0_1 l0_1.length c0_1]] w fun e w' => ∃ v0_ : Value, e = .returned (v0_) ∧ Kd.R (Kd.int .i64) 2 w' w.heap.size (fun _ => True) v0_ r ∧ Below w.heap.size w w' := by
  unfold impl_Flow_slowest.f at h
  split at h
  case isTrue hg =>
    obtain ⟨g1, g2, g3, g4⟩ := hg
    have e : slowRounds l0_0 l0_1 l0_0.length = r := Option.some.inj h
    rw [← e]
    exact slowest_walk A0_0 c0_0 l0_0 A0_1 c0_1 l0_1 l0_0.length l0_1.length rfl rfl g1 g2 g3 g4 w hr0_0 hr0_1
  case isFalse => cases h
end Go.Proofs.Ytojpibpjieanhaa.X
end
