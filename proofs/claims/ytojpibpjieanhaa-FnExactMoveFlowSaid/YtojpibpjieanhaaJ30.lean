/- My own texts of this seat and its words, merged: XOpenRow, CMoveFlow. Conditions: as each lemma says. -/
import Derived.Test.YtojpibpjieanhaaJ21
import Derived.Deep.Slices
import Derived.Deep.Fields
import Derived.ChangeSame
import Derived.ChangeSlices
import Derived.Test.YtojpibpjieanhaaJ26
import Derived.Test.YtojpibpjieanhaaJ27
import Derived.Test.YtojpibpjieanhaaJ28
section
/- Rows of whole numbers and of wires that come in as a law's argument, opened to lists. Conditions: as each lemma says. -/
namespace Go.Proofs.Ytojpibpjieanhaa.X
open Go.RowKit Go.Proofs.YtojpibpjieanhaaW.PrintWords Go.Proofs.YtojpibpjieanhaaW.PrintLast Go.Proofs.YtojpibpjieanhaaW.PrintMore
open Go.ChangeShapes Go.WideShapes Go.Deep
set_option linter.unusedVariables false
set_option linter.unusedSimpArgs false
section
variable {H : Type} {enc : TypeId × Value → H} {P : Program} {w : World} {base : Nat} {spare : Nat → Bool} {held : Bool}
theorem open_slice_fields {t e : TypeId} {fs : Array Field} {fuel : Nat} {cs : List Value} {x : DataW H × List MemPlace} (ht : P.underlying t = some (.slice e)) (he : P.underlying e = some (.struct fs))
    (hone : oneCellFields P fs = true) (hC : P.cellsOf e = fs.size) (h : DataW.trod enc P w base spare held fuel t cs = some x) :
    (cs = [.slice none 0 0] ∧ x = (.nil, [])) ∨
    ∃ (a : Addr) (len cap m : Nat), cs = [.slice (some a) len cap] ∧ base ≤ a.block ∧ len ≤ cap ∧ cap ≤ maxLen ∧ m = (if spare a.block then cap else len) ∧
      ∀ i, i < m → ∃ (n : Nat), ∀ (j : Nat) (f : Field), fs[j]? = some f → ∃ (v : Value) (y : DataW H × List MemPlace), w.cell? (a.add (i * fs.size + j)) = some v ∧ DataW.trod enc P w base spare held n f.type [v] = some y := by
  rcases open_slice ht h with h0 | ⟨a, len, cap, m, n, D, Pl, hcs, hb, hl, hm, hmm, hx, hi⟩
  · exact .inl h0
  · refine .inr ⟨a, len, cap, m, hcs, hb, hl, hm, hmm, fun i him => ?_⟩
    obtain ⟨cs', hc, ht'⟩ := hi i him
    rw [hC] at hc
    obtain ⟨ys, n', hn', hy, hlen, hyl, hf⟩ := DataW.trod_struct he ht'
    obtain ⟨_, hcl, hat⟩ := World.cells?_some hc
    refine ⟨n', fun j f hj => ?_⟩
    obtain ⟨ho, hk⟩ := hone_of hone j f hj
    have hjl : j < fs.size := (Array.getElem?_eq_some_iff.1 hj).1
    have hcell := hat j hjl
    have hv : cs'[j]? = some (cs'[j]'(by omega)) := List.getElem?_eq_getElem (by omega)
    have h1 := hf j f hj
    rw [ho, hk] at h1
    have hone' : (cs'.drop j).take 1 = [cs'[j]'(by omega)] := by
      rw [List.drop_eq_getElem_cons (by omega)]
      rfl
    rw [hone'] at h1
    have hys : ys[j]? = some (ys[j]'(by omega)) := List.getElem?_eq_getElem (by omega)
    refine ⟨_, _, ?_, h1.trans hys⟩
    rw [← Go.Deep.add_add, hcell, hv]
end
theorem ints_C {w : World} {a : Addr} {l : List Int} (hm : l.length ≤ 9223372036854775807) (h : ∀ i, i < l.length → w.cell? (a.add i) = some (.int .i64 (l.getD i 0))) : Kd.C (Kd.int .i64) w (some a) l.length l := by
  refine ⟨rfl, hm, fun _ => ⟨_, rfl, fun j p hj => ⟨[.int .i64 p], rfl, rfl, fun i u hu => ?_⟩⟩⟩
  obtain ⟨hl, hp⟩ := List.getElem?_eq_some_iff.1 hj
  have h0 : i = 0 := by
    rcases i with _ | i
    · rfl
    · simp at hu
  subst h0
  have hu' : Value.int .i64 p = u := by simpa using hu
  have hc := h j hl
  rw [List.getD_eq_getElem?_getD, hj] at hc
  have e : a.add (j * (Kd.int .i64).sz + 0) = a.add j := by
    show a.add (j * 1 + 0) = a.add j
    rw [Nat.mul_one, Nat.add_zero]
  rw [e, ← hu']
  exact hc
theorem wires_C {w : World} {a : Addr} {l : List S96} (hm : l.length ≤ 9223372036854775807) (h : ∀ i, i < l.length → w.cell? (a.add (i * 3 + 0)) = some (.int .i64 (l.getD i z96).f0) ∧ w.cell? (a.add (i * 3 + 1)) = some (.int .i64 (l.getD i z96).f1) ∧ w.cell? (a.add (i * 3 + 2)) = some (.int .i64 (l.getD i z96).f2)) : Kd.C k96 w (some a) l.length l := by
  refine ⟨rfl, hm, fun _ => ⟨_, rfl, fun j p hj => ⟨[.int .i64 p.f0, .int .i64 p.f1, .int .i64 p.f2], rfl, k96_mk w p, fun i u hu => ?_⟩⟩⟩
  obtain ⟨hl, hp⟩ := List.getElem?_eq_some_iff.1 hj
  have hc := h j hl
  rw [List.getD_eq_getElem?_getD, hj] at hc
  show w.cell? (a.add (j * 3 + i)) = some u
  rcases i with _ | _ | _ | i
  · have hu' : Value.int .i64 p.f0 = u := by simpa using hu
    rw [← hu']; exact hc.1
  · have hu' : Value.int .i64 p.f1 = u := by simpa using hu
    rw [← hu']; exact hc.2.1
  · have hu' : Value.int .i64 p.f2 = u := by simpa using hu
    rw [← hu']; exact hc.2.2
  · simp at hu
section
variable {H : Type} {enc : TypeId × Value → H} {w : World}
theorem open_row_ints {t e : TypeId} {fuel : Nat} {c : Value} {x : DataW H × List MemPlace} (ht : Try.prog.underlying t = some (.slice e)) (he : Try.prog.underlying e = some (.int .i64)) (hc : Try.prog.cellsOf e = 1) (h : DataW.trod enc Try.prog w 0 (fun _ => true) true fuel t [c] = some x) :
    ∃ (A : Option Addr) (cap : Nat) (l : List Int), c = .slice A l.length cap ∧ Kd.C (Kd.int .i64) w A l.length l ∧ l.length ≤ cap ∧ l.length ≤ 9223372036854775807 ∧ ∀ n ∈ l, (Lit.int .i64 n).wf = true := by
  rcases open_ints ht he hc h with ⟨hcs, _⟩ | ⟨a, len, cap, zs, hcs, _, hl, hm, hz, _, hcell, hwz⟩
  · obtain rfl : c = .slice none 0 0 := by simpa using hcs
    exact ⟨none, 0, [], rfl, Kd.C_nil _ _, Nat.le_refl _, by simp, by simp⟩
  · obtain rfl : c = .slice (some a) len cap := by simpa using hcs
    simp only [if_true] at hz
    unfold maxLen at hm
    have hlen : (zs.take len).length = len := by simp; omega
    refine ⟨some a, cap, zs.take len, by rw [hlen], ints_C (by rw [hlen]; omega) (fun i hi => ?_), by rw [hlen]; exact hl, by rw [hlen]; omega, fun n hn => hwz n (List.mem_of_mem_take hn)⟩
    rw [hlen] at hi
    rw [hcell i (by omega)]
    have e : zs.getD i 0 = (zs.take len).getD i 0 := by rw [List.getD_eq_getElem?_getD, List.getD_eq_getElem?_getD, List.getElem?_take_of_lt hi]
    rw [e]
theorem open_row_wires {t e : TypeId} {f0 f1 f2 : Field} {fuel : Nat} {c : Value} {x : DataW H × List MemPlace} (ht : Try.prog.underlying t = some (.slice e)) (he : Try.prog.underlying e = some (.struct #[f0, f1, f2])) (hone : oneCellFields Try.prog #[f0, f1, f2] = true) (hC : Try.prog.cellsOf e = 3)
    (h0 : Try.prog.underlying f0.type = some (.int .i64)) (h1 : Try.prog.underlying f1.type = some (.int .i64)) (h2 : Try.prog.underlying f2.type = some (.int .i64)) (h : DataW.trod enc Try.prog w 0 (fun _ => true) true fuel t [c] = some x) :
    ∃ (A : Option Addr) (cap : Nat) (l : List S96), c = .slice A l.length cap ∧ Kd.C k96 w A l.length l ∧ l.length ≤ cap ∧ l.length ≤ 9223372036854775807 := by
  rcases open_slice_fields ht he hone hC h with ⟨hcs, _⟩ | ⟨a, len, cap, m, hcs, _, hl, hm, hmm, hi⟩
  · obtain rfl : c = .slice none 0 0 := by simpa using hcs
    exact ⟨none, 0, [], rfl, Kd.C_nil _ _, Nat.le_refl _, by simp⟩
  · obtain rfl : c = .slice (some a) len cap := by simpa using hcs
    simp only [if_true] at hmm
    unfold maxLen at hm
    have key : ∀ i, i < len → ∃ s : S96, w.cell? (a.add (i * 3 + 0)) = some (.int .i64 s.f0) ∧ w.cell? (a.add (i * 3 + 1)) = some (.int .i64 s.f1) ∧ w.cell? (a.add (i * 3 + 2)) = some (.int .i64 s.f2) := by
      intro i hil
      obtain ⟨n, hf⟩ := hi i (by omega)
      obtain ⟨v0, y0, c0, t0⟩ := hf 0 f0 rfl
      obtain ⟨v1, y1, c1, t1⟩ := hf 1 f1 rfl
      obtain ⟨v2, y2, c2, t2⟩ := hf 2 f2 rfl
      obtain ⟨a0, e0, _, _⟩ := DataW.trod_int h0 t0
      obtain ⟨a1, e1, _, _⟩ := DataW.trod_int h1 t1
      obtain ⟨a2, e2, _, _⟩ := DataW.trod_int h2 t2
      simp at e0 e1 e2
      subst e0 e1 e2
      exact ⟨⟨a0, a1, a2⟩, c0, c1, c2⟩
    let g : Nat → S96 := fun i => open Classical in if hi : i < len then Classical.choose (key i hi) else z96
    have hg : ∀ i (hi : i < len), w.cell? (a.add (i * 3 + 0)) = some (.int .i64 (g i).f0) ∧ w.cell? (a.add (i * 3 + 1)) = some (.int .i64 (g i).f1) ∧ w.cell? (a.add (i * 3 + 2)) = some (.int .i64 (g i).f2) := by
      intro i hi
      have : g i = Classical.choose (key i hi) := dif_pos hi
      rw [this]
      exact Classical.choose_spec (key i hi)
    have hlen : ((List.range len).map g).length = len := by simp
    refine ⟨some a, cap, (List.range len).map g, by rw [hlen], wires_C (by rw [hlen]; omega) (fun i hi => ?_), by rw [hlen]; exact hl, by rw [hlen]; omega⟩
    rw [hlen] at hi
    have : ((List.range len).map g).getD i z96 = g i := by simp [List.getD_eq_getElem?_getD, hi]
    rw [this]
    exact hg i hi
end
end Go.Proofs.Ytojpibpjieanhaa.X
end
section
/- The law of MoveFlow, plainly. Conditions: as each lemma says. -/
namespace Go.Proofs.Ytojpibpjieanhaa.X
open Go.RowKit Go.Proofs.YtojpibpjieanhaaW.PrintWords Go.Proofs.YtojpibpjieanhaaW.PrintLast Go.Proofs.YtojpibpjieanhaaW.PrintMore Go.Proofs.Ytojpibpjieanhaa.FlowMath
set_option linter.unusedVariables false
set_option linter.unusedSimpArgs false
noncomputable def mvRes (l0 : List Int) (ws : List S55) (m : List Int) : List Int × List S55 × Bool := if canB l0 ws m = true then (l0, ws.map (mvW m), true) else ([], [], false)
theorem mvRes_ok (l0 : List Int) (ws : List S55) (m : List Int) : (mvRes l0 ws m).1.length ≤ 16 ∧ (mvRes l0 ws m).2.1.length ≤ 16 := by
  unfold mvRes
  split
  case isTrue h =>
    unfold canB at h
    rw [Bool.and_eq_true] at h
    obtain ⟨hn, hl, -, -⟩ := valid_ok h.1
    simp; omega
  case isFalse => simp
theorem spec_mvRes (k : Nat) (l0 : List Int) (ws : List S55) (m : List Int) (h0 : l0.length ≤ 2000000) (h1 : ws.length ≤ 2000000) (hm : m.length ≤ 2000000) (hk : 4000000 < k) : spec_MoveFlow.f k l0 ws m = some (mvRes l0 ws m) := by
  unfold spec_MoveFlow.f mvRes
  rw [spec_can k l0 ws m h0 h1 hm hk, Option.bind_some]
  cases hc : canB l0 ws m with
  | false => rfl
  | true =>
    unfold canB at hc
    rw [Bool.and_eq_true, Bool.and_eq_true, decide_eq_true_eq] at hc
    obtain ⟨hn, hl, -, hw⟩ := valid_ok hc.1
    rw [if_pos rfl, if_pos rfl, smoved_eq k l0 ws m (by omega) hl (by rw [hc.2.1]; exact hw) (by omega), Option.bind_some]
theorem impl_mvRes (k : Nat) (l0 : List Int) (ws : List S55) (m : List Int) (hm : m.length ≤ 2000000) (hk : 4000000 < k) : impl_MoveFlow.f k l0 ws m = some (mvRes l0 ws m) := by
  unfold impl_MoveFlow.f mvRes
  rw [impl_can k l0 ws m hm hk, Option.bind_some]
  cases hc : canB l0 ws m with
  | false => rfl
  | true =>
    unfold canB at hc
    rw [Bool.and_eq_true, Bool.and_eq_true, decide_eq_true_eq] at hc
    obtain ⟨hn, hl, -, hw⟩ := valid_ok hc.1
    rw [if_pos rfl, if_pos rfl, imoved_eq k l0 ws m (by omega) hl (by rw [hc.2.1]; exact hw) (by omega), Option.bind_some]
theorem bne_same (b : Bool) : (b != b) = false := by cases b <;> rfl
theorem FnExactMoveFlow_pure (l0 : List Int) (l1 : List S96) (m : List Int) (h0 : l0.length ≤ 9223372036854775807) (w0 : ∀ n ∈ l0, (Lit.int .i64 n).wf = true) (h1 : l1.length ≤ 9223372036854775807) (hm : m.length ≤ 9223372036854775807) (wm : ∀ n ∈ m, (Lit.int .i64 n).wf = true) : ∃ k, laws_FnExactMoveFlow.f k l0 l1 m = some true := by
  obtain ⟨k, hk⟩ : ∃ k : Nat, 20000000 < k := ⟨20000001, by omega⟩
  refine ⟨k + 3, ?_⟩
  unfold laws_FnExactMoveFlow.f
  by_cases hc : (m.length : Int) > 1048576
  · rw [if_pos hc]
  rw [if_neg hc]
  obtain ⟨t, ht, hts⟩ := sz_eq l0 l1 h0 h1
  rw [ht, Option.bind_some]
  by_cases ht0 : t < 0
  · rw [if_pos ht0]
  obtain ⟨z0, z1⟩ := hts ht0
  obtain ⟨r0, r1⟩ := mvRes_ok l0 (l1.map toW) m
  have hlw : (l1.map toW).length ≤ 1048576 := by simp; omega
  obtain ⟨ws, hws⟩ : ∃ ws, ws = l1.map toW := ⟨_, rfl⟩
  have F : ∀ q, 20000000 < q → laws_toFlow.f q l0 l1 = some (l0, ws) := fun q hq => by rw [hws]; exact toFlow_eq q l0 l1 (by omega) (by omega) (by omega)
  rw [← hws] at r0 r1 hlw
  have T : ∀ q, 20000000 < q → laws_toInt64S.f q m = some m := fun q hq => toInts_eq q m (by omega) (by omega)
  have S : ∀ q, 20000000 < q → spec_MoveFlow.f q l0 ws m = some (mvRes l0 ws m) := fun q hq => spec_mvRes q l0 ws m (by omega) (by omega) (by omega) (by omega)
  have I : ∀ q, 20000000 < q → impl_MoveFlow.f q l0 ws m = some (mvRes l0 ws m) := fun q hq => impl_mvRes q l0 ws m (by omega) (by omega)
  obtain ⟨R, hR⟩ : ∃ R, R = mvRes l0 ws m := ⟨_, rfl⟩
  rw [← hR] at r0 r1 S I
  have E : ∀ q, 20000000 < q → laws_eqFlow.f q R.1 R.2.1 R.1 R.2.1 = some true := fun q hq => eqFlow_refl q _ _ (by omega) (by omega) (by omega)
  have E0 : ∀ q, 20000000 < q → laws_eqFlow.f q l0 ws l0 ws = some true := fun q hq => eqFlow_refl q _ _ (by omega) (by omega) (by omega)
  have Em : ∀ q, 20000000 < q → laws_eqInt64S.f q m m = some true := fun q hq => eqInt64S_refl q m (by omega) (by omega)
  have M0 := markFlow_eq (k + 2) l0 ws (by omega) (by omega) (by omega)
  have M1 := markInt64S_eq (k + 2) m (1 + (l0.length : Int) + 3 * (ws.length : Int)) (by omega) (by omega) (by omega) (by omega)
  have M2 := markFlow_eq (k + 1) R.1 R.2.1 (by omega) (by omega) (by omega)
  have H1 := heldFlow_eq (k + 1) R.1.length R.2.1.length (by omega) (by omega) (by omega)
  have H2 := heldFlow_eq k R.1.length R.2.1.length (by omega) (by omega) (by omega)
  rw [if_neg ht0, F _ (by omega)]
  simp only [Option.bind_some]
  rw [T _ (by omega)]
  simp only [Option.bind_some]
  rw [S _ (by omega)]
  simp only [Option.bind_some]
  rw [I _ (by omega)]
  simp only [Option.bind_some]
  rw [E _ (by omega)]
  simp only [Option.bind_some, if_true]
  rw [bne_same, laws_FnExactMoveFlow.j0, if_neg (by decide), F _ (by omega)]
  simp only [Option.bind_some]
  rw [E0 _ (by omega)]
  simp only [Option.bind_some, if_true]
  rw [T _ (by omega)]
  simp only [Option.bind_some]
  rw [Em _ (by omega)]
  simp only [Option.bind_some, if_true]
  rw [M0]
  simp only [Option.bind_some]
  rw [M1]
  simp only [Option.bind_some]
  rw [if_neg (by omega), E _ (by omega)]
  simp only [Option.bind_some, if_true]
  rw [bne_same, laws_FnExactMoveFlow.j1, if_neg (by decide), M2]
  simp only [Option.bind_some]
  rw [H1]
  simp only [Option.bind_some, if_true]
  rw [if_neg (by omega), F _ (by omega)]
  simp only [Option.bind_some]
  rw [T _ (by omega)]
  simp only [Option.bind_some]
  rw [I _ (by omega)]
  simp only [Option.bind_some]
  rw [E _ (by omega)]
  simp only [Option.bind_some, if_true]
  rw [bne_same, laws_FnExactMoveFlow.j2, if_neg (by decide), H2]
  simp only [Option.bind_some, if_true]
  rw [if_neg (by omega)]
end Go.Proofs.Ytojpibpjieanhaa.X
end
