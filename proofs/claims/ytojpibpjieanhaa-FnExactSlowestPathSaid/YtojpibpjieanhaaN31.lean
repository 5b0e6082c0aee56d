/- My own texts of this seat and its words, merged: CSlowest. Conditions: as each lemma says. -/
import Derived.Test.YtojpibpjieanhaaN28
import Derived.Test.YtojpibpjieanhaaN29
section
namespace Go.Proofs.Ytojpibpjieanhaa.X
open Go.RowKit Go.Proofs.YtojpibpjieanhaaW.PrintWords Go.Proofs.YtojpibpjieanhaaW.PrintLast Go.Proofs.YtojpibpjieanhaaW.PrintMore Go.Proofs.Ytojpibpjieanhaa.FlowMath Go.Proofs.Ytojpibpjieanhaa.PathMath
set_option linter.unusedVariables false
set_option linter.unusedSimpArgs false
theorem mxl_at : ∀ (l : List Int) (a : Int), (mxl a l = a ∨ mxl a l ∈ l) ∧ a ≤ mxl a l ∧ ∀ x, x ∈ l → x ≤ mxl a l
  | [], a => ⟨.inl rfl, Int.le_refl _, fun x hx => by cases hx⟩
  | y :: l, a => by
    obtain ⟨h1, h2, h3⟩ := mxl_at l (max a y)
    have e : mxl a (y :: l) = mxl (max a y) l := rfl
    rw [e]
    refine ⟨?_, by omega, fun x hx => ?_⟩
    · rcases h1 with h1 | h1
      · rcases Int.le_total a y with k | k
        · right; rw [h1, Int.max_eq_right k]; exact List.mem_cons_self ..
        · left; rw [h1, Int.max_eq_left k]
      · right; exact List.mem_cons_of_mem _ h1
    · rcases List.mem_cons.1 hx with rfl | hx
      · omega
      · exact h3 x hx
theorem slow_same (K : Nat) (d : List Int) (ws : List S55) (h0 : d.length ≤ 2000000) (h1 : ws.length ≤ 2000000) (hK : 9000000 < K) : ∃ r : List Int × Bool, r.1.length ≤ 16 ∧ spec_SlowestPath.f K d ws = some r ∧ impl_SlowestPath.f K d ws = some r := by
  unfold spec_SlowestPath.f impl_SlowestPath.f
  rw [spec_is K d ws (by omega) (by omega) (by omega), impl_valid K d ws (by omega), Option.bind_some, Option.bind_some]
  cases hv : validB d ws with
  | false => exact ⟨_, by simp, rfl, rfl⟩
  | true =>
    obtain ⟨D, hD⟩ := slow_of d ws hv
    have n1 := hD.n1
    have n8 := hD.n8
    have m16 := hD.m16
    have hc : d.length ≤ 1000000 ∧ ws.length ≤ 1000000 := ⟨by omega, by omega⟩
    rw [if_pos rfl, if_pos rfl, if_pos hc, if_pos hc]
    have hw : Fw d ws d.length := ⟨rfl, hD.n8, hD.m16, hD.wok, hD.del, fun v hp => by
      unfold validB at hv
      rw [Bool.and_eq_true] at hv
      have := hv.2
      rw [@decide_eq_true _ (Classical.propDecidable _) ⟨v, hp⟩] at this
      simp at this⟩
    obtain ⟨z, z1, z2, z3, z4⟩ := period_both hD K (by omega)
    obtain ⟨T, hT⟩ : ∃ T, T = mxl 0 z := ⟨_, rfl⟩
    rw [z3, z4, ← hT, Option.bind_some, Option.bind_some]
    obtain ⟨m1, m2, m3⟩ := mxl_at z 0
    rw [← hT] at m1 m2 m3
    have at_ : ∀ v : Nat, (hv : v < z.length) → z[v] = D v := fun v hv => by
      rw [← z2]; unfold fn; rw [List.getD_eq_getElem?_getD, List.getElem?_eq_getElem hv]; rfl
    obtain ⟨v, hvn, hvT⟩ : ∃ v, v < d.length ∧ D v = T := by
      rcases m1 with m1 | m1
      · refine ⟨0, by omega, ?_⟩
        have a1 := m3 _ (List.getElem_mem (l := z) (n := 0) (by omega))
        rw [at_ 0 (by omega)] at a1
        have a2 := hD.slow.own 0
        have a3 := (hD.del 0).1
        omega
      · obtain ⟨i, hi, he⟩ := List.getElem_of_mem m1
        exact ⟨i, by omega, by rw [← at_ i hi, he]⟩
    have htop := hD.top v
    obtain ⟨q0, g1, g2⟩ := slow_path hw hD.slow 8 v [(v : Int)] hvn (hw.rk8 v) (lst_one _)
    have hq0 : Gx d ws d.length [] T q0 := .step (v := v) ⟨hvn, .inl rfl⟩ (by rw [← hvT]; exact g1)
    have hq1 := g1.len
    rw [List.length_singleton] at g2 hq1
    obtain ⟨q, s1, s2⟩ := top_fnd hw T (by omega) K (by omega) q0 hq0 (by omega) K 1 (by omega) (by omega) (by omega) fun q' _ hq' => by
      rcases q' with _ | ⟨x, q'⟩
      · exact absurd rfl hq'
      · simp
    obtain ⟨b, b1, b2⟩ := impl_best hw T K (by omega)
    have e : b = q := b2.uniq s2
    subst e
    have hne : q0 ≠ [] := by rintro rfl; simp at hq1
    have hlen : b.length ≤ 16 := by
      rcases s2 with ⟨_, k⟩ | ⟨_, _, k⟩
      · exact absurd ⟨hne, hq0⟩ (k q0)
      · rcases k q0 ⟨hne, hq0⟩ with rfl | (k | ⟨k, _⟩) <;> omega
    rw [s1, b1]
    exact ⟨(b, true), hlen, rfl, rfl⟩
theorem bne_same (b : Bool) : (b != b) = false := by cases b <;> rfl
theorem FnExactSlowestPath_pure (l0 : List Int) (l1 : List S96) (h0 : l0.length ≤ 9223372036854775807) (w0 : ∀ n ∈ l0, (Lit.int .i64 n).wf = true) (h1 : l1.length ≤ 9223372036854775807) : ∃ k, laws_FnExactSlowestPath.f k l0 l1 = some true := by
  obtain ⟨k, hk⟩ : ∃ k : Nat, 20000000 < k := ⟨20000001, by omega⟩
  refine ⟨k + 3, ?_⟩
  unfold laws_FnExactSlowestPath.f
  obtain ⟨t, ht, hts⟩ := sz_eq l0 l1 h0 h1
  rw [ht, Option.bind_some]
  by_cases ht0 : t < 0
  · rw [if_pos ht0]
  obtain ⟨z0, z1⟩ := hts ht0
  have hlw : (l1.map toW).length ≤ 1048576 := by simp; omega
  obtain ⟨ws, hws⟩ : ∃ ws, ws = l1.map toW := ⟨_, rfl⟩
  have F : ∀ q, 20000000 < q → laws_toFlow.f q l0 l1 = some (l0, ws) := fun q hq => by rw [hws]; exact toFlow_eq q l0 l1 (by omega) (by omega) (by omega)
  rw [← hws] at hlw
  obtain ⟨c, hc1, hc2⟩ : ∃ c : Nat, 10000000 < c ∧ c < 20000000 := ⟨10000001, by omega, by omega⟩
  obtain ⟨R, r0, s0, i0⟩ := slow_same c l0 ws (by omega) (by omega) (by omega)
  have S : ∀ q, 20000000 < q → spec_SlowestPath.f q l0 ws = some R := fun q hq => at_rounds (g := fun k => spec_SlowestPath.f k l0 ws) (fun k => spec_SlowestPath.mono l0 ws k) (show c ≤ q by omega) s0
  have I : ∀ q, 20000000 < q → impl_SlowestPath.f q l0 ws = some R := fun q hq => at_rounds (g := fun k => impl_SlowestPath.f k l0 ws) (fun k => impl_SlowestPath.mono l0 ws k) (show c ≤ q by omega) i0
  have E : ∀ q, 20000000 < q → laws_eqInt64S.f q R.1 R.1 = some true := fun q hq => eqInt64S_refl q _ (by omega) (by omega)
  have E0 : ∀ q, 20000000 < q → laws_eqFlow.f q l0 ws l0 ws = some true := fun q hq => eqFlow_refl q _ _ (by omega) (by omega) (by omega)
  have M0 := markFlow_eq (k + 2) l0 ws (by omega) (by omega) (by omega)
  have M1 := markInt64S_eq (k + 1) R.1 1 (by omega) (by omega) (by omega) (by omega)
  have H1 := heldInt64S_eq (k + 1) 1 R.1.length (by omega) (by omega) (by omega) (by omega)
  have H2 := heldInt64S_eq k 1 R.1.length (by omega) (by omega) (by omega) (by omega)
  rw [if_neg ht0, F _ (by omega)]
  simp only [Option.bind_some]
  rw [S _ (by omega)]
  simp only [Option.bind_some]
  rw [I _ (by omega)]
  simp only [Option.bind_some]
  rw [E _ (by omega)]
  simp only [Option.bind_some, if_true]
  rw [bne_same, laws_FnExactSlowestPath.j0, if_neg (by decide), F _ (by omega)]
  simp only [Option.bind_some]
  rw [E0 _ (by omega)]
  simp only [Option.bind_some, if_true]
  rw [M0]
  simp only [Option.bind_some]
  rw [if_neg (by omega), E _ (by omega)]
  simp only [Option.bind_some, if_true]
  rw [bne_same, laws_FnExactSlowestPath.j1, if_neg (by decide), M1]
  simp only [Option.bind_some]
  rw [H1]
  simp only [Option.bind_some, if_true]
  rw [if_neg (by omega), F _ (by omega)]
  simp only [Option.bind_some]
  rw [I _ (by omega)]
  simp only [Option.bind_some]
  rw [E _ (by omega)]
  simp only [Option.bind_some, if_true]
  rw [bne_same, laws_FnExactSlowestPath.j2, if_neg (by decide), H2]
  simp only [Option.bind_some, if_true]
  rw [if_neg (by omega)]
end Go.Proofs.Ytojpibpjieanhaa.X
end
