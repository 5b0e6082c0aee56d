/- My own texts of this seat and its words, merged: CSlowLaw. Conditions: as each lemma says. -/
import Derived.Test.YtojpibpjieanhaaO24
import Derived.Test.YtojpibpjieanhaaO26
import Derived.Test.YtojpibpjieanhaaO27
section
namespace Go.Proofs.Ytojpibpjieanhaa.X
open Go.RowKit Go.Proofs.YtojpibpjieanhaaW.PrintWords Go.Proofs.YtojpibpjieanhaaW.PrintLast Go.Proofs.YtojpibpjieanhaaW.PrintMore Go.Proofs.Ytojpibpjieanhaa.FlowMath Go.Proofs.Ytojpibpjieanhaa.PathMath
set_option linter.unusedVariables false
set_option linter.unusedSimpArgs false
def pSum (d q : List Int) : Nat → Int
  | 0 => 0
  | i + 1 => pSum d q i + rd d (rd q (i : Int))
def Pw (ws : List S55) (n : Nat) (q : List Int) : Prop := ∀ i, i < q.length → ∃ v : Nat, rd q (i : Int) = (v : Int) ∧ v < n ∧ (i = 0 ∨ Out ws (rd q ((i : Int) - 1)) (rd q (i : Int)))
theorem rd_snoc_lt (l : List Int) (x : Int) (i : Nat) (h : i < l.length) : rd (l ++ [x]) (i : Int) = rd l (i : Int) := by
  unfold rd
  rw [Int.toNat_natCast, List.getD_eq_getElem?_getD, List.getD_eq_getElem?_getD, List.getElem?_append_left h]
theorem rd_snoc_end (l : List Int) (x : Int) : rd (l ++ [x]) (l.length : Int) = x := by
  unfold rd
  rw [Int.toNat_natCast, List.getD_eq_getElem?_getD, List.getElem?_append_right (Nat.le_refl _), Nat.sub_self]; rfl
theorem pSum_snoc (d l : List Int) (x : Int) : ∀ i, i ≤ l.length → pSum d (l ++ [x]) i = pSum d l i
  | 0, _ => rfl
  | i + 1, h => by rw [pSum, pSum, pSum_snoc d l x i (by omega), rd_snoc_lt l x i (by omega)]
theorem Gx.path {d : List Int} {ws : List S55} {n : Nat} {l q : List Int} {left : Int} (h : Gx d ws n l left q) : Pw ws n l → Pw ws n q ∧ pSum d q q.length = pSum d l l.length + left := by
  induction h with
  | done => exact fun hp => ⟨hp, by omega⟩
  | @step l q left v hs _ ih =>
    intro hp
    have hp2 : Pw ws n (l ++ [(v : Int)]) := by
      intro i hi
      rw [List.length_append, List.length_singleton] at hi
      by_cases e : i < l.length
      · obtain ⟨u, h1, h2, h3⟩ := hp i e
        refine ⟨u, by rw [rd_snoc_lt _ _ _ e]; exact h1, h2, ?_⟩
        rcases h3 with h3 | h3
        · exact .inl h3
        · by_cases e0 : i = 0
          · exact .inl e0
          · right
            rw [rd_snoc_lt _ _ _ e, show (i : Int) - 1 = ((i - 1 : Nat) : Int) by omega, rd_snoc_lt _ _ _ (by omega), show ((i - 1 : Nat) : Int) = (i : Int) - 1 by omega]
            exact h3
      · have ei : i = l.length := by omega
        subst ei
        refine ⟨v, rd_snoc_end _ _, hs.1, ?_⟩
        rcases hs.2 with h0 | h0
        · left; rw [h0]; rfl
        · by_cases e0 : l.length = 0
          · exact .inl e0
          · right
            rw [rd_snoc_end, show (l.length : Int) - 1 = ((l.length - 1 : Nat) : Int) by omega, rd_snoc_lt _ _ _ (by omega), show ((l.length - 1 : Nat) : Int) = (l.length : Int) - 1 by omega]
            exact h0
    obtain ⟨g1, g2⟩ := ih hp2
    refine ⟨g1, ?_⟩
    rw [g2, List.length_append, List.length_singleton, pSum, pSum_snoc _ _ _ _ (Nat.le_refl _), rd_snoc_end]
    omega
theorem pSum_bd {d : List Int} {ws : List S55} {n : Nat} (hd : ∀ v, 0 ≤ fn d v ∧ fn d v ≤ 100) {b : List Int} (hp : Pw ws n b) : ∀ i, i ≤ b.length → 0 ≤ pSum d b i ∧ pSum d b i ≤ 100 * i
  | 0, _ => ⟨Int.le_refl _, by simp [pSum]⟩
  | i + 1, h => by
    obtain ⟨v, v1, _, _⟩ := hp i (by omega)
    have := pSum_bd hd hp i (by omega)
    have hv := hd v
    have e0 : rd d (v : Int) = fn d v := rfl
    rw [pSum, v1, e0]
    omega
theorem lawS_l1 {d : List Int} {ws : List S55} {n : Nat} (hm : ws.length ≤ 16) (T R acc : Int) (b : List Int) (hb : b.length ≤ 100) (i : Nat) (hi : i < b.length) : ∀ (e j f : Nat) (fd : Bool), j + e = ws.length → (fd = true ∨ (1 ≤ i ∧ Out (ws.drop j) (rd b ((i : Int) - 1)) (rd b (i : Int)))) →
    laws_FnSlowest.l1 (f + e + 1) T b R acc (i : Int) fd (j : Int) d ws = laws_FnSlowest.l0 f T b R acc (wrap64 ((i : Int) + 1)) d ws
  | 0, j, f, fd, hj, h => by
    rw [laws_FnSlowest.l1, if_neg (by omega)]
    rcases h with h | ⟨_, w, hw, _⟩
    · rw [if_pos h]
    · rw [List.drop_of_length_le (by omega)] at hw; cases hw
  | e + 1, j, f, fd, hj, h => by
    have hlt : j < ws.length := by omega
    have ih := fun fd h => lawS_l1 (d := d) (n := n) hm T R acc b hb i hi e (j + 1) f fd (by omega) h
    rw [Int.natCast_add, Int.natCast_one] at ih
    rw [show f + (e + 1) + 1 = (f + e + 1) + 1 by omega, laws_FnSlowest.l1, if_pos (by omega), w64 (n := (j : Int) + 1) (by omega) (by omega)]
    cases fd with
    | true => rw [if_pos rfl]; exact ih true (.inl rfl)
    | false =>
      rw [if_neg (by decide), if_pos (by omega), rdT_at ws j hlt]
      rcases h with h | ⟨h1, w, hw, h2, h3, h4⟩
      · exact Bool.noConfusion h
      · have next : ¬ (w = ws[j]) → 1 ≤ i ∧ Out (ws.drop (j + 1)) (rd b ((i : Int) - 1)) (rd b (i : Int)) := fun hne => by
          rw [List.drop_eq_getElem_cons hlt] at hw
          rcases List.mem_cons.1 hw with e | hw
          · exact absurd e hne
          · exact ⟨h1, w, hw, h2, h3, h4⟩
        by_cases c1 : ws[j].f2 = 0
        · rw [if_pos c1, if_pos (by omega), if_pos (by omega)]
          by_cases c2 : ws[j].f1 = rd b (i : Int)
          · rw [if_pos c2, w64 (n := (i : Int) - 1) (by omega) (by omega), if_pos (by omega), if_pos (by omega)]
            by_cases c3 : ws[j].f0 = rd b ((i : Int) - 1)
            · rw [beq_iff_eq.2 c3]; exact ih true (.inl rfl)
            · rw [beq_eq_false_iff_ne.2 c3]
              exact ih false (.inr (next fun e => c3 (by rw [← e]; exact h2)))
          · rw [if_neg c2]
            exact ih false (.inr (next fun e => c2 (by rw [← e]; exact h4)))
        · rw [if_neg c1]
          exact ih false (.inr (next fun e => c1 (by rw [← e]; exact h3)))
theorem lawS_l2 {d : List Int} {ws : List S55} {n : Nat} {D : Nat → Int} (h : Slow d ws n D) (T : Int) (hT : ∀ v, v < n → D v ≤ T) : ∀ (e j f : Nat), j + e = ws.length → e < f → laws_FnSlowest.l2 f T (regSum ws ws.length) T (regSum ws j) (j : Int) d ws = some true
  | 0, j, f, hj, hf => by
    obtain ⟨f, rfl⟩ : ∃ q, f = q + 1 := ⟨f - 1, by omega⟩
    rw [laws_FnSlowest.l2, if_neg (by omega), if_pos rfl, show j = ws.length by omega, beq_self_eq_true]
  | e + 1, j, f, hj, hf => by
    obtain ⟨f, rfl⟩ : ∃ q, f = q + 1 := ⟨f - 1, by omega⟩
    have hlt : j < ws.length := by omega
    have hm := h.m16
    have ih := lawS_l2 h T hT e (j + 1) f (by omega) (by omega)
    rw [Int.natCast_add, Int.natCast_one] at ih
    obtain ⟨o1, o2, o3, o4, o5, o6⟩ := h.wok _ (List.getElem_mem hlt)
    have hlen := h.len
    have hsum : wrap64 (regSum ws j + ws[j].f2) = regSum ws (j + 1) := by
      rw [regSum, rdT_at ws j hlt]
    rw [laws_FnSlowest.l2, if_pos (by omega), if_pos (by omega), rdT_at ws j hlt, w64 (n := (j : Int) + 1) (by omega) (by omega), hsum]
    by_cases c1 : ws[j].f2 = 0
    · rw [if_pos c1, if_pos o1, if_pos (by omega), if_pos o3, if_pos (by omega)]
      have hd0 := h.del ws[j].f0.toNat
      have hd1 := h.del ws[j].f1.toNat
      have e0 : rd d ws[j].f0 = fn d ws[j].f0.toNat := rfl
      have e1 : rd d ws[j].f1 = fn d ws[j].f1.toNat := rfl
      have hfar := h.slow.far (ws[j].f0.toNat, ws[j].f1.toNat) ((eds_edge h.wok _).2 ⟨ws[j], List.getElem_mem hlt, c1, by omega, by omega⟩)
      have hown := h.slow.own ws[j].f1.toNat
      have hTv := hT ws[j].f0.toNat (by omega)
      simp only at hfar
      rw [if_neg (by rw [e0, e1, w64 (by omega) (by omega)]; omega)]
      exact ih
    · rw [if_neg c1]; exact ih
theorem lawS_l0 {d : List Int} {ws : List S55} {n : Nat} {D : Nat → Int} (h : Slow d ws n D) (T : Int) (hT : ∀ v, v < n → D v ≤ T) (b : List Int) (hb : b.length ≤ 100) (hp : Pw ws n b) (hs : pSum d b b.length = T) : ∀ (e i f : Nat), i + e = b.length → 100 * e + 50 < f → laws_FnSlowest.l0 f T b (regSum ws ws.length) (pSum d b i) (i : Int) d ws = some true
  | 0, i, f, hi, hf => by
    obtain ⟨f, rfl⟩ : ∃ q, f = q + 1 := ⟨f - 1, by omega⟩
    have hm := h.m16
    rw [laws_FnSlowest.l0, if_neg (by omega), show i = b.length by omega, hs]
    have := lawS_l2 h T hT ws.length 0 f (by omega) (by omega)
    rw [show ((0 : Nat) : Int) = 0 from rfl, show regSum ws 0 = 0 from rfl] at this
    exact this
  | e + 1, i, f, hi, hf => by
    obtain ⟨f, rfl⟩ : ∃ q, f = q + 1 + 1 := ⟨f - 2, by omega⟩
    have hm := h.m16
    have hlen := h.len
    have hn8 := h.n8
    obtain ⟨v, v1, v2, v3⟩ := hp i (by omega)
    have hacc := pSum_bd h.del hp i (by omega)
    have hdv := h.del v
    have e0 : rd d (v : Int) = fn d v := rfl
    rw [laws_FnSlowest.l0, if_pos (by omega), if_pos (by omega), v1, if_neg (by omega), laws_FnSlowest.j2, if_neg (by simp; omega), if_pos (by omega), if_pos (by omega), v1, if_pos (by omega), if_pos (by omega)]
    obtain ⟨q, hq⟩ : ∃ q, f = q + ws.length + 1 := ⟨f - ws.length - 1, by omega⟩
    have hsum : wrap64 (pSum d b i + rd d (v : Int)) = pSum d b (i + 1) := by
      rw [w64 (by omega) (by omega), pSum, v1]
    rw [hsum, hq]
    have h1 := lawS_l1 (d := d) (n := n) hm T (regSum ws ws.length) (pSum d b (i + 1)) b hb i (by omega) ws.length 0 q ((i : Int) == 0) (by omega) (by
      rcases v3 with v3 | v3
      · left; rw [v3]; rfl
      · by_cases e0 : i = 0
        · left; rw [e0]; rfl
        · exact .inr ⟨by omega, by rw [List.drop_zero]; exact v3⟩)
    rw [show ((0 : Nat) : Int) = 0 from rfl] at h1
    rw [h1, w64 (by omega) (by omega)]
    have ih := lawS_l0 h T hT b hb hp hs e (i + 1) q (by omega) (by omega)
    rw [Int.natCast_add, Int.natCast_one] at ih
    exact ih
theorem FnSlowest_pure : laws_FnSlowest.Pure := by
  intro l0 l1 _ _ w0 _ _ _
  obtain ⟨k, hk⟩ : ∃ k : Nat, 20000000 < k := ⟨20000001, by omega⟩
  refine ⟨k + 1, ?_⟩
  unfold laws_FnSlowest.f laws_r8Long.f
  have main : ((spec_R8Flow.f (k + 1) l0).bind fun bt752 => ((impl_FlowPeriod.f (k + 1) bt752.1 bt752.2).bind fun bt759 => ((impl_SlowestPath.f (k + 1) bt752.1 bt752.2).bind fun bt761 => ((impl_RegistersOf.f (k + 1) bt752.1 bt752.2).bind fun bt765 => (if bt759.2 = true then (if bt761.2 = true then (if bt765.2 = true then (laws_FnSlowest.j0 (k + 1) bt759.1 bt761.1 bt765.1 ((bt761.1.length : Int) == 0) bt752.1 bt752.2) else (laws_FnSlowest.j0 (k + 1) bt759.1 bt761.1 bt765.1 true bt752.1 bt752.2)) else (laws_FnSlowest.j0 (k + 1) bt759.1 bt761.1 bt765.1 true bt752.1 bt752.2)) else (laws_FnSlowest.j0 (k + 1) bt759.1 bt761.1 bt765.1 true bt752.1 bt752.2)))))) = some true := by
    obtain ⟨d, ws, hf, hv⟩ := flow_ok (k + 1) (by omega) l0 (byt_wf w0)
    rw [hf, Option.bind_some]
    simp only
    obtain ⟨D, hD⟩ := slow_of d ws hv
    have n1 := hD.n1
    have n8 := hD.n8
    have m16 := hD.m16
    have hw : Fw d ws d.length := ⟨rfl, hD.n8, hD.m16, hD.wok, hD.del, fun v hp => by
      unfold validB at hv
      rw [Bool.and_eq_true] at hv
      have := hv.2
      rw [@decide_eq_true _ (Classical.propDecidable _) ⟨v, hp⟩] at this
      simp at this⟩
    obtain ⟨z, z1, z2, z3, z4⟩ := period_both hD (k + 1) (by omega)
    obtain ⟨T, hT⟩ : ∃ T, T = mxl 0 z := ⟨_, rfl⟩
    rw [← hT] at z4
    obtain ⟨m1, m2, m3⟩ := mxl_at z 0
    rw [← hT] at m1 m2 m3
    have at_ : ∀ v : Nat, (hv : v < z.length) → z[v] = D v := fun v hv => by
      rw [← z2]; unfold fn; rw [List.getD_eq_getElem?_getD, List.getElem?_eq_getElem hv]; rfl
    have hDT : ∀ v, v < d.length → D v ≤ T := fun v hv => by
      have := m3 _ (List.getElem_mem (l := z) (n := v) (by omega))
      rwa [at_ v (by omega)] at this
    obtain ⟨r, r0, _, rs⟩ := slow_same (k + 1) d ws (by omega) (by omega) (by omega)
    obtain ⟨b, b1, b2⟩ := impl_best hw T (k + 1) (by omega)
    have hsl : impl_SlowestPath.f (k + 1) d ws = some (b, true) := by
      unfold impl_SlowestPath.f
      rw [impl_valid (k + 1) d ws (by omega), Option.bind_some, hv, if_pos rfl, if_pos ⟨by omega, by omega⟩, z4, Option.bind_some, b1, Option.bind_some]
    have hbl : b.length ≤ 16 := by
      rw [rs] at hsl
      injection hsl with hsl
      rw [hsl] at r0
      exact r0
    have hfp : impl_FlowPeriod.f (k + 1) d ws = some (T, true) := by
      unfold impl_FlowPeriod.f
      rw [impl_valid (k + 1) d ws (by omega), Option.bind_some, hv, if_pos rfl, z4]
      rfl
    have hrg : impl_RegistersOf.f (k + 1) d ws = some (regSum ws ws.length, true) := by
      unfold impl_RegistersOf.f
      rw [impl_valid (k + 1) d ws (by omega), Option.bind_some, hv, if_pos rfl]
      have := regs_loop ws m16 ws.length 0 (k + 1) (by omega) (by omega)
      exact this
    rw [hfp, Option.bind_some, hsl, Option.bind_some, hrg, Option.bind_some]
    simp only [if_true]
    -- the slowest path is there
    obtain ⟨v, hvn, hvT⟩ : ∃ v, v < d.length ∧ D v = T := by
      rcases m1 with m1 | m1
      · refine ⟨0, by omega, ?_⟩
        have a1 := hDT 0 (by omega)
        have a2 := hD.slow.own 0
        have a3 := (hD.del 0).1
        omega
      · obtain ⟨i, hi, he⟩ := List.getElem_of_mem m1
        exact ⟨i, by omega, by rw [← at_ i hi, he]⟩
    obtain ⟨q0, g1, g2⟩ := slow_path hw hD.slow 8 v [(v : Int)] hvn (hw.rk8 v) (lst_one _)
    have hq0 : Gx d ws d.length [] T q0 := .step (v := v) ⟨hvn, .inl rfl⟩ (by rw [← hvT]; exact g1)
    have hq1 := g1.len
    rw [List.length_singleton] at hq1
    have hne : q0 ≠ [] := by rintro rfl; simp at hq1
    rcases b2 with ⟨_, c2⟩ | ⟨hb0, ⟨_, hg⟩, _⟩
    · exact absurd ⟨hne, hq0⟩ (c2 q0)
    · have hbl0 : 1 ≤ b.length := by rcases b with _ | ⟨y, b⟩; exact absurd rfl hb0; simp
      obtain ⟨p1, p2⟩ := Gx.path hg (fun i hi => by simp at hi)
      have hs : pSum d b b.length = T := by rw [p2]; simp [pSum]
      rw [laws_FnSlowest.j0, if_neg (by rw [beq_eq_false_iff_ne.2 (by omega)]; decide)]
      exact lawS_l0 hD T hDT b (by omega) p1 hs b.length 0 k (by omega) (by omega)
  by_cases c1 : (l0.length : Int) > 48
  · rw [if_pos c1, Option.bind_some, if_pos rfl]
  · rw [if_neg c1, Option.bind_some]
    by_cases c2 : (l1.length : Int) > 48
    · rw [decide_eq_true c2, if_pos rfl]
    · rw [decide_eq_false c2, if_neg (by decide)]
      exact main
end Go.Proofs.Ytojpibpjieanhaa.X
end
