/- My own texts of this seat and its words, merged: CPeriod, CPaths, CSearch, Xp64, Xp35, Xp65, Xp36, CMark, Xp10, CSlowest, Xp26, XSRegs, Xp5, CRegs, Xp39. Conditions: as each lemma says. -/
import Derived.Test.YtojpibpjieanhaaO25
import Derived.Test.YtojpibpjieanhaaO21
import Derived.Test.YtojpibpjieanhaaO23
import Derived.Test.YtojpibpjieanhaaO24
section
namespace Go.Proofs.Ytojpibpjieanhaa.X
open Go.RowKit Go.Proofs.YtojpibpjieanhaaW.PrintWords Go.Proofs.YtojpibpjieanhaaW.PrintLast Go.Proofs.YtojpibpjieanhaaW.PrintMore Go.Proofs.Ytojpibpjieanhaa.FlowMath
set_option linter.unusedVariables false
set_option linter.unusedSimpArgs false
def fn (x : List Int) : Nat → Int := fun v => x.getD v 0
theorem rd_fn (x : List Int) (i : Int) (h : 0 ≤ i) : rd x i = fn x i.toNat := rfl
theorem fn_set (x : List Int) (i : Nat) (b : Int) (hi : i < x.length) (v : Nat) : fn (x.set i b) v = if v = i then b else fn x v := by
  unfold fn
  rw [List.getD_eq_getElem?_getD, List.getD_eq_getElem?_getD, List.getElem?_set]
  by_cases e : i = v
  · subst e; simp [hi]
  · rw [if_neg e, if_neg (fun h => e h.symm)]
theorem fn_ext {x y : List Int} (hl : x.length = y.length) (h : ∀ v, fn x v = fn y v) : x = y := by
  apply List.ext_getElem hl
  intro i h1 h2
  have := h i
  unfold fn at this
  rwa [List.getD_eq_getElem?_getD, List.getD_eq_getElem?_getD, List.getElem?_eq_getElem h1, List.getElem?_eq_getElem h2] at this
def eds : List S55 → List (Nat × Nat)
  | [] => []
  | w :: ws => if w.f2 = 0 then (w.f0.toNat, w.f1.toNat) :: eds ws else eds ws
theorem eds_edge {ws : List S55} {n : Nat} (hw : ∀ w, w ∈ ws → WireOk n w) (e : Nat × Nat) : e ∈ eds ws ↔ Edge ws e.1 e.2 := by
  induction ws with
  | nil => simp [eds, Edge]
  | cons w ws ih =>
    have ih := ih fun x hx => hw x (List.mem_cons_of_mem _ hx)
    have ho := hw w (List.mem_cons_self ..)
    unfold WireOk at ho
    unfold eds
    constructor
    · intro h
      by_cases h2 : w.f2 = 0
      · rw [if_pos h2, List.mem_cons] at h
        rcases h with h | h
        · exact ⟨w, List.mem_cons_self .., h2, by rw [h]; simp; omega, by rw [h]; simp; omega⟩
        · obtain ⟨x, h3, h4⟩ := ih.1 h
          exact ⟨x, List.mem_cons_of_mem _ h3, h4⟩
      · rw [if_neg h2] at h
        obtain ⟨x, h3, h4⟩ := ih.1 h
        exact ⟨x, List.mem_cons_of_mem _ h3, h4⟩
    · rintro ⟨x, h3, h4, h5, h6⟩
      rcases List.mem_cons.mp h3 with h | h
      · subst h
        rw [if_pos h4, List.mem_cons]
        left
        ext
        · simp; omega
        · simp; omega
      · have := ih.2 ⟨x, h, h4, h5, h6⟩
        split
        · exact List.mem_cons_of_mem _ this
        · exact this
def lstep (d x : List Int) (w : S55) : List Int := if w.f2 = 0 then x.set w.f0.toNat (max (fn x w.f0.toNat) (fn d w.f0.toNat + fn x w.f1.toNat)) else x
def lround (d : List Int) (ws : List S55) (x : List Int) : List Int := ws.foldl (lstep d) x
theorem lstep_len (d x : List Int) (w : S55) : (lstep d x w).length = x.length := by unfold lstep; split <;> simp
theorem lround_len (d : List Int) : ∀ (ws : List S55) (x : List Int), (lround d ws x).length = x.length
  | [], _ => rfl
  | w :: ws, x => by rw [lround, List.foldl_cons]; exact (lround_len d ws _).trans (lstep_len d x w)
theorem lstep_fn (d x : List Int) (w : S55) (h : w.f0.toNat < x.length) (h2 : w.f2 = 0) : fn (lstep d x w) = relax (fn d) (fn x) (w.f0.toNat, w.f1.toNat) := by
  funext v
  unfold lstep relax
  rw [if_pos h2, fn_set _ _ _ h]
theorem lround_fn (d : List Int) (n : Nat) : ∀ (ws : List S55) (x : List Int), x.length = n → (∀ w, w ∈ ws → WireOk n w) → fn (lround d ws x) = (eds ws).foldl (relax (fn d)) (fn x)
  | [], _, _, _ => rfl
  | w :: ws, x, hx, hw => by
    have ho := hw w (List.mem_cons_self ..)
    unfold WireOk at ho
    rw [lround, List.foldl_cons]
    have ih := lround_fn d n ws (lstep d x w) (by rw [lstep_len]; exact hx) fun y hy => hw y (List.mem_cons_of_mem _ hy)
    rw [lround] at ih
    rw [ih, eds]
    by_cases h2 : w.f2 = 0
    · rw [if_pos h2, List.foldl_cons, lstep_fn d x w (by omega) h2]
    · rw [if_neg h2]; unfold lstep; rw [if_neg h2]
structure Slow (d : List Int) (ws : List S55) (n : Nat) (D : Nat → Int) : Prop where
  len : d.length = n
  n1 : 1 ≤ n
  n8 : n ≤ 8
  m16 : ws.length ≤ 16
  wok : ∀ w, w ∈ ws → WireOk n w
  del : ∀ v, 0 ≤ fn d v ∧ fn d v ≤ 100
  slow : IsSlow (fn d) (eds ws) D
  top : ∀ v, D v ≤ 800
  conv : fn (lround d ws (List.replicate 0 0)) = fn (lround d ws (List.replicate 0 0))
  rnk : ∀ v, rnds (fn d) (eds ws) n v = D v
theorem slow_of (d : List Int) (ws : List S55) (h : validB d ws = true) : ∃ D, Slow d ws d.length D := by
  unfold validB at h
  rw [Bool.and_eq_true] at h
  obtain ⟨hn, hm, hd, hw⟩ := form_ok h.1
  have hac : ∀ v, ¬ Plus (Edge ws) v v := by
    intro v hv
    have := h.2
    rw [@decide_eq_true _ (Classical.propDecidable _) ⟨v, hv⟩] at this
    simp at this
  have hE : ∀ a b, Edge ws a b → a < d.length ∧ b < d.length := fun a b h => h.lt hw
  have hr : ∀ e, e ∈ eds ws → rank (Edge ws) d.length e.2 < rank (Edge ws) d.length e.1 := fun e he => rank_lt hE hac ((eds_edge hw e).1 he)
  have hdel : ∀ v, 0 ≤ fn d v ∧ fn d v ≤ 100 := by
    intro v
    unfold fn
    rw [List.getD_eq_getElem?_getD]
    rcases Nat.lt_or_ge v d.length with hv | hv
    · rw [List.getElem?_eq_getElem hv]; exact hd _ (List.getElem_mem hv)
    · rw [List.getElem?_eq_none hv]; simp
  obtain ⟨D, hD⟩ := slow_exists (fn d) (eds ws) _ hr
  have htop : ∀ r v, rank (Edge ws) d.length v = r → D v ≤ 100 * ((r : Int) + 1) := by
    intro r
    induction r using Nat.strongRecOn with
    | _ r ih =>
      intro v hv
      rcases hD.att v with ha | ⟨b, hb, ha⟩
      · have := (hdel v).2; omega
      · have h1 := hr _ hb
        simp only at h1
        have h2 := ih _ (by omega) b rfl
        have h3 := (hdel v).2
        omega
  have hrk : ∀ v, rank (Edge ws) d.length v ≤ 8 := by
    intro v
    have := cnt_le (fun u => Plus (Edge ws) v u) d.length
    unfold rank; omega
  refine ⟨D, rfl, hn.1, hn.2, hm, hw, hdel, hD, fun v => ?_, rfl, fun v => ?_⟩
  · rcases hD.att v with ha | ⟨b, hb, ha⟩
    · have := (hdel v).2; omega
    · have h1 := rank_n (E := Edge ws) hac ((hE _ _ ((eds_edge hw _).1 hb)).1)
      have h2 := htop _ v rfl
      simp only at h1
      omega
  · have hs := rnds_slow hD _ hr d.length
    by_cases hv : rank (Edge ws) d.length v < d.length + 1
    · exact hs.2 v hv
    · have := cnt_le (fun u => Plus (Edge ws) v u) d.length
      unfold rank at hv; omega
theorem Slow.btw_step {d : List Int} {ws : List S55} {n : Nat} {D : Nat → Int} (h : Slow d ws n D) {x : List Int} (hx : x.length = n) (hb : Btw (fn d) D (fn x)) {w : S55} (hw : w ∈ ws) : Btw (fn d) D (fn (lstep d x w)) := by
  have ho := h.wok w hw
  unfold WireOk at ho
  by_cases h2 : w.f2 = 0
  · rw [lstep_fn d x w (by omega) h2]
    exact btw_relax h.slow hb _ ((eds_edge h.wok _).2 ⟨w, hw, h2, by simp; omega, by simp; omega⟩)
  · unfold lstep; rw [if_neg h2]; exact hb
theorem Slow.bnd {d : List Int} {ws : List S55} {n : Nat} {D : Nat → Int} (h : Slow d ws n D) {x : List Int} (hb : Btw (fn d) D (fn x)) (v : Nat) : 0 ≤ fn x v ∧ fn x v ≤ 800 := by
  have h1 := hb v
  have h2 := h.del v
  have h3 := h.top v
  omega
theorem rnds_len_fn {d : List Int} {ws : List S55} {n : Nat} {D : Nat → Int} (h : Slow d ws n D) (i : Nat) : Btw (fn d) D (rnds (fn d) (eds ws) i) := by
  induction i with
  | zero => exact fun v => ⟨Int.le_refl _, h.slow.own v⟩
  | succ i ih => exact (fold_btw h.slow (eds ws) _ (fun _ h => h) ih).1
theorem step_eq {d : List Int} {ws : List S55} {n : Nat} {D : Nat → Int} (h : Slow d ws n D) {x : List Int} (hb : Btw (fn d) D (fn x)) {w : S55} (hw : w ∈ ws) : slowStep d x w = lstep d x w := by
  have ho := h.wok w hw
  unfold WireOk at ho
  obtain ⟨o1, o2, o3, o4, o5, o6⟩ := ho
  have b1 := h.bnd hb w.f1.toNat
  have b2 := h.del w.f0.toNat
  unfold slowStep lstep
  by_cases h2 : w.f2 = 0
  · rw [if_pos h2, if_pos (by rw [h2]; rfl), mx_eq, rd_fn x _ o1, rd_fn d _ o1, rd_fn x _ o3, w64 (by omega) (by omega)]
  · rw [if_neg h2, if_neg (by simpa using h2)]
theorem round_eq {d : List Int} {ws : List S55} {n : Nat} {D : Nat → Int} (h : Slow d ws n D) {x : List Int} (hx : x.length = n) (hb : Btw (fn d) D (fn x)) : ∀ j, j ≤ ws.length → slowRound d ws j x = lround d (ws.take j) x ∧ (slowRound d ws j x).length = n ∧ Btw (fn d) D (fn (slowRound d ws j x))
  | 0, _ => ⟨by simp [slowRound, lround], hx, hb⟩
  | j + 1, hj => by
    obtain ⟨h1, h2, h3⟩ := round_eq h hx hb j (by omega)
    have hlt : j < ws.length := by omega
    have hwm : ws[j] ∈ ws := List.getElem_mem hlt
    have e : slowRound d ws (j + 1) x = lstep d (slowRound d ws j x) ws[j] := by rw [slowRound, rdT_at ws j hlt, step_eq h h3 hwm]
    refine ⟨?_, by rw [e, lstep_len]; exact h2, by rw [e]; exact h.btw_step h2 h3 hwm⟩
    rw [e, h1, lround, lround, List.take_add_one, List.getElem?_eq_getElem hlt, Option.toList_some, List.foldl_append]; rfl
theorem rounds_eq {d : List Int} {ws : List S55} {n : Nat} {D : Nat → Int} (h : Slow d ws n D) : ∀ i, (slowRounds d ws i).length = n ∧ fn (slowRounds d ws i) = rnds (fn d) (eds ws) i
  | 0 => ⟨h.len, rfl⟩
  | i + 1 => by
    obtain ⟨h1, h2⟩ := rounds_eq h i
    have hb : Btw (fn d) D (fn (slowRounds d ws i)) := by rw [h2]; exact rnds_len_fn h i
    obtain ⟨e, g1, g2⟩ := round_eq h h1 hb ws.length (Nat.le_refl _)
    refine ⟨g1, ?_⟩
    rw [slowRounds, e, List.take_length, lround_fn d n ws _ h1 h.wok, h2]; rfl
theorem impl_slow {d : List Int} {ws : List S55} {n : Nat} {D : Nat → Int} (h : Slow d ws n D) : ∃ y, impl_Flow_slowest.f d ws = some y ∧ y.length = n ∧ fn y = D := by
  have hn := h.n8
  have hn1 := h.n1
  have hl := h.len
  have hm := h.m16
  refine ⟨slowRounds d ws n, ?_, (rounds_eq h n).1, ?_⟩
  · unfold impl_Flow_slowest.f
    have hin : ∀ j : Nat, j < ws.length → WireIn d.length (rd_T55 ws (j : Int)) := by
      intro j hj
      rw [rdT_at ws j hj]
      have ho := h.wok _ (List.getElem_mem hj)
      unfold WireOk at ho
      unfold WireIn
      omega
    rw [if_pos ⟨by omega, by omega, by omega, hin⟩, hl]
  · funext v
    rw [(rounds_eq h n).2]; exact h.rnk v
def chg (d : List Int) : List S55 → List Int → Bool
  | [], _ => false
  | w :: ws, x => (decide (w.f2 = 0) && decide (fn d w.f0.toNat + fn x w.f1.toNat > fn x w.f0.toNat)) || chg d ws (lstep d x w)
theorem set_same (x : List Int) (i : Nat) : x.set i (fn x i) = x := by
  apply List.ext_getElem?
  intro j
  rw [List.getElem?_set]
  by_cases e : i = j
  · subst e
    rw [if_pos rfl]
    split
    · unfold fn; rw [List.getD_eq_getElem?_getD, List.getElem?_eq_getElem ‹_›]; rfl
    · rw [List.getElem?_eq_none (by omega)]
  · rw [if_neg e]
theorem step_same {d x : List Int} {w : S55} (h : (decide (w.f2 = 0) && decide (fn d w.f0.toNat + fn x w.f1.toNat > fn x w.f0.toNat)) = false) : lstep d x w = x := by
  unfold lstep
  by_cases h2 : w.f2 = 0
  · rw [if_pos h2]
    rw [decide_eq_true h2, Bool.true_and, decide_eq_false_iff_not] at h
    rw [Int.max_eq_left (by omega)]
    exact set_same x _
  · rw [if_neg h2]
theorem chg_false {d : List Int} : ∀ {ws : List S55} {x : List Int}, chg d ws x = false → lround d ws x = x
  | [], _, _ => rfl
  | w :: ws, x, h => by
    rw [chg, Bool.or_eq_false_iff] at h
    have h1 := step_same h.1
    rw [lround, List.foldl_cons, h1]
    rw [h1] at h
    exact chg_false h.2
theorem chg_fix {d : List Int} {D : Nat → Int} {es : List (Nat × Nat)} (hD : IsSlow (fn d) es D) : ∀ {ws : List S55} {x : List Int}, (∀ w, w ∈ ws → w.f2 = 0 → (w.f0.toNat, w.f1.toNat) ∈ es) → fn x = D → chg d ws x = false
  | [], _, _, _ => rfl
  | w :: ws, x, hw, hx => by
    have h1 : (decide (w.f2 = 0) && decide (fn d w.f0.toNat + fn x w.f1.toNat > fn x w.f0.toNat)) = false := by
      by_cases h2 : w.f2 = 0
      · rw [decide_eq_true h2, Bool.true_and, decide_eq_false_iff_not, hx]
        have := hD.far _ (hw w (List.mem_cons_self ..) h2)
        simp only at this
        omega
      · rw [decide_eq_false h2, Bool.false_and]
    rw [chg, h1, Bool.false_or, step_same h1]
    exact chg_fix hD (fun y hy => hw y (List.mem_cons_of_mem _ hy)) hx
theorem spec_in {d : List Int} {ws : List S55} {n : Nat} {D : Nat → Int} (h : Slow d ws n D) (i : Int) : ∀ (e j k : Nat) (x : List Int) (c : Bool), j + e = ws.length → x.length = n → Btw (fn d) D (fn x) → e < k →
    ∃ k', k = k' + e + 1 ∧ spec_l08Behind.l1 k x i c j d ws = if (c || chg d (ws.drop j) x) = true then spec_l08Behind.l0 k' (lround d (ws.drop j) x) (wrap64 (i + 1)) d ws else some (lround d (ws.drop j) x, true)
  | 0, j, k, x, c, hj, hx, hb, hk => by
    cases k with
    | zero => omega
    | succ k => exact ⟨k, by omega, by rw [spec_l08Behind.l1, if_neg (by omega), List.drop_of_length_le (by omega), chg, Bool.or_false]; rfl⟩
  | e + 1, j, k, x, c, hj, hx, hb, hk => by
    cases k with
    | zero => omega
    | succ k =>
      have hlt : j < ws.length := by omega
      have hm := h.m16
      have hwm : ws[j] ∈ ws := List.getElem_mem hlt
      obtain ⟨o1, o2, o3, o4, o5, o6⟩ := h.wok _ hwm
      have hlen := h.len
      have b1 := h.bnd hb ws[j].f1.toNat
      have b2 := h.del ws[j].f0.toNat
      rw [spec_l08Behind.l1, if_pos (by omega), if_pos (by omega), rdT_at ws j hlt, w64 (n := (j : Int) + 1) (by omega) (by omega), if_pos (by omega), if_pos (by omega), if_pos (by omega), if_pos (by omega), rd_fn x _ o1, rd_fn d _ o1, rd_fn x _ o3, w64 (n := fn d ws[j].f0.toNat + fn x ws[j].f1.toNat) (by omega) (by omega), List.drop_eq_getElem_cons hlt, lround, List.foldl_cons, chg]
      by_cases hc : (decide (ws[j].f2 = 0) && decide (fn d ws[j].f0.toNat + fn x ws[j].f1.toNat > fn x ws[j].f0.toNat)) = true
      · rw [hc, Bool.true_or]
        rw [Bool.and_eq_true, decide_eq_true_eq, decide_eq_true_eq] at hc
        obtain ⟨k', hk', ih⟩ := spec_in h i e (j + 1) k (lstep d x ws[j]) true (by omega) (by rw [lstep_len]; exact hx) (h.btw_step hx hb hwm) (by omega)
        refine ⟨k', by omega, ?_⟩
        rw [Int.natCast_add, Int.natCast_one, lround, Bool.true_or] at ih
        rw [if_pos hc.1, if_pos (by omega), if_pos hc.2, Bool.or_true]
        have e1 : lstep d x ws[j] = x.set ws[j].f0.toNat (fn d ws[j].f0.toNat + fn x ws[j].f1.toNat) := by unfold lstep; rw [if_pos hc.1, Int.max_eq_right (by omega)]
        rw [← e1]; exact ih
      · have hc' : (decide (ws[j].f2 = 0) && decide (fn d ws[j].f0.toNat + fn x ws[j].f1.toNat > fn x ws[j].f0.toNat)) = false := by simpa using hc
        have e1 := step_same hc'
        obtain ⟨k', hk', ih⟩ := spec_in h i e (j + 1) k x c (by omega) hx hb (by omega)
        refine ⟨k', by omega, ?_⟩
        rw [Int.natCast_add, Int.natCast_one, lround] at ih
        rw [hc', Bool.false_or, e1]
        by_cases h2 : ws[j].f2 = 0
        · rw [decide_eq_true h2, Bool.true_and, decide_eq_false_iff_not] at hc'
          rw [if_pos h2, if_pos (by omega), if_neg hc']; exact ih
        · rw [if_neg h2]; exact ih
theorem rnds_fixed {d : Nat → Int} {es : List (Nat × Nat)} {i : Nat} (h : rnd d es (rnds d es i) = rnds d es i) : ∀ e, rnds d es (i + e) = rnds d es i
  | 0 => rfl
  | e + 1 => by rw [← Nat.add_assoc, rnds, rnds_fixed h e, h]
theorem spec_out {d : List Int} {ws : List S55} {n : Nat} {D : Nat → Int} (h : Slow d ws n D) : ∀ (e i k : Nat) (x : List Int), i + e = n → x.length = n → fn x = rnds (fn d) (eds ws) i → 20 * (e + 1) < k →
    ∃ y, spec_l08Behind.l0 k x i d ws = some (y, true) ∧ y.length = n ∧ fn y = D := by
  intro e
  induction e with
  | zero =>
    intro i k x hi hx hf hk
    cases k with
    | zero => omega
    | succ k =>
      have hm := h.m16
      have hn := h.n8
      have hlen := h.len
      have hb : Btw (fn d) D (fn x) := by rw [hf]; exact rnds_len_fn h i
      have hD : fn x = D := by
        have : i = n := by omega
        subst this
        funext v; rw [hf]; exact h.rnk v
      rw [spec_l08Behind.l0, if_pos (by omega)]
      obtain ⟨k', hk', h1⟩ := spec_in h (i : Int) ws.length 0 k x false (by omega) hx hb (by omega)
      rw [show ((0 : Nat) : Int) = 0 from rfl, List.drop_zero] at h1
      have hc := chg_fix h.slow (ws := ws) (x := x) (fun w hw h2 => by
        have ho := h.wok w hw
        unfold WireOk at ho
        exact (eds_edge h.wok _).2 ⟨w, hw, h2, by simp; omega, by simp; omega⟩) hD
      rw [h1, hc, Bool.false_or, if_neg (by decide)]
      exact ⟨_, rfl, by rw [lround_len]; exact hx, by rw [chg_false hc]; exact hD⟩
  | succ e ih =>
    intro i k x hi hx hf hk
    cases k with
    | zero => omega
    | succ k =>
      have hm := h.m16
      have hn := h.n8
      have hlen := h.len
      have hb : Btw (fn d) D (fn x) := by rw [hf]; exact rnds_len_fn h i
      rw [spec_l08Behind.l0, if_pos (by omega)]
      obtain ⟨k', hk', h1⟩ := spec_in h (i : Int) ws.length 0 k x false (by omega) hx hb (by omega)
      rw [show ((0 : Nat) : Int) = 0 from rfl, List.drop_zero] at h1
      rw [h1, Bool.false_or]
      have hnext : fn (lround d ws x) = rnds (fn d) (eds ws) (i + 1) := by rw [lround_fn d n ws x hx h.wok, hf]; rfl
      cases hc : chg d ws x with
      | true =>
        rw [if_pos rfl, w64 (by omega) (by omega)]
        have := ih (i + 1) k' (lround d ws x) (by omega) (by rw [lround_len]; exact hx) hnext (by omega)
        rw [Int.natCast_add, Int.natCast_one] at this
        exact this
      | false =>
        rw [if_neg (by decide)]
        refine ⟨_, rfl, by rw [lround_len]; exact hx, ?_⟩
        rw [chg_false hc]
        have hfix : rnd (fn d) (eds ws) (rnds (fn d) (eds ws) i) = rnds (fn d) (eds ws) i := by
          have : rnds (fn d) (eds ws) (i + 1) = rnds (fn d) (eds ws) i := by rw [← hnext, chg_false hc, hf]
          exact this
        have := rnds_fixed hfix (e + 1)
        rw [show i + (e + 1) = n by omega] at this
        rw [hf, ← this]
        funext v; exact h.rnk v
theorem spec_slow {d : List Int} {ws : List S55} {n : Nat} {D : Nat → Int} (h : Slow d ws n D) (k : Nat) (hk : 300 < k) : ∃ y, spec_l08Behind.f k d ws = some (y, true) ∧ y.length = n ∧ fn y = D := by
  have hn := h.n8
  have hl := h.len
  obtain ⟨y, h1, h2⟩ := spec_out h n 0 k d (by omega) hl rfl (by omega)
  refine ⟨y, ?_, h2⟩
  unfold spec_l08Behind.f spec_l00Own.f
  rw [Option.bind_some, if_pos (by simp; omega), Option.bind_some, List.nil_append]
  exact h1
def mxl (a : Int) (l : List Int) : Int := l.foldl max a
theorem smax_loop (z : List Int) (hz : z.length ≤ 1000) : ∀ (e i k : Nat) (a : Int), i + e = z.length → e < k → spec_l08Period.l0 k z a i = some (mxl a (z.drop i))
  | 0, i, k, a, hi, hk => by
    cases k with
    | zero => omega
    | succ k => rw [spec_l08Period.l0, if_neg (by omega), List.drop_of_length_le (by omega)]; rfl
  | e + 1, i, k, a, hi, hk => by
    cases k with
    | zero => omega
    | succ k =>
      have hlt : i < z.length := by omega
      have ih := smax_loop z hz e (i + 1) k (max a z[i]) (by omega) (by omega)
      rw [Int.natCast_add, Int.natCast_one] at ih
      have hmx : spec_l00Max.f a z[i] = some (max a z[i]) := by unfold spec_l00Max.f; split <;> (congr 1; omega)
      rw [spec_l08Period.l0, if_pos (by omega), if_pos (by omega), rd_at z i hlt, hmx, Option.bind_some, w64 (by omega) (by omega), ih, List.drop_eq_getElem_cons hlt]; rfl
theorem imax_loop (z : List Int) (hz : z.length ≤ 1000) : ∀ (e i k : Nat) (a : Int), i + e = z.length → e < k → slices_Max_int64_int64.l0 k z a i = some (mxl a (z.drop i))
  | 0, i, k, a, hi, hk => by
    cases k with
    | zero => omega
    | succ k => rw [slices_Max_int64_int64.l0, if_neg (by omega), List.drop_of_length_le (by omega)]; rfl
  | e + 1, i, k, a, hi, hk => by
    cases k with
    | zero => omega
    | succ k =>
      have hlt : i < z.length := by omega
      have ih := imax_loop z hz e (i + 1) k (max a z[i]) (by omega) (by omega)
      rw [Int.natCast_add, Int.natCast_one] at ih
      rw [slices_Max_int64_int64.l0, if_pos (by omega), if_pos (by omega), rd_at z i hlt, mx_eq, w64 (by omega) (by omega), ih, List.drop_eq_getElem_cons hlt]; rfl
theorem imax_eq (z : List Int) (hz : z.length ≤ 1000) (h1 : 1 ≤ z.length) (k : Nat) (hk : 1000 < k) : slices_Max_int64_int64.f k z = some (mxl z[0] (z.drop 1)) := by
  unfold slices_Max_int64_int64.f
  have := imax_loop z hz (z.length - 1) 1 k z[0] (by omega) (by omega)
  have hr : rd z 0 = z[0] := rd_at z 0 (by omega)
  rw [if_neg (by omega), if_pos (by omega), hr]
  exact this
theorem period_both {d : List Int} {ws : List S55} {n : Nat} {D : Nat → Int} (h : Slow d ws n D) (k : Nat) (hk : 2000 < k) : ∃ z : List Int, z.length = n ∧ fn z = D ∧ spec_l08Period.f k d ws = some (mxl 0 z) ∧ impl_Flow_period.f k d ws = some (mxl 0 z) := by
  have hn := h.n8
  have hn1 := h.n1
  obtain ⟨y, h1, h2, h3⟩ := impl_slow h
  obtain ⟨z, g1, g2, g3⟩ := spec_slow h k (by omega)
  have e : z = y := fn_ext (by omega) (fun v => by rw [g3, h3])
  subst e
  refine ⟨z, g2, g3, ?_, ?_⟩
  · unfold spec_l08Period.f
    rw [g1, Option.bind_some]
    have := smax_loop z (by omega) z.length 0 k 0 (by omega) (by omega)
    rw [show ((0 : Nat) : Int) = 0 from rfl] at this
    rw [this, List.drop_zero]
  · unfold impl_Flow_period.f
    rw [h1, Option.bind_some, imax_eq z (by omega) (by omega) k (by omega), Option.bind_some]
    congr 1
    have h0 : 0 ≤ z[0] := by
      have := h.slow.own 0
      have hd := (h.del 0).1
      have : fn z 0 = z[0] := by unfold fn; rw [List.getD_eq_getElem?_getD, List.getElem?_eq_getElem]; rfl
      rw [← this, h3]; omega
    have hz : z = z[0] :: z.drop 1 := by
      have := List.drop_eq_getElem_cons (l := z) (i := 0) (by omega)
      rw [List.drop_zero] at this
      exact this
    conv => rhs; rw [hz]
    unfold mxl
    have h0' : max (0 : Int) z[0] = z[0] := Int.max_eq_right h0
    rw [List.foldl_cons, h0']
end Go.Proofs.Ytojpibpjieanhaa.X
end
section
namespace Go.Proofs.Ytojpibpjieanhaa.PathMath
open Go.RowKit Go.Proofs.YtojpibpjieanhaaW.PrintWords Go.Proofs.YtojpibpjieanhaaW.PrintLast Go.Proofs.YtojpibpjieanhaaW.PrintMore
open Go.Proofs.Ytojpibpjieanhaa.X Go.Proofs.Ytojpibpjieanhaa.FlowMath
set_option linter.unusedVariables false
set_option linter.unusedSimpArgs false
def lexlt : List Int → List Int → Prop
  | x :: xs, y :: ys => x < y ∨ (x = y ∧ lexlt xs ys)
  | _, _ => False
theorem lex_irr : ∀ a, ¬ lexlt a a
  | [], h => h
  | x :: a, h => by
    rcases h with h | ⟨_, h⟩
    · omega
    · exact lex_irr a h
theorem lex_trans : ∀ {a b c : List Int}, lexlt a b → lexlt b c → lexlt a c
  | [], _, _, h, _ => h.elim
  | _ :: _, [], _, h, _ => h.elim
  | _ :: _, _ :: _, [], _, h => h.elim
  | x :: a, y :: b, z :: c, h, k => by
    rcases h with h | ⟨h1, h2⟩
    · rcases k with k | ⟨k1, k2⟩
      · exact .inl (by omega)
      · exact .inl (by omega)
    · rcases k with k | ⟨k1, k2⟩
      · exact .inl (by omega)
      · exact .inr ⟨by omega, lex_trans h2 k2⟩
theorem lex_tri : ∀ {a b : List Int}, a.length = b.length → lexlt a b ∨ a = b ∨ lexlt b a
  | [], [], _ => .inr (.inl rfl)
  | [], _ :: _, h => by simp at h
  | _ :: _, [], h => by simp at h
  | x :: a, y :: b, h => by
    have h' : a.length = b.length := by simpa using h
    rcases Int.lt_trichotomy x y with hx | rfl | hx
    · exact .inl (.inl hx)
    · rcases lex_tri h' with k | rfl | k
      · exact .inl (.inr ⟨rfl, k⟩)
      · exact .inr (.inl rfl)
      · exact .inr (.inr (.inr ⟨rfl, k⟩))
    · exact .inr (.inr (.inl hx))
theorem lex_pre : ∀ (p a b : List Int), lexlt a b → lexlt (p ++ a) (p ++ b)
  | [], _, _, h => h
  | x :: p, a, b, h => .inr ⟨rfl, lex_pre p a b h⟩
def Lt (a b : List Int) : Prop := a.length < b.length ∨ (a.length = b.length ∧ lexlt a b)
theorem lt_irr (a : List Int) : ¬ Lt a a := by
  rintro (h | ⟨_, h⟩)
  · omega
  · exact lex_irr a h
theorem lt_trans {a b c : List Int} (h : Lt a b) (k : Lt b c) : Lt a c := by
  rcases h with h | ⟨h1, h2⟩
  · rcases k with k | ⟨k1, k2⟩
    · exact .inl (by omega)
    · exact .inl (by omega)
  · rcases k with k | ⟨k1, k2⟩
    · exact .inl (by omega)
    · exact .inr ⟨by omega, lex_trans h2 k2⟩
def BestOf (b : List Int) (S : List Int → Prop) : Prop := (b = [] ∧ ∀ q, ¬ S q) ∨ (b ≠ [] ∧ S b ∧ ∀ q, S q → q = b ∨ Lt b q)
theorem BestOf.congr {b : List Int} {S S' : List Int → Prop} (h : BestOf b S) (hs : ∀ q, S q ↔ S' q) : BestOf b S' := by
  rcases h with ⟨h1, h2⟩ | ⟨h1, h2, h3⟩
  · exact .inl ⟨h1, fun q hq => h2 q ((hs q).2 hq)⟩
  · exact .inr ⟨h1, (hs b).1 h2, fun q hq => h3 q ((hs q).2 hq)⟩
theorem BestOf.uniq {b b' : List Int} {S : List Int → Prop} (h : BestOf b S) (h' : BestOf b' S) : b = b' := by
  rcases h with ⟨h1, h2⟩ | ⟨h1, h2, h3⟩
  · rcases h' with ⟨k1, k2⟩ | ⟨k1, k2, k3⟩
    · rw [h1, k1]
    · exact absurd k2 (h2 _)
  · rcases h' with ⟨k1, k2⟩ | ⟨k1, k2, k3⟩
    · exact absurd h2 (k2 _)
    · rcases h3 _ k2 with e | e
      · exact e.symm
      · rcases k3 _ h2 with f | f
        · exact f
        · exact absurd (lt_trans e f) (lt_irr _)
theorem cmp_go (p b : List Int) (hl : p.length = b.length) (hs : p.length ≤ 1000) : ∀ (e i k : Nat), i + e = p.length → e < k → ∃ r, slices_Compare_int64_int64.l0 k p b p (p.length : Int) (i : Int) = some r ∧ (r < 0 ↔ lexlt (p.drop i) (b.drop i))
  | 0, i, k, hi, hk => by
    cases k with
    | zero => omega
    | succ k =>
      refine ⟨0, ?_, ?_⟩
      · rw [slices_Compare_int64_int64.l0, if_neg (by omega), if_neg (by omega)]
      · rw [List.drop_of_length_le (by omega), List.drop_of_length_le (by omega)]
        exact ⟨fun h => by omega, fun h => h.elim⟩
  | e + 1, i, k, hi, hk => by
    cases k with
    | zero => omega
    | succ k =>
      obtain ⟨r, h1, h2⟩ := cmp_go p b hl hs e (i + 1) k (by omega) (by omega)
      have hip : i < p.length := by omega
      have hib : i < b.length := by omega
      rw [slices_Compare_int64_int64.l0, if_pos (by omega), if_pos (by omega), if_pos (by omega), if_neg (by omega), if_pos (by omega), List.drop_eq_getElem_cons hip, List.drop_eq_getElem_cons hib]
      have e1 : rd p (i : Int) = p[i] := rd_nat _ _ hip
      have e2 : rd b (i : Int) = b[i] := rd_nat _ _ hib
      rw [e1, e2]
      unfold cmp_Compare_int64.f cmp_isNaN_int64.f
      simp only [Option.bind_some, bne_self_eq_false, Bool.false_eq_true, if_false]
      rcases Int.lt_trichotomy p[i] b[i] with hx | hx | hx
      · rw [if_pos hx, Option.bind_some, if_neg (by omega)]
        exact ⟨_, rfl, ⟨fun _ => .inl hx, fun _ => by omega⟩⟩
      · rw [if_neg (by omega), if_neg (by omega), Option.bind_some, if_pos rfl, w64 (by omega) (by omega)]
        rw [Int.natCast_add, Int.natCast_one] at h1
        refine ⟨r, h1, h2.trans ⟨fun h => .inr ⟨hx, h⟩, fun h => ?_⟩⟩
        rcases h with h | ⟨_, h⟩
        · omega
        · exact h
      · rw [if_neg (by omega), if_pos (by omega), Option.bind_some, if_neg (by omega)]
        refine ⟨_, rfl, ⟨fun h => by omega, fun h => ?_⟩⟩
        rcases h with h | ⟨h, _⟩ <;> omega
theorem cmp_eq (p b : List Int) (hl : p.length = b.length) (hs : p.length ≤ 1000) (k : Nat) (hk : 1000 < k) : ∃ r, slices_Compare_int64_int64.f k p b = some r ∧ (r < 0 ↔ lexlt p b) := by
  have := cmp_go p b hl hs p.length 0 k (by omega) (by omega)
  exact this
theorem upd_best (K : Nat) (T t : Int) (p b : List Int) (S : List Int → Prop) (hp : p ≠ []) (hl : p.length ≤ 1000) (hK : 1000 < K) (h : BestOf b S) : ∃ b1, updS K T p b t = some b1 ∧ BestOf b1 fun q => S q ∨ (q = p ∧ t = T) := by
  unfold updS
  by_cases ht : t = T
  · rw [if_pos (beq_iff_eq.2 ht)]
    have better : (Lt p b ∨ b = []) → BestOf p fun q => S q ∨ (q = p ∧ t = T) := by
      intro hh
      refine .inr ⟨hp, .inr ⟨rfl, ht⟩, fun q hq => ?_⟩
      rcases hq with hq | ⟨rfl, _⟩
      · rcases h with ⟨h1, h2⟩ | ⟨h1, h2, h3⟩
        · exact absurd hq (h2 q)
        · rcases hh with hh | hh
          · rcases h3 q hq with rfl | e
            · exact .inr hh
            · exact .inr (lt_trans hh e)
          · exact absurd hh h1
      · exact .inl rfl
    have worse : b ≠ [] → (p = b ∨ Lt b p) → BestOf b fun q => S q ∨ (q = p ∧ t = T) := by
      intro hb hh
      rcases h with ⟨h1, h2⟩ | ⟨h1, h2, h3⟩
      · exact absurd h1 hb
      · refine .inr ⟨h1, .inl h2, fun q hq => ?_⟩
        rcases hq with hq | ⟨rfl, _⟩
        · exact h3 q hq
        · rcases hh with hh | hh
          · exact .inl hh
          · exact .inr hh
    by_cases hb : b.length = 0
    · have hb' : b = [] := List.eq_nil_of_length_eq_zero hb
      rw [if_pos (beq_iff_eq.2 (by omega))]
      exact ⟨p, rfl, better (.inr hb')⟩
    · have hb' : b ≠ [] := fun e => hb (by rw [e]; rfl)
      rw [if_neg (fun e => hb (by have := beq_iff_eq.1 e; omega))]
      by_cases h1 : (p.length : Int) < b.length
      · rw [if_pos h1]
        exact ⟨p, rfl, better (.inl (.inl (by omega)))⟩
      · rw [if_neg h1]
        by_cases h2 : p.length = b.length
        · rw [if_pos (beq_iff_eq.2 (by omega))]
          obtain ⟨r, hr, hr2⟩ := cmp_eq p b h2 hl K hK
          rw [hr, Option.bind_some]
          by_cases h3 : r < 0
          · rw [if_pos h3]
            exact ⟨p, rfl, better (.inl (.inr ⟨h2, hr2.1 h3⟩))⟩
          · rw [if_neg h3]
            refine ⟨b, rfl, worse hb' ?_⟩
            rcases lex_tri h2 with e | e | e
            · exact absurd (hr2.2 e) h3
            · exact .inl e
            · exact .inr (.inr ⟨h2.symm, e⟩)
        · rw [if_neg (fun e => h2 (by have := beq_iff_eq.1 e; omega))]
          exact ⟨b, rfl, worse hb' (.inr (.inl (by omega)))⟩
  · rw [if_neg (fun e => ht (beq_iff_eq.1 e))]
    refine ⟨b, rfl, h.congr fun q => ⟨.inl, fun hq => ?_⟩⟩
    rcases hq with hq | ⟨_, e⟩
    · exact hq
    · exact absurd e ht
def Out (ws : List S55) (a x : Int) : Prop := ∃ w, w ∈ ws ∧ w.f0 = a ∧ w.f2 = 0 ∧ w.f1 = x
theorem idx_go (l : List Int) (hl : l.length ≤ 1000) (a : Int) : ∀ (e i k : Nat), i + e = l.length → e < k → ∃ r : Int, slices_Index_int64_int64.l0 k l a (l.length : Int) (i : Int) = some r ∧ (r ≥ 0 ↔ a ∈ l.drop i)
  | 0, i, k, hi, hk => by
    cases k with
    | zero => omega
    | succ k => exact ⟨-1, by rw [slices_Index_int64_int64.l0, if_neg (by omega)], by rw [List.drop_of_length_le (by omega)]; simp⟩
  | e + 1, i, k, hi, hk => by
    cases k with
    | zero => omega
    | succ k =>
      obtain ⟨r, h1, h2⟩ := idx_go l hl a e (i + 1) k (by omega) (by omega)
      have hil : i < l.length := by omega
      have e1 : rd l (i : Int) = l[i] := rd_nat _ _ hil
      rw [slices_Index_int64_int64.l0, if_pos (by omega), if_pos (by omega), if_pos (by omega), e1, List.drop_eq_getElem_cons hil]
      by_cases ha : a = l[i]
      · rw [if_pos ha]
        exact ⟨_, rfl, ⟨fun _ => by rw [ha]; exact List.mem_cons_self .., fun _ => by omega⟩⟩
      · rw [if_neg ha, w64 (by omega) (by omega)]
        rw [Int.natCast_add, Int.natCast_one] at h1
        refine ⟨r, h1, h2.trans ⟨fun h => List.mem_cons_of_mem _ h, fun h => ?_⟩⟩
        rcases List.mem_cons.1 h with h | h
        · exact absurd h ha
        · exact h
theorem has_eq (l : List Int) (hl : l.length ≤ 1000) (a : Int) (k : Nat) (hk : 1000 < k) : slices_Contains_int64_int64.f k l a = some (decide (a ∈ l)) := by
  obtain ⟨r, h1, h2⟩ := idx_go l hl a l.length 0 k (by omega) (by omega)
  unfold slices_Contains_int64_int64.f slices_Index_int64_int64.f
  rw [show ((0 : Nat) : Int) = 0 from rfl] at h1
  rw [h1, Option.bind_some]
  congr 1
  rw [List.drop_zero] at h2
  rw [Bool.eq_iff_iff, decide_eq_true_eq, decide_eq_true_eq]
  exact h2
theorem open_go (ws : List S55) (hm : ws.length ≤ 16) (a : Int) : ∀ (e i k : Nat) (o : List Int), i + e = ws.length → o.length ≤ i → 2000 < k → ∃ o', impl_Flow_openFrom.l0 (k + e) a o ws (ws.length : Int) (i : Int) = some o' ∧ o'.length ≤ 16 ∧ ∀ x, x ∈ o' ↔ x ∈ o ∨ Out (ws.drop i) a x
  | 0, i, k, o, hi, ho, hk => by
    cases k with
    | zero => omega
    | succ k =>
      refine ⟨o, by rw [Nat.add_zero, impl_Flow_openFrom.l0, if_neg (by omega)], by omega, fun x => ⟨.inl, fun h => ?_⟩⟩
      rcases h with h | ⟨w, hw, _⟩
      · exact h
      · rw [List.drop_of_length_le (by omega)] at hw; cases hw
  | e + 1, i, k, o, hi, ho, hk => by
    have hlt : i < ws.length := by omega
    have hd : ws.drop i = ws[i] :: ws.drop (i + 1) := List.drop_eq_getElem_cons hlt
    have hout : ∀ x, Out (ws.drop i) a x ↔ (ws[i].f0 = a ∧ ws[i].f2 = 0 ∧ ws[i].f1 = x) ∨ Out (ws.drop (i + 1)) a x := by
      intro x
      rw [hd]
      constructor
      · rintro ⟨w, hw, h1, h2, h3⟩
        rcases List.mem_cons.1 hw with rfl | hw
        · exact .inl ⟨h1, h2, h3⟩
        · exact .inr ⟨w, hw, h1, h2, h3⟩
      · rintro (h | ⟨w, hw, h⟩)
        · exact ⟨_, List.mem_cons_self .., h⟩
        · exact ⟨w, List.mem_cons_of_mem _ hw, h⟩
    rw [← Nat.add_assoc, impl_Flow_openFrom.l0, if_pos (by omega), if_pos (by omega), if_pos (by omega), rdT_at ws i hlt, w64 (by omega) (by omega), has_eq o (by omega) _ _ (by omega)]
    have skip : ¬ (ws[i].f0 = a ∧ ws[i].f2 = 0 ∧ ws[i].f1 ∉ o) → ∃ o', impl_Flow_openFrom.l0 (k + e) a o ws (ws.length : Int) ((i : Int) + 1) = some o' ∧ o'.length ≤ 16 ∧ ∀ x, x ∈ o' ↔ x ∈ o ∨ Out (ws.drop i) a x := by
      intro hn
      obtain ⟨o', h1, h2, h3⟩ := open_go ws hm a e (i + 1) k o (by omega) (by omega) hk
      rw [Int.natCast_add, Int.natCast_one] at h1
      refine ⟨o', h1, h2, fun x => (h3 x).trans ?_⟩
      rw [hout]
      constructor
      · rintro (h | h)
        · exact .inl h
        · exact .inr (.inr h)
      · rintro (h | ⟨g1, g2, rfl⟩ | h)
        · exact .inl h
        · by_cases hx : ws[i].f1 ∈ o
          · exact .inl hx
          · exact absurd ⟨g1, g2, hx⟩ hn
        · exact .inr h
    by_cases c1 : ws[i].f0 = a
    · rw [if_pos c1]
      by_cases c2 : ws[i].f2 = 0
      · rw [if_pos c2, Option.bind_some]
        by_cases c3 : ws[i].f1 ∈ o
        · rw [if_pos (decide_eq_true c3)]
          exact skip fun h => h.2.2 c3
        · rw [if_neg (by rw [decide_eq_false c3]; decide), if_pos (by omega)]
          obtain ⟨o', h1, h2, h3⟩ := open_go ws hm a e (i + 1) k (o ++ [ws[i].f1]) (by omega) (by simp; omega) hk
          rw [Int.natCast_add, Int.natCast_one] at h1
          refine ⟨o', h1, h2, fun x => (h3 x).trans ?_⟩
          rw [hout, List.mem_append, List.mem_singleton]
          constructor
          · rintro ((h | h) | h)
            · exact .inl h
            · exact .inr (.inl ⟨c1, c2, h.symm⟩)
            · exact .inr (.inr h)
          · rintro (h | ⟨_, _, h⟩ | h)
            · exact .inl (.inl h)
            · exact .inl (.inr h.symm)
            · exact .inr h
      · rw [if_neg c2]; exact skip fun h => c2 h.2.1
    · rw [if_neg c1]; exact skip fun h => c1 h.1
theorem open_eq (ws : List S55) (hm : ws.length ≤ 16) (d : List Int) (a : Int) (k : Nat) (hk : 3000 < k) : ∃ o, impl_Flow_openFrom.f k d ws a = some o ∧ o.length ≤ 16 ∧ ∀ x, x ∈ o ↔ Out ws a x := by
  obtain ⟨o, h1, h2, h3⟩ := open_go ws hm a ws.length 0 (k - ws.length) [] (by omega) (by simp) (by omega)
  rw [show k - ws.length + ws.length = k by omega] at h1
  refine ⟨o, h1, h2, fun x => (h3 x).trans ?_⟩
  simp
end Go.Proofs.Ytojpibpjieanhaa.PathMath
end
section
namespace Go.Proofs.Ytojpibpjieanhaa.PathMath
open Go.RowKit Go.Proofs.YtojpibpjieanhaaW.PrintWords Go.Proofs.YtojpibpjieanhaaW.PrintLast Go.Proofs.YtojpibpjieanhaaW.PrintMore
open Go.Proofs.Ytojpibpjieanhaa.X Go.Proofs.Ytojpibpjieanhaa.FlowMath
set_option linter.unusedVariables false
set_option linter.unusedSimpArgs false
def lst (p : List Int) : Int := rd p ((p.length : Int) - 1)
theorem lst_snoc (p : List Int) (x : Int) : lst (p ++ [x]) = x := by
  unfold lst rd
  rw [List.length_append, List.length_singleton, show ((p.length + 1 : Nat) : Int) - 1 = (p.length : Int) by omega, Int.toNat_natCast, List.getD_eq_getElem?_getD, List.getElem?_append_right (Nat.le_refl _), Nat.sub_self]; rfl
theorem lst_one (x : Int) : lst [x] = x := lst_snoc [] x
def St (ws : List S55) (n : Nat) (l : List Int) (v : Nat) : Prop := v < n ∧ (l = [] ∨ Out ws (lst l) v)
inductive Gx (d : List Int) (ws : List S55) (n : Nat) : List Int → Int → List Int → Prop
  | done {l : List Int} : Gx d ws n l 0 l
  | step {l q : List Int} {left : Int} {v : Nat} : St ws n l v → Gx d ws n (l ++ [(v : Int)]) (left - rd d (v : Int)) q → Gx d ws n l left q
variable {d : List Int} {ws : List S55} {n : Nat}
theorem Gx.pre {l q : List Int} {left : Int} (h : Gx d ws n l left q) : ∃ m, q = l ++ m := by
  induction h with
  | done => exact ⟨[], by simp⟩
  | step _ _ ih => obtain ⟨m, hm⟩ := ih; exact ⟨_, by rw [hm, List.append_assoc]⟩
theorem Gx.len {l q : List Int} {left : Int} (h : Gx d ws n l left q) : l.length ≤ q.length := by
  obtain ⟨m, rfl⟩ := h.pre; simp
theorem Gx.nonneg (hd : ∀ v : Nat, 0 ≤ rd d (v : Int)) {l q : List Int} {left : Int} (h : Gx d ws n l left q) : 0 ≤ left := by
  induction h with
  | done => exact Int.le_refl _
  | @step l q left v _ _ ih => have := hd v; omega
theorem Gx.cases' {l q : List Int} {left : Int} (h : Gx d ws n l left q) : (left = 0 ∧ q = l) ∨ ∃ v, St ws n l v ∧ Gx d ws n (l ++ [(v : Int)]) (left - rd d (v : Int)) q := by
  cases h with
  | done => exact .inl ⟨rfl, rfl⟩
  | step h1 h2 => exact .inr ⟨_, h1, h2⟩
structure Fw (d : List Int) (ws : List S55) (n : Nat) : Prop where
  len : d.length = n
  n8 : n ≤ 8
  m16 : ws.length ≤ 16
  wok : ∀ w, w ∈ ws → WireOk n w
  del : ∀ v : Nat, 0 ≤ rd d (v : Int) ∧ rd d (v : Int) ≤ 100
  ac : ∀ v, ¬ Plus (X.Edge ws) v v
theorem Fw.out (h : Fw d ws n) {a : Nat} {x : Int} (ho : Out ws (a : Int) x) : ∃ b : Nat, x = (b : Int) ∧ b < n ∧ X.Edge ws a b := by
  obtain ⟨w, h1, h2, h3, h4⟩ := ho
  have := h.wok w h1
  unfold WireOk at this
  exact ⟨w.f1.toNat, by omega, by omega, w, h1, h3, h2, by omega⟩
theorem Fw.rk (h : Fw d ws n) {a b : Nat} (he : X.Edge ws a b) : rank (X.Edge ws) n b < rank (X.Edge ws) n a := rank_lt (fun _ _ k => k.lt h.wok) h.ac he
theorem Fw.rk8 (h : Fw d ws n) (v : Nat) : rank (X.Edge ws) n v ≤ 8 := by
  have := cnt_le (fun u => Plus (X.Edge ws) v u) n
  have := h.n8
  unfold rank; omega
theorem extN_go (T : Int) (rec : List Int → Int → List Int → Option (List Int)) (p : List Int) (t : Int) (outs : List Int) (ho : ∀ x, x ∈ outs → 0 ≤ x ∧ x < d.length)
    (hr : ∀ x, x ∈ outs → ∀ (b : List Int) (S : List Int → Prop), BestOf b S → ∃ b', rec (p ++ [x]) (wrap64 (t + rd d x)) b = some b' ∧ BestOf b' fun q => S q ∨ Gx d ws n (p ++ [x]) (T - (t + rd d x)) q) :
    ∀ (e i : Nat) (b : List Int) (S : List Int → Prop), i + e = outs.length → BestOf b S → ∃ b', extN rec d p t outs e i b = some b' ∧ BestOf b' fun q => S q ∨ ∃ x, x ∈ outs.drop i ∧ Gx d ws n (p ++ [x]) (T - (t + rd d x)) q
  | 0, i, b, S, hi, h => ⟨b, rfl, h.congr fun q => ⟨.inl, fun hq => by
      rcases hq with hq | ⟨x, hx, _⟩
      · exact hq
      · rw [List.drop_of_length_le (by omega)] at hx; cases hx⟩⟩
  | e + 1, i, b, S, hi, h => by
    have hlt : i < outs.length := by omega
    have hm : outs[i] ∈ outs := List.getElem_mem hlt
    have e1 : rd outs (i : Int) = outs[i] := rd_nat _ _ hlt
    rw [extN, e1, if_pos (ho _ hm)]
    obtain ⟨b1, h1, h2⟩ := hr _ hm b S h
    rw [h1, Option.bind_some]
    obtain ⟨b2, g1, g2⟩ := extN_go T rec p t outs ho hr e (i + 1) b1 _ (by omega) h2
    refine ⟨b2, g1, g2.congr fun q => ?_⟩
    rw [List.drop_eq_getElem_cons hlt]
    constructor
    · rintro ((hq | hq) | ⟨x, hx, hq⟩)
      · exact .inl hq
      · exact .inr ⟨_, List.mem_cons_self .., hq⟩
      · exact .inr ⟨x, List.mem_cons_of_mem _ hx, hq⟩
    · rintro (hq | ⟨x, hx, hq⟩)
      · exact .inl (.inl hq)
      · rcases List.mem_cons.1 hx with rfl | hx
        · exact .inl (.inr hq)
        · exact .inr ⟨x, hx, hq⟩
theorem ext_best (h : Fw d ws n) (T : Int) (K : Nat) (hK : 3000 < K) : ∀ (r k : Nat) (p : List Int) (t : Int) (v : Nat) (b : List Int) (S : List Int → Prop), p ≠ [] → lst p = (v : Int) → v < n → rank (X.Edge ws) n v ≤ r → r < k → p.length + r ≤ 20 → 0 ≤ t → t + 100 * r ≤ 10000 → BestOf b S →
    ∃ b', extF K d ws T k p t b = some b' ∧ BestOf b' fun q => S q ∨ Gx d ws n p (T - t) q := by
  intro r
  induction r with
  | zero =>
    intro k p t v b S hp hv hvn hrk hk hl ht ht2 hb
    obtain ⟨k, rfl⟩ : ∃ j, k = j + 1 := ⟨k - 1, by omega⟩
    have hpl : 1 ≤ p.length := by rcases p with _ | ⟨x, p⟩; exact absurd rfl hp; simp
    obtain ⟨b1, u1, u2⟩ := upd_best K T t p b S hp (by omega) (by omega) hb
    obtain ⟨o, o1, o2, o3⟩ := open_eq ws h.m16 d (lst p) K hK
    have hno : ∀ x, x ∉ o := fun x hx => by
      have := (o3 x).1 hx
      rw [hv] at this
      obtain ⟨c, _, _, hc⟩ := h.out this
      have := h.rk hc
      omega
    have ho : o = [] := List.eq_nil_iff_forall_not_mem.2 hno
    subst ho
    have o1 : impl_Flow_openFrom.f K d ws (rd p ((p.length : Int) - 1)) = some [] := o1
    rw [extF, if_pos ⟨hpl, by omega, by rw [h.len]; have := h.n8; omega⟩, u1, Option.bind_some, o1, Option.bind_some, if_pos (by simp)]
    refine ⟨b1, rfl, u2.congr fun q => ?_⟩
    constructor
    · rintro (hq | ⟨rfl, e⟩)
      · exact .inl hq
      · right; rw [show T - t = 0 by omega]; exact .done
    · rintro (hq | hq)
      · exact .inl hq
      · rcases hq.cases' with ⟨e, rfl⟩ | ⟨x, ⟨_, hs⟩, _⟩
        · exact .inr ⟨rfl, by omega⟩
        · rcases hs with hs | hs
          · exact absurd hs hp
          · exact absurd ((o3 _).2 hs) (hno _)
  | succ r ih =>
    intro k p t v b S hp hv hvn hrk hk hl ht ht2 hb
    obtain ⟨k, rfl⟩ : ∃ j, k = j + 1 := ⟨k - 1, by omega⟩
    have hpl : 1 ≤ p.length := by rcases p with _ | ⟨x, p⟩; exact absurd rfl hp; simp
    obtain ⟨b1, u1, u2⟩ := upd_best K T t p b S hp (by omega) (by omega) hb
    obtain ⟨o, o1, o2, o3⟩ := open_eq ws h.m16 d (lst p) K hK
    have o4 : ∀ x, x ∈ o → ∃ c : Nat, x = (c : Int) ∧ c < n ∧ X.Edge ws v c := fun x hx => by
      have := (o3 x).1 hx
      rw [hv] at this
      exact h.out this
    have o1 : impl_Flow_openFrom.f K d ws (rd p ((p.length : Int) - 1)) = some o := o1
    rw [extF, if_pos ⟨hpl, by omega, by rw [h.len]; have := h.n8; omega⟩, u1, Option.bind_some, o1, Option.bind_some, if_pos (by omega)]
    obtain ⟨b2, g1, g2⟩ := extN_go (ws := ws) (n := n) T (extF K d ws T k) p t o (fun x hx => by
      obtain ⟨c, rfl, hc, _⟩ := o4 x hx
      rw [h.len]; omega) (fun x hx b S hbs => by
      obtain ⟨c, rfl, hc, he⟩ := o4 x hx
      have hr := h.rk he
      have hd := h.del c
      rw [w64 (by omega) (by omega)]
      exact ih k (p ++ [(c : Int)]) (t + rd d (c : Int)) c b S (by simp) (lst_snoc _ _) hc (by omega) (by omega) (by simp; omega) (by omega) (by omega) hbs) o.length 0 b1 _ (by omega) u2
    refine ⟨b2, g1, g2.congr fun q => ?_⟩
    rw [List.drop_zero]
    constructor
    · rintro ((hq | ⟨rfl, e⟩) | ⟨x, hx, hq⟩)
      · exact .inl hq
      · right; rw [show T - t = 0 by omega]; exact .done
      · obtain ⟨c, rfl, hc, he⟩ := o4 x hx
        right
        refine .step (v := c) ⟨hc, .inr ((o3 _).1 hx)⟩ ?_
        rw [show T - t - rd d (c : Int) = T - (t + rd d (c : Int)) by omega]
        exact hq
    · rintro (hq | hq)
      · exact .inl (.inl hq)
      · rcases hq.cases' with ⟨e, rfl⟩ | ⟨x, ⟨hx, hs⟩, hg⟩
        · exact .inl (.inr ⟨rfl, by omega⟩)
        · rcases hs with hs | hs
          · exact absurd hs hp
          · refine .inr ⟨(x : Int), (o3 _).2 hs, ?_⟩
            rw [show T - (t + rd d (x : Int)) = T - t - rd d (x : Int) by omega]
            exact hg
theorem slN_best (h : Fw d ws n) (T : Int) (K : Nat) (hK : 3000 < K) : ∀ (e i : Nat) (b : List Int) (S : List Int → Prop), i + e = n → BestOf b S → ∃ b', slN K d ws T e i b = some b' ∧ BestOf b' fun q => S q ∨ ∃ v : Nat, i ≤ v ∧ v < n ∧ Gx d ws n [(v : Int)] (T - rd d (v : Int)) q
  | 0, i, b, S, hi, hb => ⟨b, rfl, hb.congr fun q => ⟨.inl, fun hq => by
      rcases hq with hq | ⟨v, h1, h2, _⟩
      · exact hq
      · omega⟩⟩
  | e + 1, i, b, S, hi, hb => by
    have h8 := h.rk8 i
    have hd := h.del i
    obtain ⟨b1, h1, h2⟩ := ext_best h T K hK 8 K [(i : Int)] (rd d (i : Int)) i b S (by simp) (lst_one _) (by omega) h8 (by omega) (by simp) (by omega) (by omega) hb
    obtain ⟨b2, g1, g2⟩ := slN_best h T K hK e (i + 1) b1 _ (by omega) h2
    rw [slN, h1, Option.bind_some]
    refine ⟨b2, g1, g2.congr fun q => ?_⟩
    constructor
    · rintro ((hq | hq) | ⟨v, v1, v2, hq⟩)
      · exact .inl hq
      · exact .inr ⟨i, by omega, by omega, hq⟩
      · exact .inr ⟨v, by omega, v2, hq⟩
    · rintro (hq | ⟨v, v1, v2, hq⟩)
      · exact .inl (.inl hq)
      · by_cases e : v = i
        · subst e; exact .inl (.inr hq)
        · exact .inr ⟨v, by omega, v2, hq⟩
theorem impl_best (h : Fw d ws n) (T : Int) (K : Nat) (hK : 3000 < K) : ∃ b, slN K d ws T n 0 [] = some b ∧ BestOf b fun q => q ≠ [] ∧ Gx d ws n [] T q := by
  obtain ⟨b, h1, h2⟩ := slN_best h T K hK n 0 [] (fun _ => False) (by omega) (.inl ⟨rfl, fun _ hq => hq⟩)
  refine ⟨b, h1, h2.congr fun q => ?_⟩
  constructor
  · rintro (hq | ⟨v, _, v2, hq⟩)
    · exact hq.elim
    · refine ⟨?_, .step (v := v) ⟨v2, .inl rfl⟩ hq⟩
      rintro rfl
      have := hq.len
      simp at this
  · rintro ⟨hq, hg⟩
    rcases hg.cases' with ⟨_, rfl⟩ | ⟨v, ⟨v1, _⟩, hg⟩
    · exact absurd rfl hq
    · exact .inr ⟨v, Nat.zero_le _, v1, hg⟩
theorem fit_iff (l : List Int) (v : Nat) : ∀ j, j ≤ ws.length → (fitB ws l (v : Int) j = true ↔ l = [] ∨ Out (ws.take j) (lst l) v)
  | 0, _ => by
    rw [fitB, beq_iff_eq]
    constructor
    · intro h; exact .inl (List.eq_nil_of_length_eq_zero (by omega))
    · rintro (rfl | ⟨w, hw, _⟩)
      · rfl
      · cases hw
  | j + 1, hj => by
    have ih := fit_iff l v j (by omega)
    rw [fitB, Bool.or_eq_true, ih, Bool.and_eq_true, Bool.and_eq_true, beq_iff_eq, beq_iff_eq, beq_iff_eq, rdT_at ws j (by omega), List.take_add_one, List.getElem?_eq_getElem (by omega), Option.toList_some]
    constructor
    · rintro ((h | ⟨w, hw, h⟩) | ⟨h1, h2, h3⟩)
      · exact .inl h
      · exact .inr ⟨w, List.mem_append.2 (.inl hw), h⟩
      · exact .inr ⟨_, List.mem_append.2 (.inr (List.mem_singleton.2 rfl)), h3, h1, h2⟩
    · rintro (h | ⟨w, hw, h1, h2, h3⟩)
      · exact .inl (.inl h)
      · rcases List.mem_append.1 hw with hw | hw
        · exact .inl (.inr ⟨w, hw, h1, h2, h3⟩)
        · rw [List.mem_singleton] at hw
          subst hw
          exact .inr ⟨h2, h3, h1⟩
def Fnd (d : List Int) (ws : List S55) (n s : Nat) (G : List Int → Prop) (q : List Int) (ok : Bool) : Prop :=
  (ok = true ∧ G q ∧ q.length = s ∧ ∀ q', G q' → q'.length = s → q' = q ∨ lexlt q q') ∨ (ok = false ∧ ∀ q', G q' → q'.length ≠ s)
theorem loop_fnd (h : Fw d ws n) (s : Nat) (l : List Int) (left : Int) (hleft : left ≤ 10000) (rec : List Int → Int → Option (List Int × Bool))
    (hr : ∀ v : Nat, v < n → rd d (v : Int) ≤ left → ∃ q ok, rec (l ++ [(v : Int)]) (wrap64 (left - rd d (v : Int))) = some (q, ok) ∧ Fnd d ws n s (Gx d ws n (l ++ [(v : Int)]) (left - rd d (v : Int))) q ok) :
    ∀ (e v : Nat), v + e = n → ∃ q ok, slowLoop rec d ws l left e v = some (q, ok) ∧ Fnd d ws n s (fun q => ∃ u : Nat, v ≤ u ∧ St ws n l u ∧ Gx d ws n (l ++ [(u : Int)]) (left - rd d (u : Int)) q) q ok
  | 0, v, hv => ⟨[], false, rfl, .inr ⟨rfl, fun q' ⟨u, h1, h2, _⟩ => absurd h2.1 (by omega)⟩⟩
  | e + 1, v, hv => by
    obtain ⟨q, ok, h1, h2⟩ := loop_fnd h s l left hleft rec hr e (v + 1) (by omega)
    have hfit : fitB ws l (v : Int) ws.length = true ↔ l = [] ∨ Out ws (lst l) v := by
      have := fit_iff (ws := ws) l v ws.length (Nat.le_refl _)
      rwa [List.take_length] at this
    have skip : (∀ q', St ws n l v → Gx d ws n (l ++ [(v : Int)]) (left - rd d (v : Int)) q' → q'.length ≠ s) → Fnd d ws n s (fun q => ∃ u : Nat, v ≤ u ∧ St ws n l u ∧ Gx d ws n (l ++ [(u : Int)]) (left - rd d (u : Int)) q) q ok := by
      intro hno
      rcases h2 with ⟨k1, ⟨u, u1, u2, u3⟩, k3, k4⟩ | ⟨k1, k2⟩
      · refine .inl ⟨k1, ⟨u, by omega, u2, u3⟩, k3, fun q' ⟨u', a1, a2, a3⟩ hl => ?_⟩
        by_cases e : u' = v
        · subst e; exact absurd hl (hno q' a2 a3)
        · exact k4 q' ⟨u', by omega, a2, a3⟩ hl
      · refine .inr ⟨k1, fun q' ⟨u', a1, a2, a3⟩ => ?_⟩
        by_cases e : u' = v
        · subst e; exact hno q' a2 a3
        · exact k2 q' ⟨u', by omega, a2, a3⟩
    rw [slowLoop]
    by_cases hf : fitB ws l (v : Int) ws.length = true
    · rw [if_pos hf]
      by_cases hx : rd d (v : Int) > left
      · rw [if_pos hx]
        refine ⟨q, ok, h1, skip fun q' _ hg => ?_⟩
        have := hg.nonneg (fun v => (h.del v).1)
        omega
      · rw [if_neg hx]
        obtain ⟨q1, ok1, g1, g2⟩ := hr v (by omega) (by omega)
        rw [g1, Option.bind_some]
        cases ok1 with
        | false =>
          rw [if_neg (by simp)]
          refine ⟨q, ok, h1, skip fun q' _ hg => ?_⟩
          rcases g2 with ⟨e, _⟩ | ⟨_, e⟩
          · exact Bool.noConfusion e
          · exact e q' hg
        | true =>
          rw [if_pos rfl]
          refine ⟨q1, true, rfl, .inl ?_⟩
          rcases g2 with ⟨_, a1, a2, a3⟩ | ⟨e, _⟩
          · refine ⟨rfl, ⟨v, Nat.le_refl _, ⟨by omega, hfit.1 hf⟩, a1⟩, a2, fun q' ⟨u', b1, b2, b3⟩ hl => ?_⟩
            by_cases e : u' = v
            · subst e; exact a3 q' b3 hl
            · right
              obtain ⟨m1, hm1⟩ := a1.pre
              obtain ⟨m2, hm2⟩ := b3.pre
              rw [hm1, hm2, List.append_assoc, List.append_assoc]
              exact lex_pre _ _ _ (.inl (by omega))
          · exact Bool.noConfusion e
    · rw [if_neg hf]
      exact ⟨q, ok, h1, skip fun q' hs _ => absurd (hfit.2 hs.2) hf⟩
theorem slow_fnd (h : Fw d ws n) (s : Nat) (hs : s ≤ 1000) : ∀ (k : Nat) (l : List Int) (left : Int), l.length ≤ s → s < l.length + k → left ≤ 10000 → ∃ q ok, slowF d ws (s : Int) k l left = some (q, ok) ∧ Fnd d ws n s (Gx d ws n l left) q ok := by
  intro k
  induction k with
  | zero => intro l left h1 h2; omega
  | succ k ih =>
    intro l left h1 h2 h3
    rw [slowF, if_pos (by omega)]
    by_cases he : l.length = s
    · rw [if_pos (by omega)]
      refine ⟨l, _, rfl, ?_⟩
      by_cases h0 : left = 0
      · subst h0
        refine .inl ⟨rfl, .done, he, fun q' hg hl => .inl ?_⟩
        obtain ⟨m, rfl⟩ := hg.pre
        have : m = [] := List.eq_nil_of_length_eq_zero (by rw [List.length_append] at hl; omega)
        rw [this, List.append_nil]
      · refine .inr ⟨beq_eq_false_iff_ne.2 h0, fun q' hg hl => ?_⟩
        rcases hg.cases' with ⟨e, _⟩ | ⟨v, _, hg⟩
        · exact h0 e
        · have := hg.len
          rw [List.length_append, List.length_singleton] at this
          omega
    · rw [if_neg (by omega)]
      obtain ⟨q, ok, g1, g2⟩ := loop_fnd h s l left h3 (slowF d ws (s : Int) k) (fun v hv hle => by
        have hd := h.del v
        rw [w64 (by omega) (by omega)]
        exact ih (l ++ [(v : Int)]) (left - rd d (v : Int)) (by rw [List.length_append, List.length_singleton]; omega) (by rw [List.length_append, List.length_singleton]; omega) (by omega)) n 0 (by omega)
      rw [h.len]
      refine ⟨q, ok, g1, ?_⟩
      have hiff : ∀ q', q'.length = s → (Gx d ws n l left q' ↔ ∃ u : Nat, 0 ≤ u ∧ St ws n l u ∧ Gx d ws n (l ++ [(u : Int)]) (left - rd d (u : Int)) q') := by
        intro q' hl
        constructor
        · intro hg
          rcases hg.cases' with ⟨_, rfl⟩ | ⟨v, h1, h2⟩
          · exact absurd hl he
          · exact ⟨v, Nat.zero_le _, h1, h2⟩
        · rintro ⟨u, _, h1, h2⟩
          exact .step h1 h2
      rcases g2 with ⟨k1, k2, k3, k4⟩ | ⟨k1, k2⟩
      · exact .inl ⟨k1, (hiff q k3).2 k2, k3, fun q' hg hl => k4 q' ((hiff q' hl).1 hg) hl⟩
      · exact .inr ⟨k1, fun q' hg hl => k2 q' ((hiff q' hl).1 hg) hl⟩
theorem top_fnd (h : Fw d ws n) (T : Int) (hT : T ≤ 10000) (K : Nat) (hK : 3000 < K) (q0 : List Int) (hq0 : Gx d ws n [] T q0) (hl0 : q0.length ≤ 100) :
    ∀ (e s : Nat), 1 ≤ s → s ≤ q0.length → q0.length < s + e → (∀ q', Gx d ws n [] T q' → q' ≠ [] → s ≤ q'.length) → ∃ q, slowTop K d ws T e s = some q ∧ BestOf q fun q => q ≠ [] ∧ Gx d ws n [] T q := by
  intro e
  induction e with
  | zero => intro s h1 h2 h3; omega
  | succ e ih =>
    intro s h1 h2 h3 h4
    obtain ⟨q, ok, g1, g2⟩ := slow_fnd h s (by omega) K [] T (by simp) (by simp; omega) hT
    rw [slowTop, if_pos (by omega), g1, Option.bind_some]
    rcases g2 with ⟨rfl, k2, k3, k4⟩ | ⟨rfl, k2⟩
    · rw [if_pos rfl]
      have hne : q ≠ [] := by rintro rfl; simp at k3; omega
      refine ⟨q, rfl, .inr ⟨hne, ⟨hne, k2⟩, fun q' ⟨n', g'⟩ => ?_⟩⟩
      have := h4 q' g' n'
      by_cases hl : q'.length = s
      · rcases k4 q' g' hl with e | e
        · exact .inl e
        · exact .inr (.inr ⟨by omega, e⟩)
      · exact .inr (.inl (by omega))
    · rw [if_neg (by simp)]
      have hs0 : q0.length ≠ s := k2 q0 hq0
      refine ih (s + 1) (by omega) (by omega) (by omega) fun q' g' n' => ?_
      have := h4 q' g' n'
      have := k2 q' g'
      omega
theorem slow_path {D : Nat → Int} (h : Fw d ws n) (hD : IsSlow (fn d) (eds ws) D) : ∀ (r v : Nat) (l : List Int), v < n → rank (X.Edge ws) n v ≤ r → lst l = (v : Int) → ∃ q, Gx d ws n l (D v - rd d (v : Int)) q ∧ q.length ≤ l.length + r := by
  intro r
  induction r with
  | zero =>
    intro v l hv hr hl
    have e : rd d (v : Int) = fn d v := rfl
    rcases hD.att v with ha | ⟨b, hb, ha⟩
    · exact ⟨l, by rw [ha, e, Int.sub_self]; exact .done, by omega⟩
    · have := h.rk ((eds_edge h.wok _).1 hb)
      simp only at this
      omega
  | succ r ih =>
    intro v l hv hr hl
    have e : rd d (v : Int) = fn d v := rfl
    rcases hD.att v with ha | ⟨b, hb, ha⟩
    · exact ⟨l, by rw [ha, e, Int.sub_self]; exact .done, by omega⟩
    · have he : X.Edge ws v b := (eds_edge h.wok _).1 hb
      have h1 := h.rk he
      have hbn := (he.lt h.wok).2
      obtain ⟨q, g1, g2⟩ := ih b (l ++ [(b : Int)]) hbn (by omega) (lst_snoc _ _)
      refine ⟨q, .step (v := b) ⟨hbn, .inr ?_⟩ ?_, by rw [List.length_append, List.length_singleton] at g2; omega⟩
      · rw [hl]
        obtain ⟨w, w1, w2, w3, w4⟩ := he
        exact ⟨w, w1, w3, w2, w4⟩
      · rw [show D v - rd d (v : Int) - rd d (b : Int) = D b - rd d (b : Int) by omega]
        exact g1
end Go.Proofs.Ytojpibpjieanhaa.PathMath
end
section
-- Written by a program of this session out of the kit's print of the loaded functions: a plain function of a Go function, and its contract.
namespace Go.Proofs.Ytojpibpjieanhaa.X
open Go.RowKit Go.Proofs.YtojpibpjieanhaaW.PrintWords Go.Proofs.YtojpibpjieanhaaW.PrintLast Go.Proofs.YtojpibpjieanhaaW.PrintMore
attribute [local go_sem] max2_int min2_int max_two min_two max_three min_three max_four min_four   -- for this text's walks alone
set_option linter.unusedVariables false
set_option linter.unusedSimpArgs false
end Go.Proofs.Ytojpibpjieanhaa.X
end
section
-- Written by a program of this session out of the kit's print of the loaded functions: a plain function of a Go function, and its contract.
namespace Go.Proofs.Ytojpibpjieanhaa.X
open Go.RowKit Go.Proofs.YtojpibpjieanhaaW.PrintWords Go.Proofs.YtojpibpjieanhaaW.PrintLast Go.Proofs.YtojpibpjieanhaaW.PrintMore
attribute [local go_sem] max2_int min2_int max_two min_two max_three min_three max_four min_four   -- for this text's walks alone
set_option linter.unusedVariables false
set_option linter.unusedSimpArgs false
end Go.Proofs.Ytojpibpjieanhaa.X
end
section
-- Written by a program of this session out of the kit's print of the loaded functions: a plain function of a Go function, and its contract.
namespace Go.Proofs.Ytojpibpjieanhaa.X
open Go.RowKit Go.Proofs.YtojpibpjieanhaaW.PrintWords Go.Proofs.YtojpibpjieanhaaW.PrintLast Go.Proofs.YtojpibpjieanhaaW.PrintMore
attribute [local go_sem] max2_int min2_int max_two min_two max_three min_three max_four min_four   -- for this text's walks alone
set_option linter.unusedVariables false
set_option linter.unusedSimpArgs false
end Go.Proofs.Ytojpibpjieanhaa.X
end
section
-- Written by a program of this session out of the kit's print of the loaded functions: a plain function of a Go function, and its contract.
namespace Go.Proofs.Ytojpibpjieanhaa.X
open Go.RowKit Go.Proofs.YtojpibpjieanhaaW.PrintWords Go.Proofs.YtojpibpjieanhaaW.PrintLast Go.Proofs.YtojpibpjieanhaaW.PrintMore
attribute [local go_sem] max2_int min2_int max_two min_two max_three min_three max_four min_four   -- for this text's walks alone
set_option linter.unusedVariables false
set_option linter.unusedSimpArgs false
end Go.Proofs.Ytojpibpjieanhaa.X
end
section
namespace Go.Proofs.Ytojpibpjieanhaa.X
open Go.RowKit Go.Proofs.YtojpibpjieanhaaW.PrintWords Go.Proofs.YtojpibpjieanhaaW.PrintLast Go.Proofs.YtojpibpjieanhaaW.PrintMore
set_option linter.unusedVariables false
set_option linter.unusedSimpArgs false
end Go.Proofs.Ytojpibpjieanhaa.X
end
section
-- Written by a program of this session out of the kit's print of the loaded functions: a plain function of a Go function, and its contract.
namespace Go.Proofs.Ytojpibpjieanhaa.X
open Go.RowKit Go.Proofs.YtojpibpjieanhaaW.PrintWords Go.Proofs.YtojpibpjieanhaaW.PrintLast Go.Proofs.YtojpibpjieanhaaW.PrintMore
attribute [local go_sem] max2_int min2_int max_two min_two max_three min_three max_four min_four   -- for this text's walks alone
set_option linter.unusedVariables false
set_option linter.unusedSimpArgs false
end Go.Proofs.Ytojpibpjieanhaa.X
end
section
namespace Go.Proofs.Ytojpibpjieanhaa.X
open Go.RowKit Go.Proofs.YtojpibpjieanhaaW.PrintWords Go.Proofs.YtojpibpjieanhaaW.PrintLast Go.Proofs.YtojpibpjieanhaaW.PrintMore Go.Proofs.Ytojpibpjieanhaa.FlowMath Go.Proofs.Ytojpibpjieanhaa.PathMath
set_option linter.unusedVariables false
set_option linter.unusedSimpArgs false
theorem mxl_at : ∀ (l : List Int) (a : Int), (mxl a l = a ∨ mxl a l ∈ l) ∧ a ≤ mxl a l ∧ ∀ x, x ∈ l → x ≤ mxl a l
  | [], a => ⟨.inl rfl, Int.le_refl _, fun x hx => by cases hx⟩
  | y :: l, a => by
    obtain ⟨h1, h2, h3⟩ := mxl_at l (max a y)
    have e : mxl a (y :: l) = mxl (max a y) l := rfl
    rw [e]
    refine ⟨?_, by omega, fun x hx => ?_⟩
    · rcases h1 with h1 | h1
      · rcases Int.le_total a y with k | k
        · right; rw [h1, Int.max_eq_right k]; exact List.mem_cons_self ..
        · left; rw [h1, Int.max_eq_left k]
      · right; exact List.mem_cons_of_mem _ h1
    · rcases List.mem_cons.1 hx with rfl | hx
      · omega
      · exact h3 x hx
theorem slow_same (K : Nat) (d : List Int) (ws : List S55) (h0 : d.length ≤ 2000000) (h1 : ws.length ≤ 2000000) (hK : 9000000 < K) : ∃ r : List Int × Bool, r.1.length ≤ 16 ∧ spec_SlowestPath.f K d ws = some r ∧ impl_SlowestPath.f K d ws = some r := by
  unfold spec_SlowestPath.f impl_SlowestPath.f
  rw [spec_is K d ws (by omega) (by omega) (by omega), impl_valid K d ws (by omega), Option.bind_some, Option.bind_some]
  cases hv : validB d ws with
  | false => exact ⟨_, by simp, rfl, rfl⟩
  | true =>
    obtain ⟨D, hD⟩ := slow_of d ws hv
    have n1 := hD.n1
    have n8 := hD.n8
    have m16 := hD.m16
    have hc : d.length ≤ 1000000 ∧ ws.length ≤ 1000000 := ⟨by omega, by omega⟩
    rw [if_pos rfl, if_pos rfl, if_pos hc, if_pos hc]
    have hw : Fw d ws d.length := ⟨rfl, hD.n8, hD.m16, hD.wok, hD.del, fun v hp => by
      unfold validB at hv
      rw [Bool.and_eq_true] at hv
      have := hv.2
      rw [@decide_eq_true _ (Classical.propDecidable _) ⟨v, hp⟩] at this
      simp at this⟩
    obtain ⟨z, z1, z2, z3, z4⟩ := period_both hD K (by omega)
    obtain ⟨T, hT⟩ : ∃ T, T = mxl 0 z := ⟨_, rfl⟩
    rw [z3, z4, ← hT, Option.bind_some, Option.bind_some]
    obtain ⟨m1, m2, m3⟩ := mxl_at z 0
    rw [← hT] at m1 m2 m3
    have at_ : ∀ v : Nat, (hv : v < z.length) → z[v] = D v := fun v hv => by
      rw [← z2]; unfold fn; rw [List.getD_eq_getElem?_getD, List.getElem?_eq_getElem hv]; rfl
    obtain ⟨v, hvn, hvT⟩ : ∃ v, v < d.length ∧ D v = T := by
      rcases m1 with m1 | m1
      · refine ⟨0, by omega, ?_⟩
        have a1 := m3 _ (List.getElem_mem (l := z) (n := 0) (by omega))
        rw [at_ 0 (by omega)] at a1
        have a2 := hD.slow.own 0
        have a3 := (hD.del 0).1
        omega
      · obtain ⟨i, hi, he⟩ := List.getElem_of_mem m1
        exact ⟨i, by omega, by rw [← at_ i hi, he]⟩
    have htop := hD.top v
    obtain ⟨q0, g1, g2⟩ := slow_path hw hD.slow 8 v [(v : Int)] hvn (hw.rk8 v) (lst_one _)
    have hq0 : Gx d ws d.length [] T q0 := .step (v := v) ⟨hvn, .inl rfl⟩ (by rw [← hvT]; exact g1)
    have hq1 := g1.len
    rw [List.length_singleton] at g2 hq1
    obtain ⟨q, s1, s2⟩ := top_fnd hw T (by omega) K (by omega) q0 hq0 (by omega) K 1 (by omega) (by omega) (by omega) fun q' _ hq' => by
      rcases q' with _ | ⟨x, q'⟩
      · exact absurd rfl hq'
      · simp
    obtain ⟨b, b1, b2⟩ := impl_best hw T K (by omega)
    have e : b = q := b2.uniq s2
    subst e
    have hne : q0 ≠ [] := by rintro rfl; simp at hq1
    have hlen : b.length ≤ 16 := by
      rcases s2 with ⟨_, k⟩ | ⟨_, _, k⟩
      · exact absurd ⟨hne, hq0⟩ (k q0)
      · rcases k q0 ⟨hne, hq0⟩ with rfl | (k | ⟨k, _⟩) <;> omega
    rw [s1, b1]
    exact ⟨(b, true), hlen, rfl, rfl⟩
end Go.Proofs.Ytojpibpjieanhaa.X
end
section
-- Written by a program of this session out of the kit's print of the loaded functions: a plain function of a Go function, and its contract.
namespace Go.Proofs.Ytojpibpjieanhaa.X
open Go.RowKit Go.Proofs.YtojpibpjieanhaaW.PrintWords Go.Proofs.YtojpibpjieanhaaW.PrintLast Go.Proofs.YtojpibpjieanhaaW.PrintMore
attribute [local go_sem] max2_int min2_int max_two min_two max_three min_three max_four min_four   -- for this text's walks alone
set_option linter.unusedVariables false
set_option linter.unusedSimpArgs false
def impl_RegistersOf.l0 : Nat → Int → List (S55) → Int → Int → Option (Int × Bool)
 | 0, _, _, _, _ => none
 | k + 1, x4, x11, x12, x13 => if x13 < x12 then (if 0 ≤ x13 then (if x13 < (x11.length : Int) then (impl_RegistersOf.l0 k (wrap64 (x4 + ((rd_T55 x11 x13).f2))) x11 x12 (wrap64 (x13 + 1))) else (none)) else (none)) else (some (x4, true))
def impl_RegistersOf.f (k : Nat) (l0_0 : List Int) (l0_1 : List (S55)) : Option (Int × Bool) := (impl_ValidFlow.f k l0_0 l0_1).bind fun t284 => (if t284 = true then (impl_RegistersOf.l0 k 0 l0_1 (l0_1.length : Int) 0) else (some (0, false)))
set_option maxHeartbeats 8000000 in
set_option maxRecDepth 100000 in
theorem impl_RegistersOf.calls (k : Nat) (A0_0 : Option Addr) (c0_0 : Nat) (l0_0 : List Int) (A0_1 : Option Addr) (c0_1 : Nat) (l0_1 : List (S55)) (r1 : Int) (r2 : Bool) (w : World) (hr0_0 : Kd.C (Kd.int .i64) w A0_0 l0_0.length l0_0) (hc0_0 : l0_0.length ≤ c0_0) (hr0_1 : Kd.C k55 w A0_1 l0_1.length l0_1) (hc0_1 : l0_1.length ≤ c0_1) (h : impl_RegistersOf.f k l0_0 l0_1 = some (r1, r2)) :
  Calls Try.prog 26 #[.agg #[.slice A0_0 l0_0.length c0_0, .slice A0_1 l0_1.length c0_1]] w fun e w' => e = .returned (.tuple #[.int .i64 r1, .bool r2]) ∧ Below w.heap.size w w' := by
 have hu36 := Try.underlying36
 have hu55 := Try.underlying55
 have HR0_0 := Aside0.mk hr0_0
 have HC0_0 := Aside0.mk hc0_0
 clear hr0_0 hc0_0
 have HR0_1 := Aside0.mk hr0_1
 have HC0_1 := Aside0.mk hc0_1
 clear hr0_1 hc0_1
 have HB := Aside0.mk (Below.refl w.heap.size w)
 have H : ((impl_ValidFlow.f k l0_0 l0_1).bind fun t284 => (if t284 = true then (impl_RegistersOf.l0 k 0 l0_1 (l0_1.length : Int) 0) else (some (0, false)))) = some (r1, r2) := h
 clear h
 replace H := Option.bind_eq_some_iff.mp H
 obtain ⟨t284, A20, H⟩ := H
 replace H : (if t284 = true then (impl_RegistersOf.l0 k 0 l0_1 (l0_1.length : Int) 0) else (some (0, false))) = some (r1, r2) := H
 have A2 := Aside0.mk A20
 clear A20
 by_cases c3 : t284 = true
 ·subst c3
  have H1 : (impl_RegistersOf.l0 k 0 l0_1 (l0_1.length : Int) 0) = some (r1, r2) := by rw [if_pos rfl] at H; exact H
  clear H
  have H := H1
  clear H1
  have H' := Aside0.mk H
  clear H
  go_enter Try.func26, Try.ntmps26
  go_wp2_with (first | ((with_reducible refine gate_dst (N := 1) rfl ?_); refine box_event ?hg (N := 1) ?hd (cs := #[.slice A0_0 l0_0.length c0_0, .slice A0_1 l0_1.length c0_1]) (t := 36) ?hr ?_; (case hd => rfl); (case hg => rfl); (case hr => first | (go_simp; done) | (go_simp; rfl)); intro gb283 hg w4 hbox hb; have n0_ := Aside0.mk (below_step (by repeat (first | (with_reducible first | exact HB.out | apply below_alloc | apply pw_below_drewN | apply below_drew1) | exact HB.out)) hb); have n1_ := Aside0.mk (hbox); have n2_ := Aside0.mk ((by rw [hg]; exact (below_size (by repeat (first | (with_reducible first | exact HB.out | apply below_alloc | apply pw_below_drewN | apply below_drew1) | exact HB.out))) : w.heap.size ≤ gb283)); have n3_ := Aside0.mk ((by rw [hg]; exact (below_size (by repeat (first | (with_reducible first | exact HB.out | apply below_alloc | apply pw_below_drewN | apply below_drew1) | exact HB.out))) : w.heap.size ≤ gb283)); clear HB; have HB := n0_; have BK283 := n1_; have GW283 := n2_; have GE283 := n3_; clear n0_ n1_ n2_ n3_; clear hb hbox hg; have hcz5_0 : w4.cell? ⟨gb283, 0, none⟩ = some (.slice A0_0 l0_0.length c0_0) := (blk_cell BK283.out 0).trans rfl; have hcz5_1 : w4.cell? ⟨gb283, 1, none⟩ = some (.slice A0_1 l0_1.length c0_1) := (blk_cell BK283.out 1).trans rfl; have hfz5_0 := blk_frozen BK283.out 0; have hfz5_1 := blk_frozen BK283.out 1) | ((with_reducible refine gate_callee (f := 23) rfl ?_); refine goesL_ (some 8) rfl rfl Try.func23 (by kernel_rfl) rfl #[.agg #[.slice A0_0 l0_0.length c0_0, .slice A0_1 l0_1.length c0_1]] rfl (by (try simp only [List.map_toArray, List.map_cons, List.map_nil]); first | done | rfl | (simp only [List.length_drop, List.length_take]; rfl)) ?_; (with_reducible refine (impl_ValidFlow.calls k _ _ l0_0 _ _ l0_1 true _ ?side1 ?side2 ?side3 ?side4 A2.out).mono ?_); (case side1 => repeat (first | exact (Kd.C_below HR0_0.out HB.out) | (with_reducible refine Kd.C_alloc ?_ _) | (with_reducible refine Kd.C_drewN ?_ _) | (with_reducible refine Kd.C_drew ?_))); (case side2 => first | exact trivial | (exact HC0_0.out)); (case side3 => repeat (first | exact (Kd.C_below HR0_1.out HB.out) | (with_reducible refine Kd.C_alloc ?_ _) | (with_reducible refine Kd.C_drewN ?_ _) | (with_reducible refine Kd.C_drew ?_))); (case side4 => first | exact trivial | (exact HC0_1.out)); rintro e w6 ⟨rfl, hb⟩; refine ⟨_, rfl, ?_⟩; have n0_ := Aside0.mk (blk_below (g := gb283) (o := .cells #[.slice A0_0 l0_0.length c0_0, .slice A0_1 l0_1.length c0_1] 36 (0, 0)) (by (with_reducible repeat (first | refine blk_drewN ?_ _ | refine blk_drew ?_ | refine blk_alloc ?_ _)); exact BK283.out) hb); have n1_ := Aside0.mk (below_step (by repeat (first | (with_reducible first | exact HB.out | apply below_alloc | apply pw_below_drewN | apply below_drew1 | refine below_set ?_ GE283.out) | exact HB.out)) hb); clear BK283; clear HB; have BK283 := n0_; have HB := n1_; clear n0_ n1_; (try clear hb); (try clear hb2); (try clear hk); (try clear hi); have hcz7_0 : w6.cell? ⟨gb283, 0, none⟩ = some (.slice A0_0 l0_0.length c0_0) := (blk_cell BK283.out 0).trans rfl; have hcz7_1 : w6.cell? ⟨gb283, 1, none⟩ = some (.slice A0_1 l0_1.length c0_1) := (blk_cell BK283.out 1).trans rfl; have hfz7_0 := blk_frozen BK283.out 0; have hfz7_1 := blk_frozen BK283.out 1))
  go_loopg [4, 13] k (fun kq v4 v13 w' => ∃ (x4_1 : Int) (x13_1 : Int), v4 = .int .i64 x4_1 ∧ v13 = .int .i64 x13_1 ∧ Aside0 (impl_RegistersOf.l0 kq x4_1 l0_1 (l0_1.length : Int) x13_1 = some (r1, r2)) ∧ Aside0 (kq ≤ k) ∧ Aside0 (w'.heap[gb283]? = some (.cells #[(.slice A0_0 l0_0.length c0_0), (.slice A0_1 l0_1.length c0_1)] 36 (0, 0))) ∧ Aside0 (Below w.heap.size w w'))
  case atStart => exact ⟨(0), (0), (by first | rfl | (simp; done) | (simp [*]; done)), (by first | rfl | (simp; done) | (simp [*]; done)), H', ⟨Nat.le_refl _⟩, ⟨by (with_reducible repeat (first | refine blk_drewN ?_ _ | refine blk_drew ?_ | refine blk_alloc ?_ _)); exact BK283.out⟩, ⟨by repeat (first | (with_reducible first | exact HB.out | apply below_alloc | apply pw_below_drewN | apply below_drew1 | refine below_set ?_ GE283.out) | exact HB.out)⟩⟩
  case round =>
   clear H'
   try clear c2
   try clear p2
   try clear c3
   try clear hcz5_0
   try clear hcz5_1
   try clear hcz7_0
   try clear hcz7_1
   try clear hfz5_0
   try clear hfz5_1
   try clear hfz7_0
   try clear hfz7_1
   obtain ⟨x4_1, x13_1, rfl, rfl, HA, HK1, BK283, HB⟩ := hrel
   cases gk with
   | zero => exact absurd HA.out (by simp [impl_RegistersOf.l0])
   | succ k1 =>
    have H := HA.out
    clear HA
    simp only [impl_RegistersOf.l0] at H
    by_cases c8 : x13_1 < (l0_1.length : Int)
    ·rw [if_pos c8] at H
     have c8b0 : decide (x13_1 < (l0_1.length : Int)) = true := decide_eq_true c8
     clear c8
     by_cases c9 : 0 ≤ x13_1
     ·rw [if_pos c9] at H
      have c9b0 : decide (0 ≤ x13_1) = true := decide_eq_true c9
      clear c9
      by_cases c10 : x13_1 < (l0_1.length : Int)
      ·rw [if_pos c10] at H
       have c10b0 : decide (x13_1 < (l0_1.length : Int)) = true := decide_eq_true c10
       clear c10
       have H' := Aside0.mk H
       clear H
       have p285 : 0 ≤ (x13_1 : Int) := of_decide_eq_true (by first | (with_reducible assumption) | assumption)
       have q285 : x13_1 < (l0_1.length : Int) := of_decide_eq_true (by first | (with_reducible assumption) | assumption)
       obtain ⟨ad285, e285, hx285_0, hx285_1, hx285_2⟩ := at_T55 HR0_1.out x13_1 p285 q285
       cases e285
       replace hx285_0 := (HB.out.cell (World.block_lt_of_cell? w _ hx285_0)).trans hx285_0
       replace hx285_1 := (HB.out.cell (World.block_lt_of_cell? w _ hx285_1)).trans hx285_1
       replace hx285_2 := (HB.out.cell (World.block_lt_of_cell? w _ hx285_2)).trans hx285_2
       replace p285 := eq_true p285
       replace q285 := eq_true q285
       go_wp2_with (first | ((with_reducible refine gate_dst (N := 6) rfl ?_); refine box_event ?hg (N := 6) ?hd (cs := #[.int .i64 0, .int .i64 0, .int .i64 0]) (t := 55) ?hr ?_; (case hd => rfl); (case hg => rfl); (case hr => first | (go_simp; done) | (go_simp; rfl)); intro gb286 hg w11 hbox hb; have n0_ := Aside0.mk (blk_below (g := gb283) (o := .cells #[.slice A0_0 l0_0.length c0_0, .slice (some ad285) l0_1.length c0_1] 36 (0, 0)) (by (with_reducible repeat (first | refine blk_drewN ?_ _ | refine blk_drew ?_ | refine blk_alloc ?_ _)); exact BK283.out) hb); have n1_ := Aside0.mk (below_step (by repeat (first | (with_reducible first | exact HB.out | apply below_alloc | apply pw_below_drewN | apply below_drew1 | refine below_set ?_ GE283.out) | exact HB.out)) hb); have n2_ := Aside0.mk (hbox); have n3_ := Aside0.mk ((by rw [hg]; exact (below_size (by repeat (first | (with_reducible first | exact HB.out | apply below_alloc | apply pw_below_drewN | apply below_drew1 | refine below_set ?_ GE283.out) | exact HB.out))) : w.heap.size ≤ gb286)); have n4_ := Aside0.mk ((by rw [hg]; exact (below_size (by repeat (first | (with_reducible first | exact HB.out | apply below_alloc | apply pw_below_drewN | apply below_drew1 | refine below_set ?_ GE283.out) | exact HB.out))) : w.heap.size ≤ gb286)); have n5_ := Aside0.mk ((by rw [hg]; exact Nat.ne_of_lt (blk_lt (g := gb283) (o := .cells #[.slice A0_0 l0_0.length c0_0, .slice (some ad285) l0_1.length c0_1] 36 (0, 0)) (by (with_reducible repeat (first | refine blk_drewN ?_ _ | refine blk_drew ?_ | refine blk_alloc ?_ _)); exact BK283.out)) : gb283 ≠ gb286)); have n6_ := Aside0.mk ((by rw [hg]; exact Nat.ne_of_gt (blk_lt (g := gb283) (o := .cells #[.slice A0_0 l0_0.length c0_0, .slice (some ad285) l0_1.length c0_1] 36 (0, 0)) (by (with_reducible repeat (first | refine blk_drewN ?_ _ | refine blk_drew ?_ | refine blk_alloc ?_ _)); exact BK283.out)) : gb286 ≠ gb283)); clear BK283; clear HB; have BK283 := n0_; have HB := n1_; have BK286 := n2_; have GW286 := n3_; have GE286 := n4_; have NB283_286 := n5_; have NB286_283 := n6_; clear n0_ n1_ n2_ n3_ n4_ n5_ n6_; clear hb hbox hg; have hnb12 := NB286_283.out; have hnc12 := NB283_286.out; have hcz13_0 : w11.cell? ⟨gb286, 0, none⟩ = some (.int .i64 0) := (blk_cell BK286.out 0).trans rfl; have hcz13_1 : w11.cell? ⟨gb286, 1, none⟩ = some (.int .i64 0) := (blk_cell BK286.out 1).trans rfl; have hcz13_2 : w11.cell? ⟨gb286, 2, none⟩ = some (.int .i64 0) := (blk_cell BK286.out 2).trans rfl; have hfz13_0 := blk_frozen BK286.out 0; have hfz13_1 := blk_frozen BK286.out 1; have hfz13_2 := blk_frozen BK286.out 2))
       go_roundg k1
       case measure => have := HK1.out; omega
       case rel => exact ⟨(wrap64 (x4_1 + ((rd_T55 l0_1 x13_1).f2))), (wrap64 (x13_1 + 1)), (by first | rfl | (simp; done) | (simp [*]; done)), (by first | rfl | (simp; done) | (simp [*]; done)), H', ⟨by have := HK1.out; omega⟩, ⟨by (with_reducible repeat (first | refine blk_drewN ?_ _ | refine blk_drew ?_ | refine blk_alloc ?_ _)); refine blk_far ?_ NB283_286.out _; (with_reducible repeat (first | refine blk_drewN ?_ _ | refine blk_drew ?_ | refine blk_alloc ?_ _)); refine blk_far ?_ NB283_286.out _; (with_reducible repeat (first | refine blk_drewN ?_ _ | refine blk_drew ?_ | refine blk_alloc ?_ _)); refine blk_far ?_ NB283_286.out _; (with_reducible repeat (first | refine blk_drewN ?_ _ | refine blk_drew ?_ | refine blk_alloc ?_ _)); exact BK283.out⟩, ⟨by repeat (first | (with_reducible first | exact HB.out | apply below_alloc | apply pw_below_drewN | apply below_drew1 | refine below_set ?_ GE283.out | refine below_set ?_ GE286.out) | exact HB.out)⟩⟩
      ·rw [if_neg c10] at H
       exact absurd H (by simp)
     ·rw [if_neg c9] at H
      exact absurd H (by simp)
    ·rw [if_neg c8] at H
     have c8b0 : decide (x13_1 < (l0_1.length : Int)) = false := decide_eq_false c8
     clear c8
     simp only [Option.some.injEq, Prod.mk.injEq] at H
     obtain ⟨rfl, rfl⟩ := H
     go_wp2
     go_ret2
     exact ⟨by first | rfl | (simp [errW_none, errW_some] <;> rfl) | (simp [*, errW_none, errW_some] <;> rfl), by repeat (first | (with_reducible first | exact HB.out | apply below_alloc | apply pw_below_drewN | apply below_drew1 | refine below_set ?_ GE283.out) | exact HB.out)⟩
 ·replace c3 := Bool.eq_false_iff.mpr c3
  subst c3
  have H1 : (some (0, false)) = some (r1, r2) := by rw [if_neg (show ¬ (false = true) by decide)] at H; exact H
  clear H
  have H := H1
  clear H1
  simp only [Option.some.injEq, Prod.mk.injEq] at H
  obtain ⟨rfl, rfl⟩ := H
  go_enter Try.func26, Try.ntmps26
  go_wp2_with (first | ((with_reducible refine gate_dst (N := 1) rfl ?_); refine box_event ?hg (N := 1) ?hd (cs := #[.slice A0_0 l0_0.length c0_0, .slice A0_1 l0_1.length c0_1]) (t := 36) ?hr ?_; (case hd => rfl); (case hg => rfl); (case hr => first | (go_simp; done) | (go_simp; rfl)); intro gb283 hg w14 hbox hb; have n0_ := Aside0.mk (below_step (by repeat (first | (with_reducible first | exact HB.out | apply below_alloc | apply pw_below_drewN | apply below_drew1) | exact HB.out)) hb); have n1_ := Aside0.mk (hbox); have n2_ := Aside0.mk ((by rw [hg]; exact (below_size (by repeat (first | (with_reducible first | exact HB.out | apply below_alloc | apply pw_below_drewN | apply below_drew1) | exact HB.out))) : w.heap.size ≤ gb283)); have n3_ := Aside0.mk ((by rw [hg]; exact (below_size (by repeat (first | (with_reducible first | exact HB.out | apply below_alloc | apply pw_below_drewN | apply below_drew1) | exact HB.out))) : w.heap.size ≤ gb283)); clear HB; have HB := n0_; have BK283 := n1_; have GW283 := n2_; have GE283 := n3_; clear n0_ n1_ n2_ n3_; clear hb hbox hg; have hcz15_0 : w14.cell? ⟨gb283, 0, none⟩ = some (.slice A0_0 l0_0.length c0_0) := (blk_cell BK283.out 0).trans rfl; have hcz15_1 : w14.cell? ⟨gb283, 1, none⟩ = some (.slice A0_1 l0_1.length c0_1) := (blk_cell BK283.out 1).trans rfl; have hfz15_0 := blk_frozen BK283.out 0; have hfz15_1 := blk_frozen BK283.out 1) | ((with_reducible refine gate_callee (f := 23) rfl ?_); refine goesL_ (some 8) rfl rfl Try.func23 (by kernel_rfl) rfl #[.agg #[.slice A0_0 l0_0.length c0_0, .slice A0_1 l0_1.length c0_1]] rfl (by (try simp only [List.map_toArray, List.map_cons, List.map_nil]); first | done | rfl | (simp only [List.length_drop, List.length_take]; rfl)) ?_; (with_reducible refine (impl_ValidFlow.calls k _ _ l0_0 _ _ l0_1 false _ ?side1 ?side2 ?side3 ?side4 A2.out).mono ?_); (case side1 => repeat (first | exact (Kd.C_below HR0_0.out HB.out) | (with_reducible refine Kd.C_alloc ?_ _) | (with_reducible refine Kd.C_drewN ?_ _) | (with_reducible refine Kd.C_drew ?_))); (case side2 => first | exact trivial | (exact HC0_0.out)); (case side3 => repeat (first | exact (Kd.C_below HR0_1.out HB.out) | (with_reducible refine Kd.C_alloc ?_ _) | (with_reducible refine Kd.C_drewN ?_ _) | (with_reducible refine Kd.C_drew ?_))); (case side4 => first | exact trivial | (exact HC0_1.out)); rintro e w16 ⟨rfl, hb⟩; refine ⟨_, rfl, ?_⟩; have n0_ := Aside0.mk (blk_below (g := gb283) (o := .cells #[.slice A0_0 l0_0.length c0_0, .slice A0_1 l0_1.length c0_1] 36 (0, 0)) (by (with_reducible repeat (first | refine blk_drewN ?_ _ | refine blk_drew ?_ | refine blk_alloc ?_ _)); exact BK283.out) hb); have n1_ := Aside0.mk (below_step (by repeat (first | (with_reducible first | exact HB.out | apply below_alloc | apply pw_below_drewN | apply below_drew1 | refine below_set ?_ GE283.out) | exact HB.out)) hb); clear BK283; clear HB; have BK283 := n0_; have HB := n1_; clear n0_ n1_; (try clear hb); (try clear hb2); (try clear hk); (try clear hi)))
  go_ret2
  exact ⟨by first | rfl | (simp [errW_none, errW_some] <;> rfl) | (simp [*, errW_none, errW_some] <;> rfl), by repeat (first | (with_reducible first | exact HB.out | apply below_alloc | apply pw_below_drewN | apply below_drew1 | refine below_set ?_ GE283.out) | exact HB.out)⟩
end Go.Proofs.Ytojpibpjieanhaa.X
end
section
namespace Go.Proofs.Ytojpibpjieanhaa.X
open Go.RowKit Go.Proofs.YtojpibpjieanhaaW.PrintWords Go.Proofs.YtojpibpjieanhaaW.PrintLast Go.Proofs.YtojpibpjieanhaaW.PrintMore
set_option linter.unusedVariables false
set_option linter.unusedSimpArgs false
def regSum (l : List S55) : Nat → Int
  | 0 => 0
  | i + 1 => wrap64 (regSum l i + (rd_T55 l i).f2)
end Go.Proofs.Ytojpibpjieanhaa.X
end
section
-- Written by a program of this session out of the kit's print of the loaded functions: a plain function of a Go function, and its contract.
namespace Go.Proofs.Ytojpibpjieanhaa.X
open Go.RowKit Go.Proofs.YtojpibpjieanhaaW.PrintWords Go.Proofs.YtojpibpjieanhaaW.PrintLast Go.Proofs.YtojpibpjieanhaaW.PrintMore
attribute [local go_sem] max2_int min2_int max_two min_two max_three min_three max_four min_four   -- for this text's walks alone
set_option linter.unusedVariables false
set_option linter.unusedSimpArgs false
end Go.Proofs.Ytojpibpjieanhaa.X
end
section
namespace Go.Proofs.Ytojpibpjieanhaa.X
open Go.RowKit Go.Proofs.YtojpibpjieanhaaW.PrintWords Go.Proofs.YtojpibpjieanhaaW.PrintLast Go.Proofs.YtojpibpjieanhaaW.PrintMore
set_option linter.unusedVariables false
theorem regs_loop (ws : List S55) (hm : ws.length ≤ 16) : ∀ (d i k : Nat), i + d = ws.length → d < k → impl_RegistersOf.l0 k (regSum ws i) ws (ws.length : Int) i = some (regSum ws ws.length, true)
  | 0, i, k, hi, hk => by
    cases k with
    | zero => omega
    | succ k => rw [impl_RegistersOf.l0, if_neg (by omega), show i = ws.length by omega]
  | d + 1, i, k, hi, hk => by
    cases k with
    | zero => omega
    | succ k =>
      have ih := regs_loop ws hm d (i + 1) k (by omega) (by omega)
      rw [Int.natCast_add, Int.natCast_one] at ih
      rw [impl_RegistersOf.l0, if_pos (by omega), if_pos (by omega), if_pos (by omega), w64 (n := (i : Int) + 1) (by omega) (by omega)]
      exact ih
end Go.Proofs.Ytojpibpjieanhaa.X
end
section
-- Written by a program of this session out of the kit's print of the loaded functions: a plain function of a Go function, and its contract.
namespace Go.Proofs.Ytojpibpjieanhaa.X
open Go.RowKit Go.Proofs.YtojpibpjieanhaaW.PrintWords Go.Proofs.YtojpibpjieanhaaW.PrintLast Go.Proofs.YtojpibpjieanhaaW.PrintMore
attribute [local go_sem] max2_int min2_int max_two min_two max_three min_three max_four min_four   -- for this text's walks alone
set_option linter.unusedVariables false
set_option linter.unusedSimpArgs false
def laws_r8Long.f (l0 : List Int) (l1 : List Int) : Option (Bool) := if (l0.length : Int) > 48 then (some true) else (some (decide ((l1.length : Int) > 48)))
set_option maxHeartbeats 8000000 in
set_option maxRecDepth 100000 in
theorem laws_r8Long.calls (A0 : Option Addr) (c0 : Nat) (l0 : List Int) (A1 : Option Addr) (c1 : Nat) (l1 : List Int) (r : Bool) (w : World) (hr0 : Kd.C (Kd.int .u8) w A0 l0.length l0) (hc0 : l0.length ≤ c0) (hr1 : Kd.C (Kd.int .u8) w A1 l1.length l1) (hc1 : l1.length ≤ c1) (h : laws_r8Long.f l0 l1 = some r) :
  Calls Try.prog 39 #[.slice A0 l0.length c0, .slice A1 l1.length c1] w fun e w' => e = .returned (.bool r) ∧ Drawn0 w w' := by
 have HR0 := Aside0.mk hr0
 have HC0 := Aside0.mk hc0
 clear hr0 hc0
 have HR1 := Aside0.mk hr1
 have HC1 := Aside0.mk hc1
 clear hr1 hc1
 have H : (if (l0.length : Int) > 48 then (some true) else (some (decide ((l1.length : Int) > 48)))) = some r := h
 clear h
 by_cases c3 : (l0.length : Int) > 48
 ·rw [if_pos c3] at H
  have c3b0 : decide (48 < (l0.length : Int)) = true := decide_eq_true c3
  have c3b1 : decide (48 < l0.length) = true := decide_eq_true (by omega)
  clear c3
  obtain rfl := Option.some.inj H
  go_enter Try.func39, Try.ntmps39
  go_wp2
  go_ret
  exact ⟨by first | rfl | (simp; done) | (simp [*]; done), by repeat (first | exact Drawn0.refl _ | apply Drawn0.step)⟩
 ·rw [if_neg c3] at H
  have c3b0 : decide (48 < (l0.length : Int)) = false := decide_eq_false c3
  have c3b1 : decide (48 < l0.length) = false := decide_eq_false (by omega)
  clear c3
  obtain rfl := Option.some.inj H
  go_enter Try.func39, Try.ntmps39
  go_wp2
  go_ret
  exact ⟨by first | rfl | (simp; done) | (simp [*]; done), by repeat (first | exact Drawn0.refl _ | apply Drawn0.step)⟩
end Go.Proofs.Ytojpibpjieanhaa.X
end
