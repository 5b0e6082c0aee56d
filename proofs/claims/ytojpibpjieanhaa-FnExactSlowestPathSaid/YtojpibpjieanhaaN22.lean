/- My own texts of this seat and its words, merged: XSlowClo, Xp47, Xp99, XAreMoves, Xp82, Xp102, XIsFlow, Xp103, Xp86, XOpenClo, XIsOpen. Conditions: as each lemma says. -/
import Derived.Test.YtojpibpjieanhaaN21
import Derived.Deep.RegionHeld3
import Derived.RegionTactic
import Derived.BigRegion
section
namespace Go.Proofs.Ytojpibpjieanhaa.X
open Go.RowKit Go.Proofs.YtojpibpjieanhaaW.PrintWords Go.Proofs.YtojpibpjieanhaaW.PrintLast Go.Proofs.YtojpibpjieanhaaW.PrintMore
set_option linter.unusedVariables false
set_option linter.unusedSimpArgs false
def updS (K : Nat) (T : Int) (p b : List Int) (t : Int) : Option (List Int) := if (t == T) = true then (if ((b.length : Int) == 0) = true then some p else if (p.length : Int) < b.length then some p else if ((p.length : Int) == (b.length : Int)) = true then (slices_Compare_int64_int64.f K p b).bind fun c => if c < 0 then some p else some b else some b) else some b
def extN (rec : List Int → Int → List Int → Option (List Int)) (d p : List Int) (t : Int) (outs : List Int) : Nat → Nat → List Int → Option (List Int)
  | 0, _, b => some b
  | e + 1, i, b => if 0 ≤ rd outs (i : Int) ∧ rd outs (i : Int) < d.length then (rec (p ++ [rd outs (i : Int)]) (wrap64 (t + rd d (rd outs (i : Int)))) b).bind fun b' => extN rec d p t outs e (i + 1) b' else none
def extF (K : Nat) (d : List Int) (ws : List S55) (T : Int) : Nat → List Int → Int → List Int → Option (List Int)
  | 0, _, _, _ => none
  | k + 1, p, t, b => if 1 ≤ p.length ∧ p.length ≤ 1000000 ∧ d.length ≤ 1000000 then (updS K T p b t).bind fun b1 => (impl_Flow_openFrom.f K d ws (rd p ((p.length : Int) - 1))).bind fun outs => if outs.length ≤ 1000000 then extN (extF K d ws T k) d p t outs outs.length 0 b1 else none else none
theorem updS_mono (K : Nat) (T : Int) (p b : List Int) (t : Int) : LeO (updS K T p b t) (updS (K + 1) T p b t) := by
  unfold updS
  refine LeO.ite (LeO.ite (LeO.refl _) (LeO.ite (LeO.refl _) (LeO.ite ?_ (LeO.refl _)))) (LeO.refl _)
  exact LeO.bind (slices_Compare_int64_int64.mono _ _ _) (fun _ => LeO.refl _)
theorem extN_mono {r r' : List Int → Int → List Int → Option (List Int)} (h : ∀ l x b, LeO (r l x b) (r' l x b)) (d p : List Int) (t : Int) (outs : List Int) : ∀ e i b, LeO (extN r d p t outs e i b) (extN r' d p t outs e i b)
  | 0, _, _ => LeO.refl _
  | e + 1, i, b => by
    rw [extN, extN]
    refine LeO.ite (LeO.bind (h _ _ _) (fun b' => extN_mono h d p t outs e (i + 1) b')) (LeO.refl _)
theorem extF_mono (K : Nat) (d : List Int) (ws : List S55) (T : Int) : ∀ (k : Nat) (p : List Int) (t : Int) (b : List Int), LeO (extF K d ws T k p t b) (extF (K + 1) d ws T (k + 1) p t b)
  | 0, _, _, _ => fun r h => by simp [extF] at h
  | k + 1, p, t, b => by
    have hr : extF (K + 1) d ws T (k + 1 + 1) p t b = if 1 ≤ p.length ∧ p.length ≤ 1000000 ∧ d.length ≤ 1000000 then (updS (K + 1) T p b t).bind fun b1 => (impl_Flow_openFrom.f (K + 1) d ws (rd p ((p.length : Int) - 1))).bind fun outs => if outs.length ≤ 1000000 then extN (extF (K + 1) d ws T (k + 1)) d p t outs outs.length 0 b1 else none else none := rfl
    rw [extF, hr]
    refine LeO.ite (LeO.bind (updS_mono _ _ _ _ _) (fun b1 => LeO.bind (impl_Flow_openFrom.mono _ _ _ _) (fun outs => LeO.ite ?_ (LeO.refl _)))) (LeO.refl _)
    exact extN_mono (fun l x c => extF_mono K d ws T k l x c) d p t outs _ _ _
structure ExtW (w0 : World) (d : List Int) (ws : List S55) (T : Int) (g2 g3 g4 g5 : Nat) (A0 : Option Addr) (c0 : Nat) (A1 : Option Addr) (c1 : Nat) (b : List Int) (w : World) : Prop where
  b2 : w.heap[g2]? = some (.cells #[.int .i64 T] 2 (0, 0))
  b3 : ∃ A c, w.heap[g3]? = some (.cells #[.slice A b.length c] 22 (0, 0)) ∧ Kd.R (Kd.int .i64) 2 w w0.heap.size (fun k => k ≠ g3) (.slice A b.length c) b
  b4 : w.heap[g4]? = some (.cells #[.slice A0 d.length c0, .slice A1 ws.length c1] 36 (0, 0))
  b5 : w.heap[g5]? = some (.cells #[.func (.func 67) #[] #[.pointer (some ⟨g2, 0, none⟩), .pointer (some ⟨g3, 0, none⟩), .pointer (some ⟨g4, 0, none⟩), .pointer (some ⟨g5, 0, none⟩)]] 84 (0, 0))
  h3 : w0.heap.size ≤ g3
  bel : Below w0.heap.size w0 w
variable {w0 w w1 : World} {d : List Int} {ws : List S55} {T : Int} {g2 g3 g4 g5 : Nat} {A0 : Option Addr} {c0 : Nat} {A1 : Option Addr} {c1 : Nat} {b b' : List Int}
theorem ExtW.move (h : ExtW w0 d ws T g2 g3 g4 g5 A0 c0 A1 c1 b w) (hb : Below w.heap.size w w1) : ExtW w0 d ws T g2 g3 g4 g5 A0 c0 A1 c1 b w1 := by
  obtain ⟨A, c, q1, q2⟩ := h.b3
  exact ⟨blk_below h.b2 hb, ⟨A, c, blk_below q1 hb, Kd.R_below q2 hb⟩, blk_below h.b4 hb, blk_below h.b5 hb, h.h3, below_step h.bel hb⟩
theorem ExtW.put (h : ExtW w0 d ws T g2 g3 g4 g5 A0 c0 A1 c1 b w) {A : Option Addr} {c : Nat} (hR : Kd.R (Kd.int .i64) 2 w w0.heap.size (fun _ => True) (.slice A b'.length c) b') : ExtW w0 d ws T g2 g3 g4 g5 A0 c0 A1 c1 b' (w.setCell ⟨g3, 0, none⟩ (.slice A b'.length c)) := by
  obtain ⟨A', c', q1, q2⟩ := h.b3
  refine ⟨blk_far h.b2 (p := ⟨g3, 0, none⟩) (blk_ne h.b2 q1 (by decide)) _, ⟨A, c, blk_put q1 0 _ rfl, ?_⟩, blk_far h.b4 (p := ⟨g3, 0, none⟩) (blk_ne h.b4 q1 (by decide)) _, blk_far h.b5 (p := ⟨g3, 0, none⟩) (blk_ne h.b5 q1 (by decide)) _, h.h3, h.bel.setCell (p := ⟨g3, 0, none⟩) h.h3 _⟩
  exact Kd.R_mono (Kd.R_far (p := ⟨g3, 0, none⟩) (Kd.R_types hR q1 (by decide)) (fun _ hk => hk.2) _) (fun _ hk => hk.2)
def ExtP (w0 : World) (d : List Int) (ws : List S55) (T : Int) (g2 g3 g4 g5 : Nat) (A0 : Option Addr) (c0 : Nat) (A1 : Option Addr) (c1 : Nat) (b : List Int) (w w' : World) : Prop := ExtW w0 d ws T g2 g3 g4 g5 A0 c0 A1 c1 b w' ∧ Kept w w' (fun k => k = g3)
theorem ok3 (h : ExtW w0 d ws T g2 g3 g4 g5 A0 c0 A1 c1 b w) {v : Value} {l : List Int} (hR : Kd.R (Kd.int .i64) 2 w w0.heap.size (fun _ => True) v l) : Kd.R (Kd.int .i64) 2 w w0.heap.size (fun k => k ≠ g3) v l := by
  obtain ⟨A', c', q1, q2⟩ := h.b3
  exact Kd.R_mono (Kd.R_types hR q1 (by decide)) (fun _ hk => hk.2)
theorem extk {ad : Addr} {n x : Nat} {dx : Int} {W : World} (hr0 : Kd.C (Kd.int .i64) w0 (some ad) d.length d) (h : ExtW w0 d ws T g2 g3 g4 g5 (some ad) c0 A1 c1 b W) (hn : n = d.length) (hx : x < n) (hd : dx = rd d (x : Int)) :
    W.cell? ⟨g5, 0, none⟩ = some (.func (.func 67) #[] #[.pointer (some ⟨g2, 0, none⟩), .pointer (some ⟨g3, 0, none⟩), .pointer (some ⟨g4, 0, none⟩), .pointer (some ⟨g5, 0, none⟩)]) ∧ W.cell? ⟨g4, 0, none⟩ = some (.slice (some ad) n c0) ∧ W.cell? (ad.add x) = some (.int .i64 dx) := by
  obtain ⟨ad', hA, dA⟩ := Kd.at_int (Kd.C_below hr0 h.bel) (x : Int) (by omega) (by omega)
  cases hA
  rw [Int.toNat_natCast, ← hd] at dA
  exact ⟨(blk_cell h.b5 0).trans rfl, (blk_cell h.b4 0).trans (by rw [hn]; rfl), dA⟩
set_option maxHeartbeats 16000000 in
set_option maxRecDepth 100000 in
theorem ext_walk (K : Nat) (hr0 : Kd.C (Kd.int .i64) w0 A0 d.length d) (hr1 : Kd.C k55 w0 A1 ws.length ws) (hc0 : d.length ≤ c0) (hc1 : ws.length ≤ c1) : ∀ (k : Nat) (p : List Int) (t : Int) (A : Option Addr) (c : Nat) (b b' : List Int) (w : World), ExtW w0 d ws T g2 g3 g4 g5 A0 c0 A1 c1 b w → Kd.R (Kd.int .i64) 2 w w0.heap.size (fun k => k ≠ g3) (.slice A p.length c) p → extF K d ws T k p t b = some b' →
    Calls Try.prog 67 #[.slice A p.length c, .int .i64 t, .pointer (some ⟨g2, 0, none⟩), .pointer (some ⟨g3, 0, none⟩), .pointer (some ⟨g4, 0, none⟩), .pointer (some ⟨g5, 0, none⟩)] w fun e w' => e = .returned (.tuple #[]) ∧ ExtP w0 d ws T g2 g3 g4 g5 A0 c0 A1 c1 b' w w' := by
  intro k
  induction k with
  | zero => intro p t A c b b' w _ _ h; simp [extF] at h
  | succ k ih =>
  intro p t A c b b' w hI hR hF
  have HIH := Aside0.mk ih
  have HI := Aside0.mk hI
  have HR := Aside0.mk hR
  have HR0 := Aside0.mk hr0
  have HR1 := Aside0.mk hr1
  have HC0 := Aside0.mk hc0
  have HC1 := Aside0.mk hc1
  rw [extF] at hF
  by_cases hl : 1 ≤ p.length ∧ p.length ≤ 1000000 ∧ d.length ≤ 1000000
  case neg => rw [if_neg hl] at hF; cases hF
  rw [if_pos hl] at hF
  obtain ⟨b1, hU, hF⟩ := Option.bind_eq_some_iff.mp hF
  obtain ⟨outs, hO, hF⟩ := Option.bind_eq_some_iff.mp hF
  by_cases hol : outs.length ≤ 1000000
  case neg => rw [if_neg hol] at hF; cases hF
  rw [if_pos hol] at hF
  have HU := Aside0.mk hU
  have HO := Aside0.mk hO
  have HF := Aside0.mk hF
  obtain ⟨L, hL⟩ : ∃ L, L = p.length := ⟨_, rfl⟩
  have HL := Aside0.mk hL
  rw [← hL] at hl HR ⊢
  obtain ⟨hl1, hl2, hn⟩ := hl
  obtain ⟨n, hn0⟩ : ∃ n, n = d.length := ⟨_, rfl⟩
  have HN0 := Aside0.mk hn0
  obtain ⟨m, hm0⟩ : ∃ m, m = ws.length := ⟨_, rfl⟩
  have HM0 := Aside0.mk hm0
  rw [← hn0] at hn
  obtain ⟨lb, hlb⟩ : ∃ lb, lb = b.length := ⟨_, rfl⟩
  have HLB := Aside0.mk hlb
  obtain ⟨A3, c3, q3, q3R⟩ := hI.b3
  rw [← hlb] at q3 q3R
  have Q3 := Aside0.mk q3
  have Q3R := Aside0.mk q3R
  have k2 : w.cell? ⟨g2, 0, none⟩ = some (.int .i64 T) := (blk_cell hI.b2 0).trans rfl
  have k3 : w.cell? ⟨g3, 0, none⟩ = some (.slice A3 lb c3) := (blk_cell q3 0).trans rfl
  have z3 := blk_frozen q3 0
  clear hI hR hr0 hr1 hc0 hc1 ih hL hn0 hm0 hlb q3 q3R hU hO hF
  go_enter Try.func67, Try.ntmps67
  go_upto_region 0 with (fail)
  go_cut [37] (fun v37 wc => ∃ s : Bool, v37 = .bool s ∧ Aside0 (b1 = if s = true then p else b) ∧ Aside0 (ExtW w0 d ws T g2 g3 g4 g5 A0 c0 A1 c1 b wc) ∧ Aside0 (Below w.heap.size w wc))
  case first =>
    have hU := HU.out
    clear HU HF HO
    unfold updS at hU
    rw [← HL.out, ← HLB.out] at hU
    cases hv : (t == T) with
    | false =>
      have HE : Aside0 (b1 = if false = true then p else b) := ⟨by rw [hv, if_neg (by decide)] at hU; injection hU with h; rw [if_neg (by decide)]; exact h.symm⟩
      clear hU
      go_wp2
      go_meet
      exact ⟨false, rfl, HE, ⟨HI.out⟩, ⟨Below.refl _ _⟩⟩
    | true =>
      rw [hv, if_pos rfl] at hU
      cases hz : ((lb : Int) == 0) with
      | true =>
        have HE : Aside0 (b1 = if true = true then p else b) := ⟨by rw [hz, if_pos rfl] at hU; injection hU with h; rw [if_pos rfl]; exact h.symm⟩
        clear hU
        go_wp2
        go_meet
        exact ⟨true, rfl, HE, ⟨HI.out⟩, ⟨Below.refl _ _⟩⟩
      | false =>
        rw [hz, if_neg (by decide)] at hU
        by_cases hlt : (L : Int) < (lb : Int)
        · have HE : Aside0 (b1 = if true = true then p else b) := ⟨by rw [if_pos hlt] at hU; injection hU with h; rw [if_pos rfl]; exact h.symm⟩
          have hd : decide ((L : Int) < (lb : Int)) = true := decide_eq_true hlt
          have hd2 : decide (L < lb) = true := decide_eq_true (by omega)
          clear hU
          go_wp2
          go_meet
          exact ⟨true, rfl, HE, ⟨HI.out⟩, ⟨Below.refl _ _⟩⟩
        · rw [if_neg hlt] at hU
          have hd : decide ((L : Int) < (lb : Int)) = false := decide_eq_false hlt
          have hd2 : decide (L < lb) = false := decide_eq_false (by omega)
          cases he : ((L : Int) == (lb : Int)) with
          | false =>
            have HE : Aside0 (b1 = if false = true then p else b) := ⟨by rw [he, if_neg (by decide)] at hU; injection hU with h; rw [if_neg (by decide)]; exact h.symm⟩
            clear hU
            have he2 : (L == lb) = false := by rw [beq_eq_false_iff_ne] at he ⊢; omega
            go_wp2
            go_meet
            exact ⟨false, rfl, HE, ⟨HI.out⟩, ⟨Below.refl _ _⟩⟩
          | true =>
            rw [he, if_pos rfl] at hU
            have he2 : (L == lb) = true := by rw [beq_iff_eq] at he ⊢; omega
            obtain ⟨r, hc, hU⟩ := Option.bind_eq_some_iff.mp hU
            have HCMP : Aside0 (Calls Try.prog 68 #[.slice A L c, .slice A3 lb c3] w fun e w' => e = .returned (.int .i64 r) ∧ Drawn0 w w') := ⟨by
              have T := slices_Compare_int64_int64.calls K A c p A3 c3 b r w (Kd.R_reads' HR.out).2.2 (by have := Kd.R_reads' HR.out; omega) (Kd.R_reads' Q3R.out).2.2 (by have := Kd.R_reads' Q3R.out; omega) hc
              rw [← HL.out, ← HLB.out] at T
              exact T⟩
            clear hc
            by_cases hr : r < 0
            · have HE : Aside0 (b1 = if true = true then p else b) := ⟨by rw [if_pos hr] at hU; injection hU with h; rw [if_pos rfl]; exact h.symm⟩
              have hd3 : decide (r < 0) = true := decide_eq_true hr
              clear hU
              go_wp2_with (go_at_call 68; (with_reducible refine HCMP.out.mono ?_); rintro e w8 ⟨rfl, ⟨nd, rfl⟩⟩)
              go_meet
              exact ⟨true, rfl, HE, ⟨HI.out.move (pw_below_drewN (Below.refl _ _) nd)⟩, ⟨pw_below_drewN (Below.refl _ _) nd⟩⟩
            · have HE : Aside0 (b1 = if false = true then p else b) := ⟨by rw [if_neg hr] at hU; injection hU with h; rw [if_neg (by decide)]; exact h.symm⟩
              have hd3 : decide (r < 0) = false := decide_eq_false hr
              clear hU
              go_wp2_with (go_at_call 68; (with_reducible refine HCMP.out.mono ?_); rintro e w8 ⟨rfl, ⟨nd, rfl⟩⟩)
              go_meet
              exact ⟨false, rfl, HE, ⟨HI.out.move (pw_below_drewN (Below.refl _ _) nd)⟩, ⟨pw_below_drewN (Below.refl _ _) nd⟩⟩
  case rest =>
    obtain ⟨s, rfl, HE, HIc, HBc⟩ := hcut
    have Q3c := Aside0.mk (blk_below Q3.out HBc.out)
    clear k2 k3 z3 HI Q3R Q3 HU
    have HOW : Aside0 (∀ W, Below w.heap.size w W → Calls Try.prog 69 #[.slice A L c] W fun e w' => ∃ v0_ : Value, e = .returned (v0_) ∧ Kd.R (Kd.int .i64) 2 w' W.heap.size (fun _ => True) v0_ p ∧ Below W.heap.size W w') := ⟨fun W hW => by
      have T := slices_Clone_int64_int64.calls A c p p W (Kd.C_below (Kd.R_reads' HR.out).2.2 hW) trivial (by unfold slices_Clone_int64_int64.f; rw [if_pos (by rw [← HL.out]; omega)])
      rw [← HL.out] at T
      exact T⟩
    go_upto_if 37 with (fail)
    go_cut [] (fun wd => Aside0 (ExtP w0 d ws T g2 g3 g4 g5 A0 c0 A1 c1 b1 w wd))
    case first =>
      cases s with
      | false =>
        have HE2 : Aside0 (b1 = b) := ⟨by have h := HE.out; rw [if_neg (by decide)] at h; exact h⟩
        go_wp2
        go_meet
        exact ⟨⟨by rw [HE2.out]; exact HIc.out, Kept.of_below HBc.out _⟩⟩
      | true =>
        have HE2 : Aside0 (b1 = p) := ⟨by have h := HE.out; rw [if_pos rfl] at h; exact h⟩
        have k3 : wc.cell? ⟨g3, 0, none⟩ = some (.slice A3 lb c3) := (blk_cell Q3c.out 0).trans rfl
        go_wp2_with (go_at_call 69; (with_reducible refine (HOW.out _ HBc.out).mono ?_); rintro e wn ⟨v, rfl, hRv, hb⟩; have HBn := Aside0.mk hb; have HIn := Aside0.mk (HIc.out.move hb); obtain ⟨Av, cv, rfl, _, _⟩ := Kd.R_reads hRv; have HRv := Aside0.mk (Kd.R_lower hRv (below_size HIc.out.bel)); have k3n := pw_cell_below hb k3; have z3n := blk_frozen (blk_below Q3c.out hb) 0; clear hRv hb)
        go_meet
        exact ⟨⟨by rw [HE2.out]; exact HIn.out.put HRv.out, Kept.setCell (p := ⟨g3, 0, none⟩) (show Kept w wn (fun k => k = g3) from (Kept.of_below HBc.out _).below HBn.out) (.inl rfl) _⟩⟩
    case rest =>
      have HX := hcut
      clear hcut HE HIc HBc Q3c HOW s
      have HRd := Aside0.mk (Kd.R_kept HR.out HX.out.2 (fun k hk => hk))
      obtain ⟨lad, hLA, lx⟩ := Kd.at_int (Kd.R_reads' HRd.out).2.2 ((L : Int) - 1) (by omega) (by rw [← HL.out]; omega)
      cases hLA
      have wl : IntKind.i64.wrap ((L : Int) - 1) = (L : Int) - 1 := IntWalk.i64_in _ ⟨by omega, by omega⟩
      have p4 : (0 ≤ (L : Int) - 1) = True := eq_true (by omega)
      have p6 : (1 ≤ (L : Int)) = True := eq_true (by omega)
      have p5 : ((L : Int) - 1 < (L : Int)) = True := eq_true (by omega)
      obtain ⟨la, hla⟩ : ∃ la, la = rd p ((L : Int) - 1) := ⟨_, rfl⟩
      rw [show ((L : Int) - 1).toNat = L - 1 by omega, ← hla] at lx
      have HLA := Aside0.mk hla
      clear hla
      have k4_0 : wc.cell? ⟨g4, 0, none⟩ = some (.slice A0 n c0) := (blk_cell HX.out.1.b4 0).trans (by rw [← HN0.out]; rfl)
      have k4_1 : wc.cell? ⟨g4, 1, none⟩ = some (.slice A1 m c1) := (blk_cell HX.out.1.b4 1).trans (by rw [← HM0.out]; rfl)
      have HOP : Aside0 (∀ W, Below wc.heap.size wc W → Calls Try.prog 70 #[.agg #[.slice A0 n c0, .slice A1 m c1], .int .i64 la] W fun e w' => ∃ v0_ : Value, e = .returned (v0_) ∧ Kd.R (Kd.int .i64) 2 w' W.heap.size (fun _ => True) v0_ outs ∧ Below W.heap.size W w') := ⟨fun W hW => by
        have T := impl_Flow_openFrom.calls K A0 c0 d A1 c1 ws la outs W (Kd.C_below HR0.out (below_step HX.out.1.bel hW)) HC0.out (Kd.C_below HR1.out (below_step HX.out.1.bel hW)) HC1.out (by rw [HLA.out, HL.out]; exact HO.out)
        rw [← HN0.out, ← HM0.out] at T
        exact T⟩
      have HK : Aside0 (∀ W, Below wc.heap.size wc W → (W.cell? ⟨g4, 0, none⟩ = some (.slice A0 n c0) ∧ W.cell? ⟨g4, 1, none⟩ = some (.slice A1 m c1) ∧ W.cell? (lad.add (L - 1)) = some (.int .i64 la))) := ⟨fun W hW => ⟨pw_cell_below hW k4_0, pw_cell_below hW k4_1, pw_cell_below hW lx⟩⟩
      have hd : ∀ y, y = wc.drew → (y.cell? ⟨g4, 0, none⟩ = some (.slice A0 n c0) ∧ y.cell? ⟨g4, 1, none⟩ = some (.slice A1 m c1) ∧ y.cell? (lad.add (L - 1)) = some (.int .i64 la)) := by
        rintro y rfl
        exact HK.out _ (below_drew1 (Below.refl _ _))
      obtain ⟨lo, hlo⟩ : ∃ lo, lo = outs.length := ⟨_, rfl⟩
      have HLO := Aside0.mk hlo
      rw [← hlo] at hol
      clear hlo HO
      go_wp2
      go_region_held3 (fun W => W.cell? ⟨g4, 0, none⟩ = some (.slice A0 n c0) ∧ W.cell? ⟨g4, 1, none⟩ = some (.slice A1 m c1) ∧ W.cell? (lad.add (L - 1)) = some (.int .i64 la)) (first | exact hd _ rfl | assumption | exact HK.out _ hB70) (first
        | (go_at_call 70; (with_reducible refine (HOP.out _ (below_drew1 (Below.refl _ _))).mono ?_); rintro e w70 ⟨v70, rfl, hR70, hb70⟩; have hB70 : Below wc.heap.size wc w70 := (below_step (below_drew1 (Below.refl _ _)) hb70); obtain ⟨Ao, co, hv70, _, _⟩ := Kd.R_reads hR70; rw [← HLO.out] at hv70; subst hv70))
      have HRO := Aside0.mk (ok3 (HX.out.1.move hB70) (Kd.R_lower hR70 (below_size (below_drew1 HX.out.1.bel))))
      have HX7 : Aside0 (ExtP w0 d ws T g2 g3 g4 g5 A0 c0 A1 c1 b1 w w70) := ⟨⟨HX.out.1.move hB70, HX.out.2.below hB70⟩⟩
      clear hR70 hB70 hb70 HX HK HOP hd k4_0 k4_1 lx HRd
      go_wp2
      go_loopg [49] lo (fun kq v49 w' => ∃ (i : Nat) (bb : List Int), v49 = .int .i64 i ∧ Aside0 (i + kq = lo) ∧ Aside0 (extN (extF K d ws T k) d p t outs kq i bb = some b') ∧ Aside0 (ExtP w0 d ws T g2 g3 g4 g5 A0 c0 A1 c1 bb w w') ∧ Aside0 (Kd.R (Kd.int .i64) 2 w' w0.heap.size (fun k => k ≠ g3) (.slice Ao lo co) outs))
      case atStart => exact ⟨0, b1, by first | rfl | simp, ⟨by omega⟩, ⟨by rw [HLO.out]; exact HF.out⟩, HX7, HRO⟩
      case round =>
        clear HX7 HRO HF
        obtain ⟨i, bb, rfl, HE, HF, HX, HRO⟩ := hrel
        by_cases hlt : i < lo
        · cases gk with
          | zero => have := HE.out; omega
          | succ gq =>
          have hF := HF.out
          rw [extN] at hF
          by_cases hxx : 0 ≤ rd outs (i : Int) ∧ rd outs (i : Int) < d.length
          case neg => rw [if_neg hxx] at hF; cases hF
          rw [if_pos hxx] at hF
          obtain ⟨b2, hS, hF⟩ := Option.bind_eq_some_iff.mp hF
          obtain ⟨oad, hOA, ox⟩ := Kd.at_int (Kd.R_reads' HRO.out).2.2 (i : Int) (by omega) (by rw [← HLO.out]; omega)
          cases hOA
          rw [Int.toNat_natCast] at ox
          rw [← HN0.out] at hxx
          obtain ⟨x, hx⟩ : ∃ x : Nat, rd outs (i : Int) = x := ⟨(rd outs (i : Int)).toNat, by omega⟩
          rw [hx] at hS hxx ox
          have HS := Aside0.mk hS
          have HF2 := Aside0.mk hF
          clear hF hS hx HF
          have hxn : x < n := by omega
          obtain ⟨ad, hA, dA⟩ := Kd.at_int (Kd.C_below HR0.out HX.out.1.bel) (x : Int) (by omega) (by rw [← HN0.out]; omega)
          cases hA
          rw [Int.toNat_natCast] at dA
          obtain ⟨dx, hdx⟩ : ∃ dx, dx = rd d (x : Int) := ⟨_, rfl⟩
          rw [← hdx] at dA HS
          have HDX := Aside0.mk hdx
          clear hdx
          have HBX := Aside0.mk HX.out.1.bel
          have hxi : decide ((i : Int) < (lo : Int)) = true := decide_eq_true (by omega)
          have hxi2 : decide (i < lo) = true := decide_eq_true hlt
          have p0 : (0 ≤ (x : Int)) = True := eq_true (by omega)
          have p1 : ((x : Int) < (n : Int)) = True := eq_true (by omega)
          have p2 : (0 ≤ (i : Int)) = True := eq_true (by omega)
          have p3 : ((i : Int) < (lo : Int)) = True := eq_true (by omega)
          have wi : IntKind.i64.wrap ((i : Int) + 1) = (i : Int) + 1 := IntWalk.i64_in _ ⟨by omega, by omega⟩
          have k4_0 : wr.cell? ⟨g4, 0, none⟩ = some (.slice (some ad) n c0) := (blk_cell HX.out.1.b4 0).trans (by rw [← HN0.out]; rfl)
          have k5 : wr.cell? ⟨g5, 0, none⟩ = some (.func (.func 67) #[] #[.pointer (some ⟨g2, 0, none⟩), .pointer (some ⟨g3, 0, none⟩), .pointer (some ⟨g4, 0, none⟩), .pointer (some ⟨g5, 0, none⟩)]) := (blk_cell HX.out.1.b5 0).trans rfl
          have HRp := Aside0.mk (Kd.R_kept HR.out HX.out.2 (fun k hk => hk))
          have HCL : Aside0 (∀ W, Below wr.heap.size wr W → Calls Try.prog 69 #[.slice (some lad) L c] W fun e w' => ∃ v0_ : Value, e = .returned (v0_) ∧ Kd.R (Kd.int .i64) 2 w' W.heap.size (fun _ => True) v0_ p ∧ Below W.heap.size W w') := ⟨fun W hW => by
            have T := slices_Clone_int64_int64.calls (some lad) c p p W (Kd.C_below (Kd.R_reads' HRp.out).2.2 hW) trivial (by unfold slices_Clone_int64_int64.f; rw [if_pos (by rw [← HL.out]; omega)])
            rw [← HL.out] at T
            exact T⟩
          have HSF : Aside0 (∀ W v, Below wr.heap.size wr W → Kd.R (Kd.int .i64) 2 W w0.heap.size (fun _ => True) v (p ++ [(x : Int)]) → Calls Try.prog 67 #[v, .int .i64 (IntKind.i64.wrap (t + dx)), .pointer (some ⟨g2, 0, none⟩), .pointer (some ⟨g3, 0, none⟩), .pointer (some ⟨g4, 0, none⟩), .pointer (some ⟨g5, 0, none⟩)] W fun e w' => e = .returned (.tuple #[]) ∧ ExtP w0 d ws T g2 g3 g4 g5 (some ad) c0 A1 c1 b2 W w') := ⟨fun W v hW hv => by
            have hv2 := ok3 (HX.out.1.move hW) hv
            obtain ⟨A', c', rfl, _, _⟩ := Kd.R_reads hv2
            rw [IntWalk.i64_left]
            exact HIH.out (p ++ [(x : Int)]) (wrap64 (t + dx)) A' c' bb b2 W (HX.out.1.move hW) hv2 HS.out⟩
          have HK : Aside0 (∀ W, Below wr.heap.size wr W → (W.cell? ⟨g5, 0, none⟩ = some (.func (.func 67) #[] #[.pointer (some ⟨g2, 0, none⟩), .pointer (some ⟨g3, 0, none⟩), .pointer (some ⟨g4, 0, none⟩), .pointer (some ⟨g5, 0, none⟩)]) ∧ W.cell? ⟨g4, 0, none⟩ = some (.slice (some ad) n c0) ∧ W.cell? (ad.add x) = some (.int .i64 dx))) := ⟨fun W hW => ⟨pw_cell_below hW k5, pw_cell_below hW k4_0, pw_cell_below hW dA⟩⟩
          have hd : ∀ y, y = wr.drew → (y.cell? ⟨g5, 0, none⟩ = some (.func (.func 67) #[] #[.pointer (some ⟨g2, 0, none⟩), .pointer (some ⟨g3, 0, none⟩), .pointer (some ⟨g4, 0, none⟩), .pointer (some ⟨g5, 0, none⟩)]) ∧ y.cell? ⟨g4, 0, none⟩ = some (.slice (some ad) n c0) ∧ y.cell? (ad.add x) = some (.int .i64 dx)) := by
            rintro y rfl
            exact HK.out _ (below_drew1 (Below.refl _ _))
          go_wp2
          go_region_held3 (fun W => W.cell? ⟨g5, 0, none⟩ = some (.func (.func 67) #[] #[.pointer (some ⟨g2, 0, none⟩), .pointer (some ⟨g3, 0, none⟩), .pointer (some ⟨g4, 0, none⟩), .pointer (some ⟨g5, 0, none⟩)]) ∧ W.cell? ⟨g4, 0, none⟩ = some (.slice (some ad) n c0) ∧ W.cell? (ad.add x) = some (.int .i64 dx)) (first | exact hd _ rfl | assumption | exact HK.out _ hB93 | exact HK.out _ (below_alloc hB93 _) | exact HK.out _ hb94 | exact hK67 | exact HK.out _ (below_alloc (below_drew1 (Below.refl _ _)) _)) (first
            | (go_at_call 69; (with_reducible refine (HCL.out _ (by first | exact below_drew1 (Below.refl _ _) | exact below_drew1 (below_alloc (Below.refl _ _) _) | exact below_alloc (below_drew1 (Below.refl _ _)) _)).mono ?_); rintro e w93 ⟨v93, rfl, hR93, hb93⟩; have hB93 : Below wr.heap.size wr w93 := (by first | exact below_step (below_drew1 (Below.refl _ _)) hb93 | exact below_step (below_drew1 (below_alloc (Below.refl _ _) _)) hb93))
            | (refine step_append_int rfl (.tmp 55) (.tmp 57) 22 rfl 2 8 Try.underlying22 info2 (by decide) wr.heap.size wr v93 p (by simp [Act.eval, Act.put]) ⟨w93.heap.size, 0, none⟩ 1 (x : Int) (by simp [Act.eval, Act.put]) ((blk_cell (blk_new w93 (.cells #[.int .i64 (x : Int)] 2)) 0).trans rfl) (Kd.R_alloc (Kd.R_lower hR93 (Nat.le_refl _)) _) (below_alloc hB93 _) (Nat.le_trans (below_size hB93) (below_size (below_alloc (Below.refl w93.heap.size w93) _))) (by rw [← HL.out]; omega) ?_; intro v94 w94 hR94 hb94)
            | (refine step_append_int rfl (.tmp 55) (.tmp 57) 22 rfl 2 8 Try.underlying22 info2 (by decide) wr.heap.size wr v93 p (by simp [Act.eval, Act.put]) ⟨wr.heap.size, 0, none⟩ 1 (x : Int) (by simp [Act.eval, Act.put]) (pw_cell_below hb93 ((blk_cell (blk_new wr (.cells #[.int .i64 (x : Int)] 2)) 0).trans rfl)) (Kd.R_lower hR93 (below_size (below_drew1 (below_alloc (Below.refl wr.heap.size wr) _)))) hB93 (below_size hB93) (by rw [← HL.out]; omega) ?_; intro v94 w94 hR94 hb94)
            | (go_at_call 67; (with_reducible refine (HSF.out _ _ hb94 (Kd.R_lower hR94 (below_size HBX.out))).mono ?_); rintro e w67 ⟨rfl, hP⟩; have hK67 := extk HR0.out hP.1 HN0.out hxn HDX.out))
          all_goals
            have HP := Aside0.mk hP
            have HB4 := Aside0.mk hb94
            have hx2 : Kept w wr (fun k => k = g3) := HX.out.2
            have hp2 : Kept w94 w67 (fun k => k = g3) := HP.out.2
            have HX2 : Aside0 (ExtP w0 d ws T g2 g3 g4 g5 (some ad) c0 A1 c1 b2 w w67) := ⟨⟨HP.out.1, (hx2.below HB4.out).then_ hp2 (fun _ hk => .inl hk)⟩⟩
            have HRO2 := Aside0.mk (Kd.R_kept (Kd.R_below HRO.out HB4.out) hp2 (fun k hk => hk))
            clear hx2 hp2 hP hb94 hR94 hR93 hb93 hB93 hK67 HX HRO HK HSF HCL
            go_wp2
            go_roundg gq
            case measure => omega
            case rel => exact ⟨i + 1, b2, by go_num, ⟨by have := HE.out; omega⟩, HF2, HX2, HRO2⟩
        · have hxi : decide ((i : Int) < (lo : Int)) = false := decide_eq_false (by omega)
          have hxi2 : decide (i < lo) = false := decide_eq_false hlt
          have HBB : Aside0 (bb = b') := ⟨by
            have h := HF.out
            rw [show gk = 0 by have := HE.out; omega, extN] at h
            injection h⟩
          go_wp2
          (first | (refine bodyPost_end (results_none rfl _ _ _) rfl ?_) | (refine bodyPost_ret (results_none rfl _ _ _) rfl ?_))
          rw [← HBB.out]
          exact ⟨rfl, HX.out⟩
end Go.Proofs.Ytojpibpjieanhaa.X
end
section
-- Written by a program of this session out of the kit's print of the loaded functions: a plain function of a Go function, and its contract.
namespace Go.Proofs.Ytojpibpjieanhaa.X
open Go.RowKit Go.Proofs.YtojpibpjieanhaaW.PrintWords Go.Proofs.YtojpibpjieanhaaW.PrintLast Go.Proofs.YtojpibpjieanhaaW.PrintMore
attribute [local go_sem] max2_int min2_int max_two min_two max_three min_three max_four min_four   -- for this text's walks alone
set_option linter.unusedVariables false
set_option linter.unusedSimpArgs false
def impl_within.f (a0 : Int) (a1 : Int) (a2 : Int) : Option (Bool) := if a0 ≥ a1 then (some (decide (a0 ≤ a2))) else (some false)
set_option maxHeartbeats 8000000 in
set_option maxRecDepth 100000 in
theorem impl_within.calls (a0 : Int) (a1 : Int) (a2 : Int) (r : Bool) (w : World) (h : impl_within.f a0 a1 a2 = some r) :
  Calls Try.prog 47 #[.int .i64 a0, .int .i64 a1, .int .i64 a2] w fun e w' => e = .returned (.bool r) ∧ Drawn0 w w' := by
 have H : (if a0 ≥ a1 then (some (decide (a0 ≤ a2))) else (some false)) = some r := h
 clear h
 by_cases c4 : a0 ≥ a1
 ·rw [if_pos c4] at H
  have c4b0 : decide (a1 ≤ a0) = true := decide_eq_true c4
  clear c4
  obtain rfl := Option.some.inj H
  go_enter Try.func47, Try.ntmps47
  go_wp2
  go_ret
  exact ⟨by first | rfl | (simp; done) | (simp [*]; done), by repeat (first | exact Drawn0.refl _ | apply Drawn0.step)⟩
 ·rw [if_neg c4] at H
  have c4b0 : decide (a1 ≤ a0) = false := decide_eq_false c4
  clear c4
  obtain rfl := Option.some.inj H
  go_enter Try.func47, Try.ntmps47
  go_wp2
  go_ret
  exact ⟨by first | rfl | (simp; done) | (simp [*]; done), by repeat (first | exact Drawn0.refl _ | apply Drawn0.step)⟩
end Go.Proofs.Ytojpibpjieanhaa.X
end
section
-- Written by a program of this session out of the kit's print of the loaded functions: a plain function of a Go function, and its contract.
namespace Go.Proofs.Ytojpibpjieanhaa.X
open Go.RowKit Go.Proofs.YtojpibpjieanhaaW.PrintWords Go.Proofs.YtojpibpjieanhaaW.PrintLast Go.Proofs.YtojpibpjieanhaaW.PrintMore
attribute [local go_sem] max2_int min2_int max_two min_two max_three min_three max_four min_four   -- for this text's walks alone
set_option linter.unusedVariables false
set_option linter.unusedSimpArgs false
class C_slices_IndexFunc_int64_int64 where
 f : Int → Option Bool
section
variable [C_slices_IndexFunc_int64_int64]
def slices_IndexFunc_int64_int64.l0 : Nat → List Int → Int → Int → Option (Int)
 | 0, _, _, _ => none
 | k + 1, x0, x7, x8 => if x8 < x7 then (if 0 ≤ x8 then (if x8 < (x0.length : Int) then ((C_slices_IndexFunc_int64_int64.f (rd x0 x8)).bind fun t120 => (if t120 = true then (some x8) else (slices_IndexFunc_int64_int64.l0 k x0 x7 (wrap64 (x8 + 1))))) else (none)) else (none)) else (some (-1))
def slices_IndexFunc_int64_int64.f (k : Nat) (l0 : List Int) (a1 : Int) : Option (Int) := slices_IndexFunc_int64_int64.l0 k l0 (l0.length : Int) 0
theorem slices_IndexFunc_int64_int64.mono_l : ∀ k, (∀ y0 y1 y2, LeO (slices_IndexFunc_int64_int64.l0 k y0 y1 y2) (slices_IndexFunc_int64_int64.l0 (k + 1) y0 y1 y2))
 | 0 => fun _ _ _ r h => by simp [slices_IndexFunc_int64_int64.l0] at h
 | k + 1 => by
  have ih0 := slices_IndexFunc_int64_int64.mono_l k
  ·intro y0 y1 y2
   unfold slices_IndexFunc_int64_int64.l0
   repeat' first
   | (with_reducible exact ih0 _ _ _)
   | (with_reducible exact LeO.refl _)
   | (with_reducible exact LeO.none _)
   | (with_reducible refine LeO.ite ?_ ?_)
   | (with_reducible refine LeO.bind ?_ (fun _ => ?_))
   | exact ih0 _ _ _
   | exact LeO.none _
   | refine LeO.ite ?_ ?_
   | refine LeO.bind ?_ (fun _ => ?_)
theorem slices_IndexFunc_int64_int64.mono : ∀ a0 a1 k, LeO (slices_IndexFunc_int64_int64.f k a0 a1) (slices_IndexFunc_int64_int64.f (k + 1) a0 a1) := by
 intro a0 a1 k
 have ih0 := slices_IndexFunc_int64_int64.mono_l k
 unfold slices_IndexFunc_int64_int64.f
 repeat' first
   | (with_reducible exact ih0 _ _ _)
   | (with_reducible exact LeO.refl _)
   | (with_reducible exact LeO.none _)
   | (with_reducible refine LeO.ite ?_ ?_)
   | (with_reducible refine LeO.bind ?_ (fun _ => ?_))
   | exact ih0 _ _ _
   | exact LeO.none _
   | refine LeO.ite ?_ ?_
   | refine LeO.bind ?_ (fun _ => ?_)
set_option maxHeartbeats 8000000 in
set_option maxRecDepth 100000 in
theorem slices_IndexFunc_int64_int64.calls (k : Nat) (A0 : Option Addr) (c0 : Nat) (l0 : List Int) (a1 : Int) (r : Int) (cf : Nat) (cfn : Func) (caps : Array Value) (hcf : CloIs Try.prog cf cfn) (w : World) (hcl : ∀ x r W, C_slices_IndexFunc_int64_int64.f x = some r → Below w.heap.size w W → Calls Try.prog cf (#[.int .i64 x] ++ caps) W fun e w' => e = .returned (.bool r) ∧ Drawn0 W w') (hr0 : Kd.C (Kd.int .i64) w A0 l0.length l0) (hc0 : l0.length ≤ c0) (h : slices_IndexFunc_int64_int64.f k l0 a1 = some r) :
  Calls Try.prog 99 #[.slice A0 l0.length c0, .func (.func cf) #[] caps] w fun e w' => e = .returned (.int .i64 r) ∧ Drawn0 w w' := by
 have HCF := Aside0.mk hcf
 have HCL := Aside0.mk hcl
 clear hcf hcl
 have HR0 := Aside0.mk hr0
 have HC0 := Aside0.mk hc0
 clear hr0 hc0
 have H : (slices_IndexFunc_int64_int64.l0 k l0 (l0.length : Int) 0) = some r := h
 clear h
 have H' := Aside0.mk H
 clear H
 go_enter Try.func99, Try.ntmps99
 go_wp2
 go_loopg [8] k (fun kq v8 w' => ∃ (x8_1 : Int), v8 = .int .i64 x8_1 ∧ Aside0 (slices_IndexFunc_int64_int64.l0 kq l0 (l0.length : Int) x8_1 = some r) ∧ Aside0 (kq ≤ k) ∧ Drawn0 w w')
 case atStart => exact ⟨(0), (by first | rfl | (simp; done) | (simp [*]; done)), H', ⟨Nat.le_refl _⟩, by repeat (first | exact Drawn0.refl _ | apply Drawn0.step)⟩
 case round =>
  clear H'
  try clear p2
  obtain ⟨x8_1, rfl, HA, HK1, ⟨m1, rfl⟩⟩ := hrel
  cases gk with
  | zero => exact absurd HA.out (by simp [slices_IndexFunc_int64_int64.l0])
  | succ k1 =>
   have H := HA.out
   clear HA
   simp only [slices_IndexFunc_int64_int64.l0] at H
   by_cases c3 : x8_1 < (l0.length : Int)
   ·rw [if_pos c3] at H
    have c3b0 : decide (x8_1 < (l0.length : Int)) = true := decide_eq_true c3
    clear c3
    by_cases c4 : 0 ≤ x8_1
    ·rw [if_pos c4] at H
     have c4b0 : decide (0 ≤ x8_1) = true := decide_eq_true c4
     clear c4
     by_cases c5 : x8_1 < (l0.length : Int)
     ·rw [if_pos c5] at H
      have c5b0 : decide (x8_1 < (l0.length : Int)) = true := decide_eq_true c5
      clear c5
      replace H := Option.bind_eq_some_iff.mp H
      obtain ⟨t120, A60, H⟩ := H
      replace H : (if t120 = true then (some x8_1) else (slices_IndexFunc_int64_int64.l0 k1 l0 (l0.length : Int) (wrap64 (x8_1 + 1)))) = some r := H
      have A6 := Aside0.mk A60
      clear A60
      by_cases c7 : t120 = true
      ·subst c7
       have H1 : (some x8_1) = some r := by rw [if_pos rfl] at H; exact H
       clear H
       have H := H1
       clear H1
       obtain rfl := Option.some.inj H
       have p119 : 0 ≤ (x8_1 : Int) := of_decide_eq_true (by first | (with_reducible assumption) | assumption)
       have q119 : x8_1 < (l0.length : Int) := of_decide_eq_true (by first | (with_reducible assumption) | assumption)
       obtain ⟨ad119, e119, hx119_0⟩ := Kd.at_int HR0.out x8_1 p119 q119
       cases e119
       replace p119 := eq_true p119
       replace q119 := eq_true q119
       go_wp2_with (first | ((with_reducible refine gate_dst (N := 16) rfl ?_); refine goesV_ (some 16) rfl rfl HCF.out.hf HCF.out.hname HCF.out.hb #[.int .i64 (rd l0 x8_1)] rfl rfl (by (try simp only [List.map_toArray, List.map_cons, List.map_nil]); first | done | rfl | (simp only [List.length_drop, List.length_take]; rfl)) ?_; (refine (HCL.out (rd l0 x8_1) true _ A6.out (by repeat (first | (with_reducible first | exact HB.out | apply below_alloc | apply pw_below_drewN | apply below_drew1) | exact HB.out | exact Below.refl _ _))).mono ?_); rintro e w' ⟨rfl, ⟨nd, rfl⟩⟩; refine ⟨_, rfl, ?_⟩))
       go_ret
       exact ⟨by first | rfl | (simp; done) | (simp [*]; done), by repeat (first | exact Drawn0.refl _ | apply Drawn0.step)⟩
      ·replace c7 := Bool.eq_false_iff.mpr c7
       subst c7
       have H1 : (slices_IndexFunc_int64_int64.l0 k1 l0 (l0.length : Int) (wrap64 (x8_1 + 1))) = some r := by rw [if_neg (show ¬ (false = true) by decide)] at H; exact H
       clear H
       have H := H1
       clear H1
       have H' := Aside0.mk H
       clear H
       have p119 : 0 ≤ (x8_1 : Int) := of_decide_eq_true (by first | (with_reducible assumption) | assumption)
       have q119 : x8_1 < (l0.length : Int) := of_decide_eq_true (by first | (with_reducible assumption) | assumption)
       obtain ⟨ad119, e119, hx119_0⟩ := Kd.at_int HR0.out x8_1 p119 q119
       cases e119
       replace p119 := eq_true p119
       replace q119 := eq_true q119
       go_wp2_with (first | ((with_reducible refine gate_dst (N := 16) rfl ?_); refine goesV_ (some 16) rfl rfl HCF.out.hf HCF.out.hname HCF.out.hb #[.int .i64 (rd l0 x8_1)] rfl rfl (by (try simp only [List.map_toArray, List.map_cons, List.map_nil]); first | done | rfl | (simp only [List.length_drop, List.length_take]; rfl)) ?_; (refine (HCL.out (rd l0 x8_1) false _ A6.out (by repeat (first | (with_reducible first | exact HB.out | apply below_alloc | apply pw_below_drewN | apply below_drew1) | exact HB.out | exact Below.refl _ _))).mono ?_); rintro e w' ⟨rfl, ⟨nd, rfl⟩⟩; refine ⟨_, rfl, ?_⟩))
       go_roundg k1
       case measure => have := HK1.out; omega
       case rel => exact ⟨(wrap64 (x8_1 + 1)), (by first | rfl | (simp; done) | (simp [*]; done)), H', ⟨by have := HK1.out; omega⟩, by repeat (first | exact Drawn0.refl _ | apply Drawn0.step)⟩
     ·rw [if_neg c5] at H
      exact absurd H (by simp)
    ·rw [if_neg c4] at H
     exact absurd H (by simp)
   ·rw [if_neg c3] at H
    have c3b0 : decide (x8_1 < (l0.length : Int)) = false := decide_eq_false c3
    clear c3
    obtain rfl := Option.some.inj H
    go_wp2
    go_ret
    exact ⟨by first | rfl | (simp; done) | (simp [*]; done), by repeat (first | exact Drawn0.refl _ | apply Drawn0.step)⟩
end
end Go.Proofs.Ytojpibpjieanhaa.X
end
section
namespace Go.Proofs.Ytojpibpjieanhaa.X
open Go.RowKit Go.Proofs.YtojpibpjieanhaaW.PrintWords Go.Proofs.YtojpibpjieanhaaW.PrintLast Go.Proofs.YtojpibpjieanhaaW.PrintMore
set_option linter.unusedVariables false
set_option linter.unusedSimpArgs false
theorem drawn_trans {a b c : World} (h : Drawn0 a b) (k : Drawn0 b c) : Drawn0 a c := by
  obtain ⟨m, rfl⟩ := h
  obtain ⟨n, rfl⟩ := k
  exact ⟨m + n, by simp [World.drewN, Nat.add_assoc]⟩
end Go.Proofs.Ytojpibpjieanhaa.X
end
section
-- Written by a program of this session out of the kit's print of the loaded functions: a plain function of a Go function, and its contract.
namespace Go.Proofs.Ytojpibpjieanhaa.X
open Go.RowKit Go.Proofs.YtojpibpjieanhaaW.PrintWords Go.Proofs.YtojpibpjieanhaaW.PrintLast Go.Proofs.YtojpibpjieanhaaW.PrintMore
attribute [local go_sem] max2_int min2_int max_two min_two max_three min_three max_four min_four   -- for this text's walks alone
set_option linter.unusedVariables false
set_option linter.unusedSimpArgs false
def impl_isDelay.f (a0 : Int) : Option (Bool) := (impl_within.f a0 0 100).bind fun t806 => (some t806)
set_option maxHeartbeats 8000000 in
set_option maxRecDepth 100000 in
theorem impl_isDelay.calls (a0 : Int) (r : Bool) (w : World) (h : impl_isDelay.f a0 = some r) :
  Calls Try.prog 82 #[.int .i64 a0] w fun e w' => e = .returned (.bool r) ∧ Drawn0 w w' := by
 have H : ((impl_within.f a0 0 100).bind fun t806 => (some t806)) = some r := h
 clear h
 replace H := Option.bind_eq_some_iff.mp H
 obtain ⟨t806, A20, H⟩ := H
 replace H : (some t806) = some r := H
 have A2 := Aside0.mk A20
 clear A20
 obtain rfl := Option.some.inj H
 go_enter Try.func82, Try.ntmps82
 go_wp2_with (first | ((with_reducible refine gate_callee (f := 47) rfl ?_); refine goesL_ (some 4) rfl rfl Try.func47 (by kernel_rfl) rfl #[.int .i64 a0, .int .i64 0, .int .i64 100] rfl (by (try simp only [List.map_toArray, List.map_cons, List.map_nil]); first | done | rfl | (simp only [List.length_drop, List.length_take]; rfl)) ?_; (with_reducible refine (impl_within.calls a0 0 100 t806 _ A2.out).mono ?_); rintro e w' ⟨rfl, ⟨nd, rfl⟩⟩; refine ⟨_, rfl, ?_⟩))
 go_ret
 exact ⟨by first | rfl | (simp; done) | (simp [*]; done), by repeat (first | exact Drawn0.refl _ | apply Drawn0.step)⟩
end Go.Proofs.Ytojpibpjieanhaa.X
end
section
-- Written by a program of this session out of the kit's print of the loaded functions: a plain function of a Go function, and its contract.
namespace Go.Proofs.Ytojpibpjieanhaa.X
open Go.RowKit Go.Proofs.YtojpibpjieanhaaW.PrintWords Go.Proofs.YtojpibpjieanhaaW.PrintLast Go.Proofs.YtojpibpjieanhaaW.PrintMore
attribute [local go_sem] max2_int min2_int max_two min_two max_three min_three max_four min_four   -- for this text's walks alone
set_option linter.unusedVariables false
set_option linter.unusedSimpArgs false
class C_impl_Wire_102 where
 f : Int → Int → Int → Option Bool
section
variable [C_impl_Wire_102]
def impl_Wire_102.l0 : Nat → List (S55) → Int → Int → Option (Int)
 | 0, _, _, _ => none
 | k + 1, x0, x7, x8 => if x8 < x7 then (if 0 ≤ x8 then (if x8 < (x0.length : Int) then ((C_impl_Wire_102.f ((rd_T55 x0 x8).f0) ((rd_T55 x0 x8).f1) ((rd_T55 x0 x8).f2)).bind fun t244 => (if t244 = true then (some x8) else (impl_Wire_102.l0 k x0 x7 (wrap64 (x8 + 1))))) else (none)) else (none)) else (some (-1))
def impl_Wire_102.f (k : Nat) (l0 : List (S55)) (a1 : Int) : Option (Int) := impl_Wire_102.l0 k l0 (l0.length : Int) 0
theorem impl_Wire_102.mono_l : ∀ k, (∀ y0 y1 y2, LeO (impl_Wire_102.l0 k y0 y1 y2) (impl_Wire_102.l0 (k + 1) y0 y1 y2))
 | 0 => fun _ _ _ r h => by simp [impl_Wire_102.l0] at h
 | k + 1 => by
  have ih0 := impl_Wire_102.mono_l k
  ·intro y0 y1 y2
   unfold impl_Wire_102.l0
   repeat' first
   | (with_reducible exact ih0 _ _ _)
   | (with_reducible exact LeO.refl _)
   | (with_reducible exact LeO.none _)
   | (with_reducible refine LeO.ite ?_ ?_)
   | (with_reducible refine LeO.bind ?_ (fun _ => ?_))
   | exact ih0 _ _ _
   | exact LeO.none _
   | refine LeO.ite ?_ ?_
   | refine LeO.bind ?_ (fun _ => ?_)
theorem impl_Wire_102.mono : ∀ a0 a1 k, LeO (impl_Wire_102.f k a0 a1) (impl_Wire_102.f (k + 1) a0 a1) := by
 intro a0 a1 k
 have ih0 := impl_Wire_102.mono_l k
 unfold impl_Wire_102.f
 repeat' first
   | (with_reducible exact ih0 _ _ _)
   | (with_reducible exact LeO.refl _)
   | (with_reducible exact LeO.none _)
   | (with_reducible refine LeO.ite ?_ ?_)
   | (with_reducible refine LeO.bind ?_ (fun _ => ?_))
   | exact ih0 _ _ _
   | exact LeO.none _
   | refine LeO.ite ?_ ?_
   | refine LeO.bind ?_ (fun _ => ?_)
set_option maxHeartbeats 8000000 in
set_option maxRecDepth 100000 in
theorem impl_Wire_102.calls (k : Nat) (A0 : Option Addr) (c0 : Nat) (l0 : List (S55)) (a1 : Int) (r : Int) (cf : Nat) (cfn : Func) (caps : Array Value) (hcf : CloIs Try.prog cf cfn) (w : World) (hcl : ∀ x0 x1 x2 r W, C_impl_Wire_102.f x0 x1 x2 = some r → Below w.heap.size w W → Calls Try.prog cf (#[.agg #[.int .i64 x0, .int .i64 x1, .int .i64 x2]] ++ caps) W fun e w' => e = .returned (.bool r) ∧ Below W.heap.size W w') (hr0 : Kd.C k55 w A0 l0.length l0) (hc0 : l0.length ≤ c0) (h : impl_Wire_102.f k l0 a1 = some r) :
  Calls Try.prog 102 #[.slice A0 l0.length c0, .func (.func cf) #[] caps] w fun e w' => e = .returned (.int .i64 r) ∧ Below w.heap.size w w' := by
 have HCF := Aside0.mk hcf
 have HCL := Aside0.mk hcl
 clear hcf hcl
 have hu55 := Try.underlying55
 have HR0 := Aside0.mk hr0
 have HC0 := Aside0.mk hc0
 clear hr0 hc0
 have HB := Aside0.mk (Below.refl w.heap.size w)
 have H : (impl_Wire_102.l0 k l0 (l0.length : Int) 0) = some r := h
 clear h
 have H' := Aside0.mk H
 clear H
 go_enter Try.func102, Try.ntmps102
 go_wp2
 go_loopg [8] k (fun kq v8 w' => ∃ (x8_1 : Int), v8 = .int .i64 x8_1 ∧ Aside0 (impl_Wire_102.l0 kq l0 (l0.length : Int) x8_1 = some r) ∧ Aside0 (kq ≤ k) ∧ Aside0 (Below w.heap.size w w'))
 case atStart => exact ⟨(0), (by first | rfl | (simp; done) | (simp [*]; done)), H', ⟨Nat.le_refl _⟩, ⟨by repeat (first | (with_reducible first | exact HB.out | apply below_alloc | apply pw_below_drewN | apply below_drew1) | exact HB.out)⟩⟩
 case round =>
  clear H'
  try clear c1
  try clear p2
  obtain ⟨x8_1, rfl, HA, HK1, HB⟩ := hrel
  cases gk with
  | zero => exact absurd HA.out (by simp [impl_Wire_102.l0])
  | succ k1 =>
   have H := HA.out
   clear HA
   simp only [impl_Wire_102.l0] at H
   by_cases c3 : x8_1 < (l0.length : Int)
   ·rw [if_pos c3] at H
    have c3b0 : decide (x8_1 < (l0.length : Int)) = true := decide_eq_true c3
    clear c3
    by_cases c4 : 0 ≤ x8_1
    ·rw [if_pos c4] at H
     have c4b0 : decide (0 ≤ x8_1) = true := decide_eq_true c4
     clear c4
     by_cases c5 : x8_1 < (l0.length : Int)
     ·rw [if_pos c5] at H
      have c5b0 : decide (x8_1 < (l0.length : Int)) = true := decide_eq_true c5
      clear c5
      replace H := Option.bind_eq_some_iff.mp H
      obtain ⟨t244, A60, H⟩ := H
      replace H : (if t244 = true then (some x8_1) else (impl_Wire_102.l0 k1 l0 (l0.length : Int) (wrap64 (x8_1 + 1)))) = some r := H
      have A6 := Aside0.mk A60
      clear A60
      by_cases c7 : t244 = true
      ·subst c7
       have H1 : (some x8_1) = some r := by rw [if_pos rfl] at H; exact H
       clear H
       have H := H1
       clear H1
       obtain rfl := Option.some.inj H
       have p243 : 0 ≤ (x8_1 : Int) := of_decide_eq_true (by first | (with_reducible assumption) | assumption)
       have q243 : x8_1 < (l0.length : Int) := of_decide_eq_true (by first | (with_reducible assumption) | assumption)
       obtain ⟨ad243, e243, hx243_0, hx243_1, hx243_2⟩ := at_T55 HR0.out x8_1 p243 q243
       cases e243
       replace hx243_0 := (HB.out.cell (World.block_lt_of_cell? w _ hx243_0)).trans hx243_0
       replace hx243_1 := (HB.out.cell (World.block_lt_of_cell? w _ hx243_1)).trans hx243_1
       replace hx243_2 := (HB.out.cell (World.block_lt_of_cell? w _ hx243_2)).trans hx243_2
       replace p243 := eq_true p243
       replace q243 := eq_true q243
       go_wp2_with (first | ((with_reducible refine gate_dst (N := 16) rfl ?_); refine goesV_ (some 16) rfl rfl HCF.out.hf HCF.out.hname HCF.out.hb #[.agg #[.int .i64 ((rd_T55 l0 x8_1).f0), .int .i64 ((rd_T55 l0 x8_1).f1), .int .i64 ((rd_T55 l0 x8_1).f2)]] rfl rfl (by (try simp only [List.map_toArray, List.map_cons, List.map_nil]); first | done | rfl | (simp only [List.length_drop, List.length_take]; rfl)) ?_; (refine (HCL.out ((rd_T55 l0 x8_1).f0) ((rd_T55 l0 x8_1).f1) ((rd_T55 l0 x8_1).f2) true _ A6.out (by repeat (first | (with_reducible first | exact HB.out | apply below_alloc | apply pw_below_drewN | apply below_drew1) | exact HB.out | exact Below.refl _ _))).mono ?_); rintro e w8 ⟨rfl, hb⟩; refine ⟨_, rfl, ?_⟩; have n0_ := Aside0.mk (below_step (by repeat (first | (with_reducible first | exact HB.out | apply below_alloc | apply pw_below_drewN | apply below_drew1) | exact HB.out)) hb); clear HB; have HB := n0_; clear n0_; (try clear hb); (try clear hb2); (try clear hk); (try clear hi)))
       go_ret
       exact ⟨by first | rfl | (simp [errW_none, errW_some] <;> rfl) | (simp [*, errW_none, errW_some] <;> rfl), by repeat (first | (with_reducible first | exact HB.out | apply below_alloc | apply pw_below_drewN | apply below_drew1) | exact HB.out)⟩
      ·replace c7 := Bool.eq_false_iff.mpr c7
       subst c7
       have H1 : (impl_Wire_102.l0 k1 l0 (l0.length : Int) (wrap64 (x8_1 + 1))) = some r := by rw [if_neg (show ¬ (false = true) by decide)] at H; exact H
       clear H
       have H := H1
       clear H1
       have H' := Aside0.mk H
       clear H
       have p243 : 0 ≤ (x8_1 : Int) := of_decide_eq_true (by first | (with_reducible assumption) | assumption)
       have q243 : x8_1 < (l0.length : Int) := of_decide_eq_true (by first | (with_reducible assumption) | assumption)
       obtain ⟨ad243, e243, hx243_0, hx243_1, hx243_2⟩ := at_T55 HR0.out x8_1 p243 q243
       cases e243
       replace hx243_0 := (HB.out.cell (World.block_lt_of_cell? w _ hx243_0)).trans hx243_0
       replace hx243_1 := (HB.out.cell (World.block_lt_of_cell? w _ hx243_1)).trans hx243_1
       replace hx243_2 := (HB.out.cell (World.block_lt_of_cell? w _ hx243_2)).trans hx243_2
       replace p243 := eq_true p243
       replace q243 := eq_true q243
       go_wp2_with (first | ((with_reducible refine gate_dst (N := 16) rfl ?_); refine goesV_ (some 16) rfl rfl HCF.out.hf HCF.out.hname HCF.out.hb #[.agg #[.int .i64 ((rd_T55 l0 x8_1).f0), .int .i64 ((rd_T55 l0 x8_1).f1), .int .i64 ((rd_T55 l0 x8_1).f2)]] rfl rfl (by (try simp only [List.map_toArray, List.map_cons, List.map_nil]); first | done | rfl | (simp only [List.length_drop, List.length_take]; rfl)) ?_; (refine (HCL.out ((rd_T55 l0 x8_1).f0) ((rd_T55 l0 x8_1).f1) ((rd_T55 l0 x8_1).f2) false _ A6.out (by repeat (first | (with_reducible first | exact HB.out | apply below_alloc | apply pw_below_drewN | apply below_drew1) | exact HB.out | exact Below.refl _ _))).mono ?_); rintro e w9 ⟨rfl, hb⟩; refine ⟨_, rfl, ?_⟩; have n0_ := Aside0.mk (below_step (by repeat (first | (with_reducible first | exact HB.out | apply below_alloc | apply pw_below_drewN | apply below_drew1) | exact HB.out)) hb); clear HB; have HB := n0_; clear n0_; (try clear hb); (try clear hb2); (try clear hk); (try clear hi)))
       go_roundg k1
       case measure => have := HK1.out; omega
       case rel => exact ⟨(wrap64 (x8_1 + 1)), (by first | rfl | (simp; done) | (simp [*]; done)), H', ⟨by have := HK1.out; omega⟩, ⟨by repeat (first | (with_reducible first | exact HB.out | apply below_alloc | apply pw_below_drewN | apply below_drew1) | exact HB.out)⟩⟩
     ·rw [if_neg c5] at H
      exact absurd H (by simp)
    ·rw [if_neg c4] at H
     exact absurd H (by simp)
   ·rw [if_neg c3] at H
    have c3b0 : decide (x8_1 < (l0.length : Int)) = false := decide_eq_false c3
    clear c3
    obtain rfl := Option.some.inj H
    go_wp2
    go_ret
    exact ⟨by first | rfl | (simp [errW_none, errW_some] <;> rfl) | (simp [*, errW_none, errW_some] <;> rfl), by repeat (first | (with_reducible first | exact HB.out | apply below_alloc | apply pw_below_drewN | apply below_drew1) | exact HB.out)⟩
end
end Go.Proofs.Ytojpibpjieanhaa.X
end
section
namespace Go.Proofs.Ytojpibpjieanhaa.X
open Go.RowKit Go.Proofs.YtojpibpjieanhaaW.PrintWords Go.Proofs.YtojpibpjieanhaaW.PrintLast Go.Proofs.YtojpibpjieanhaaW.PrintMore
set_option linter.unusedVariables false
set_option linter.unusedSimpArgs false
set_option maxHeartbeats 4000000 in
set_option maxRecDepth 100000 in
theorem has76 [C_slices_IndexFunc_int64_int64] (k : Nat) (A : Option Addr) (c : Nat) (l : List Int) (r : Int) (cf : Nat) (cfn : Func) (caps : Array Value) (hcf : CloIs Try.prog cf cfn) (w : World)
    (hcl : ∀ x r W, C_slices_IndexFunc_int64_int64.f x = some r → Below w.heap.size w W → Calls Try.prog cf (#[.int .i64 x] ++ caps) W fun e w' => e = .returned (.bool r) ∧ Drawn0 W w')
    (hr : Kd.C (Kd.int .i64) w A l.length l) (hc : l.length ≤ c) (h : slices_IndexFunc_int64_int64.f k l 0 = some r) :
    Calls Try.prog 76 #[.slice A l.length c, .func (.func cf) #[] caps] w fun e w' => e = .returned (.bool (decide (r ≥ 0))) ∧ Drawn0 w w' := by
  have H := Aside0.mk h
  have HR := Aside0.mk hr
  have HC := Aside0.mk hc
  have HF := Aside0.mk hcf
  have HL := Aside0.mk hcl
  clear h hr hc hcf hcl
  have HD := Aside0.mk (Drawn0.refl w)
  go_enter Try.func76, Try.ntmps76
  go_wp2_with (first
    | (go_at_call 99; refine (slices_IndexFunc_int64_int64.calls k A c l 0 r cf cfn caps HF.out _ HL.out HR.out HC.out H.out).mono ?_; rintro e wn ⟨rfl, hb⟩; have n0_ := Aside0.mk (drawn_trans HD.out hb); clear HD hb; have HD := n0_; clear n0_))
  go_ret
  exact ⟨rfl, HD.out⟩
set_option maxHeartbeats 4000000 in
set_option maxRecDepth 100000 in
theorem has83 [C_impl_Wire_102] (k : Nat) (A : Option Addr) (c : Nat) (l : List S55) (r : Int) (cf : Nat) (cfn : Func) (caps : Array Value) (hcf : CloIs Try.prog cf cfn) (w : World)
    (hcl : ∀ x0 x1 x2 r W, C_impl_Wire_102.f x0 x1 x2 = some r → Below w.heap.size w W → Calls Try.prog cf (#[.agg #[.int .i64 x0, .int .i64 x1, .int .i64 x2]] ++ caps) W fun e w' => e = .returned (.bool r) ∧ Below W.heap.size W w')
    (hr : Kd.C k55 w A l.length l) (hc : l.length ≤ c) (h : impl_Wire_102.f k l 0 = some r) :
    Calls Try.prog 83 #[.slice A l.length c, .func (.func cf) #[] caps] w fun e w' => e = .returned (.bool (decide (r ≥ 0))) ∧ Below w.heap.size w w' := by
  have H := Aside0.mk h
  have HR := Aside0.mk hr
  have HC := Aside0.mk hc
  have HF := Aside0.mk hcf
  have HL := Aside0.mk hcl
  clear h hr hc hcf hcl
  have HB := Aside0.mk (Below.refl w.heap.size w)
  go_enter Try.func83, Try.ntmps83
  go_wp2_with (first
    | (go_at_call 102; refine (impl_Wire_102.calls k A c l 0 r cf cfn caps HF.out _ HL.out HR.out HC.out H.out).mono ?_; rintro e wn ⟨rfl, hb⟩; have n0_ := Aside0.mk (below_step HB.out hb); clear HB hb; have HB := n0_; clear n0_))
  go_ret
  exact ⟨rfl, HB.out⟩
abbrev isDelC : C_slices_IndexFunc_int64_int64 := ⟨fun x => (impl_isDelay.f x).bind fun b => some (!b)⟩
set_option maxHeartbeats 4000000 in
set_option maxRecDepth 100000 in
theorem IsDelClo (x : Int) (b : Bool) (w : World) (h : impl_isDelay.f x = some b) : Calls Try.prog 81 #[.int .i64 x] w fun e w' => e = .returned (.bool !b) ∧ Drawn0 w w' := by
  have H := Aside0.mk h
  clear h
  have HD := Aside0.mk (Drawn0.refl w)
  go_enter Try.func81, Try.ntmps81
  go_wp2_with (first
    | (go_at_call 82; (with_reducible refine (impl_isDelay.calls x b _ H.out).mono ?_); rintro e wn ⟨rfl, hb⟩; have n0_ := Aside0.mk (drawn_trans HD.out hb); clear HD hb; have HD := n0_; clear n0_))
  go_ret
  exact ⟨rfl, HD.out⟩
theorem IsDelCl (w : World) : ∀ x r W, isDelC.f x = some r → Below w.heap.size w W → Calls Try.prog 81 (#[.int .i64 x] ++ #[]) W fun e w' => e = .returned (.bool r) ∧ Drawn0 W w' := by
  intro x r W hx hW
  obtain ⟨b, hb, hx⟩ := Option.bind_eq_some_iff.mp hx
  obtain rfl := Option.some.inj hx
  exact IsDelClo x b W hb
def badWire (n f t c : Int) : Bool := !(decide (0 ≤ f) && decide (f ≤ n - 1)) || (!(decide (0 ≤ t) && decide (t ≤ n - 1)) || !(decide (0 ≤ c) && decide (c ≤ 20)))
abbrev wireC (n : Int) : C_impl_Wire_102 := ⟨fun f t c => some (badWire n f t c)⟩
theorem within_w (a b c : Int) : impl_within.f a b c = some (decide (b ≤ a) && decide (a ≤ c)) := by
  unfold impl_within.f; by_cases h : a ≥ b <;> simp [h] <;> omega
set_option maxHeartbeats 4000000 in
set_option maxRecDepth 100000 in
theorem WireClo_1 (x0 x1 x2 n : Int) (g1 : Nat) (n0 : 1 ≤ n) (n8 : n ≤ 8) (w : World) (b1 : w.heap[g1]? = some (.cells #[.int .i64 n] 2 (0, 0))) (h1 : impl_within.f x0 0 (n - 1) = some false) :
    Calls Try.prog 84 #[.agg #[.int .i64 x0, .int .i64 x1, .int .i64 x2], .pointer (some ⟨g1, 0, none⟩)] w fun e w' => e = .returned (.bool true) ∧ Below w.heap.size w w' := by
  have Hb1 := Aside0.mk b1
  have Hh1 := Aside0.mk h1
  clear b1 h1
  have HB := Aside0.mk (Below.refl w.heap.size w)
  have BK1 := Hb1
  have e1 : IntKind.i64.wrap (n - 1) = n - 1 := IntWalk.i64_in _ ⟨by omega, by omega⟩
  go_enter Try.func84, Try.ntmps84
  go_wp2_with (first
    | ((with_reducible refine gate_dst (N := 2) rfl ?_); refine box_event ?hg (N := 2) ?hd (cs := #[.int .i64 x0, .int .i64 x1, .int .i64 x2]) (t := 55) ?hr ?_; (case hd => rfl); (case hg => rfl); (case hr => first | (go_simp; done) | (go_simp; rfl)); intro g2 hg wn hbox hb; have GE2 := Aside0.mk (by rw [hg]; exact below_size HB.out : w.heap.size ≤ g2); have hbx := hb; clear hg; have BK20 := Aside0.mk hbox; clear hbox; have n0_ := Aside0.mk (below_step HB.out hb); clear HB  hb; have HB := n0_; clear n0_ ; have BK2 := BK20; clear BK20; have c2_0 : wn.cell? ⟨g2, 0, none⟩ = some (.int .i64 x0) := (blk_cell BK2.out 0).trans rfl; have c2_1 : wn.cell? ⟨g2, 1, none⟩ = some (.int .i64 x1) := (blk_cell BK2.out 1).trans rfl; have c2_2 : wn.cell? ⟨g2, 2, none⟩ = some (.int .i64 x2) := (blk_cell BK2.out 2).trans rfl; have n1_ := Aside0.mk (blk_below BK1.out hbx); clear hbx BK1; have BK1 := n1_; clear n1_; have c1_0 : wn.cell? ⟨g1, 0, none⟩ = some (.int .i64 n) := (blk_cell BK1.out 0).trans rfl)
    | (go_at_call 47; (with_reducible refine (impl_within.calls x0 0 (n - 1) false _ Hh1.out).mono ?_); rintro e wn ⟨rfl, hb0⟩; have hb := to_below_d hb0; have n1_ := Aside0.mk (blk_below BK1.out (hb0.below)); clear hb0; have n0_ := Aside0.mk (below_step HB.out hb); have m2_ := Aside0.mk (blk_below BK2.out hb); clear HB BK2 hb; have HB := n0_; have BK2 := m2_; clear n0_ m2_; have c2_0 : wn.cell? ⟨g2, 0, none⟩ = some (.int .i64 x0) := (blk_cell BK2.out 0).trans rfl; have c2_1 : wn.cell? ⟨g2, 1, none⟩ = some (.int .i64 x1) := (blk_cell BK2.out 1).trans rfl; have c2_2 : wn.cell? ⟨g2, 2, none⟩ = some (.int .i64 x2) := (blk_cell BK2.out 2).trans rfl; clear BK1; have BK1 := n1_; clear n1_; have c1_0 : wn.cell? ⟨g1, 0, none⟩ = some (.int .i64 n) := (blk_cell BK1.out 0).trans rfl))
  go_ret
  exact ⟨rfl, HB.out⟩
set_option maxHeartbeats 4000000 in
set_option maxRecDepth 100000 in
theorem WireClo_2 (x0 x1 x2 n : Int) (g1 : Nat) (n0 : 1 ≤ n) (n8 : n ≤ 8) (w : World) (b1 : w.heap[g1]? = some (.cells #[.int .i64 n] 2 (0, 0))) (h1 : impl_within.f x0 0 (n - 1) = some true) (h2 : impl_within.f x1 0 (n - 1) = some false) :
    Calls Try.prog 84 #[.agg #[.int .i64 x0, .int .i64 x1, .int .i64 x2], .pointer (some ⟨g1, 0, none⟩)] w fun e w' => e = .returned (.bool true) ∧ Below w.heap.size w w' := by
  have Hb1 := Aside0.mk b1
  have Hh1 := Aside0.mk h1
  have Hh2 := Aside0.mk h2
  clear b1 h1 h2
  have HB := Aside0.mk (Below.refl w.heap.size w)
  have BK1 := Hb1
  have e1 : IntKind.i64.wrap (n - 1) = n - 1 := IntWalk.i64_in _ ⟨by omega, by omega⟩
  go_enter Try.func84, Try.ntmps84
  go_wp2_with (first
    | ((with_reducible refine gate_dst (N := 2) rfl ?_); refine box_event ?hg (N := 2) ?hd (cs := #[.int .i64 x0, .int .i64 x1, .int .i64 x2]) (t := 55) ?hr ?_; (case hd => rfl); (case hg => rfl); (case hr => first | (go_simp; done) | (go_simp; rfl)); intro g2 hg wn hbox hb; have GE2 := Aside0.mk (by rw [hg]; exact below_size HB.out : w.heap.size ≤ g2); have hbx := hb; clear hg; have BK20 := Aside0.mk hbox; clear hbox; have n0_ := Aside0.mk (below_step HB.out hb); clear HB  hb; have HB := n0_; clear n0_ ; have BK2 := BK20; clear BK20; have c2_0 : wn.cell? ⟨g2, 0, none⟩ = some (.int .i64 x0) := (blk_cell BK2.out 0).trans rfl; have c2_1 : wn.cell? ⟨g2, 1, none⟩ = some (.int .i64 x1) := (blk_cell BK2.out 1).trans rfl; have c2_2 : wn.cell? ⟨g2, 2, none⟩ = some (.int .i64 x2) := (blk_cell BK2.out 2).trans rfl; have n1_ := Aside0.mk (blk_below BK1.out hbx); clear hbx BK1; have BK1 := n1_; clear n1_; have c1_0 : wn.cell? ⟨g1, 0, none⟩ = some (.int .i64 n) := (blk_cell BK1.out 0).trans rfl)
    | (go_at_call 47; (with_reducible refine (impl_within.calls x0 0 (n - 1) true _ Hh1.out).mono ?_); rintro e wn ⟨rfl, hb0⟩; have hb := to_below_d hb0; have n1_ := Aside0.mk (blk_below BK1.out (hb0.below)); clear hb0; have n0_ := Aside0.mk (below_step HB.out hb); have m2_ := Aside0.mk (blk_below BK2.out hb); clear HB BK2 hb; have HB := n0_; have BK2 := m2_; clear n0_ m2_; have c2_0 : wn.cell? ⟨g2, 0, none⟩ = some (.int .i64 x0) := (blk_cell BK2.out 0).trans rfl; have c2_1 : wn.cell? ⟨g2, 1, none⟩ = some (.int .i64 x1) := (blk_cell BK2.out 1).trans rfl; have c2_2 : wn.cell? ⟨g2, 2, none⟩ = some (.int .i64 x2) := (blk_cell BK2.out 2).trans rfl; clear BK1; have BK1 := n1_; clear n1_; have c1_0 : wn.cell? ⟨g1, 0, none⟩ = some (.int .i64 n) := (blk_cell BK1.out 0).trans rfl)
    | (go_at_call 47; (with_reducible refine (impl_within.calls x1 0 (n - 1) false _ Hh2.out).mono ?_); rintro e wn ⟨rfl, hb0⟩; have hb := to_below_d hb0; have n1_ := Aside0.mk (blk_below BK1.out (hb0.below)); clear hb0; have n0_ := Aside0.mk (below_step HB.out hb); have m2_ := Aside0.mk (blk_below BK2.out hb); clear HB BK2 hb; have HB := n0_; have BK2 := m2_; clear n0_ m2_; have c2_0 : wn.cell? ⟨g2, 0, none⟩ = some (.int .i64 x0) := (blk_cell BK2.out 0).trans rfl; have c2_1 : wn.cell? ⟨g2, 1, none⟩ = some (.int .i64 x1) := (blk_cell BK2.out 1).trans rfl; have c2_2 : wn.cell? ⟨g2, 2, none⟩ = some (.int .i64 x2) := (blk_cell BK2.out 2).trans rfl; clear BK1; have BK1 := n1_; clear n1_; have c1_0 : wn.cell? ⟨g1, 0, none⟩ = some (.int .i64 n) := (blk_cell BK1.out 0).trans rfl))
  go_ret
  exact ⟨rfl, HB.out⟩
set_option maxHeartbeats 4000000 in
set_option maxRecDepth 100000 in
theorem WireClo_3 (x0 x1 x2 n : Int) (g1 : Nat) (n0 : 1 ≤ n) (n8 : n ≤ 8) (b : Bool) (w : World) (b1 : w.heap[g1]? = some (.cells #[.int .i64 n] 2 (0, 0))) (h1 : impl_within.f x0 0 (n - 1) = some true) (h2 : impl_within.f x1 0 (n - 1) = some true) (h3 : impl_within.f x2 0 20 = some b) :
    Calls Try.prog 84 #[.agg #[.int .i64 x0, .int .i64 x1, .int .i64 x2], .pointer (some ⟨g1, 0, none⟩)] w fun e w' => e = .returned (.bool (!b)) ∧ Below w.heap.size w w' := by
  have Hb1 := Aside0.mk b1
  have Hh1 := Aside0.mk h1
  have Hh2 := Aside0.mk h2
  have Hh3 := Aside0.mk h3
  clear b1 h1 h2 h3
  have HB := Aside0.mk (Below.refl w.heap.size w)
  have BK1 := Hb1
  have e1 : IntKind.i64.wrap (n - 1) = n - 1 := IntWalk.i64_in _ ⟨by omega, by omega⟩
  go_enter Try.func84, Try.ntmps84
  go_wp2_with (first
    | ((with_reducible refine gate_dst (N := 2) rfl ?_); refine box_event ?hg (N := 2) ?hd (cs := #[.int .i64 x0, .int .i64 x1, .int .i64 x2]) (t := 55) ?hr ?_; (case hd => rfl); (case hg => rfl); (case hr => first | (go_simp; done) | (go_simp; rfl)); intro g2 hg wn hbox hb; have GE2 := Aside0.mk (by rw [hg]; exact below_size HB.out : w.heap.size ≤ g2); have hbx := hb; clear hg; have BK20 := Aside0.mk hbox; clear hbox; have n0_ := Aside0.mk (below_step HB.out hb); clear HB  hb; have HB := n0_; clear n0_ ; have BK2 := BK20; clear BK20; have c2_0 : wn.cell? ⟨g2, 0, none⟩ = some (.int .i64 x0) := (blk_cell BK2.out 0).trans rfl; have c2_1 : wn.cell? ⟨g2, 1, none⟩ = some (.int .i64 x1) := (blk_cell BK2.out 1).trans rfl; have c2_2 : wn.cell? ⟨g2, 2, none⟩ = some (.int .i64 x2) := (blk_cell BK2.out 2).trans rfl; have n1_ := Aside0.mk (blk_below BK1.out hbx); clear hbx BK1; have BK1 := n1_; clear n1_; have c1_0 : wn.cell? ⟨g1, 0, none⟩ = some (.int .i64 n) := (blk_cell BK1.out 0).trans rfl)
    | (go_at_call 47; (with_reducible refine (impl_within.calls x0 0 (n - 1) true _ Hh1.out).mono ?_); rintro e wn ⟨rfl, hb0⟩; have hb := to_below_d hb0; have n1_ := Aside0.mk (blk_below BK1.out (hb0.below)); clear hb0; have n0_ := Aside0.mk (below_step HB.out hb); have m2_ := Aside0.mk (blk_below BK2.out hb); clear HB BK2 hb; have HB := n0_; have BK2 := m2_; clear n0_ m2_; have c2_0 : wn.cell? ⟨g2, 0, none⟩ = some (.int .i64 x0) := (blk_cell BK2.out 0).trans rfl; have c2_1 : wn.cell? ⟨g2, 1, none⟩ = some (.int .i64 x1) := (blk_cell BK2.out 1).trans rfl; have c2_2 : wn.cell? ⟨g2, 2, none⟩ = some (.int .i64 x2) := (blk_cell BK2.out 2).trans rfl; clear BK1; have BK1 := n1_; clear n1_; have c1_0 : wn.cell? ⟨g1, 0, none⟩ = some (.int .i64 n) := (blk_cell BK1.out 0).trans rfl)
    | (go_at_call 47; (with_reducible refine (impl_within.calls x1 0 (n - 1) true _ Hh2.out).mono ?_); rintro e wn ⟨rfl, hb0⟩; have hb := to_below_d hb0; have n1_ := Aside0.mk (blk_below BK1.out (hb0.below)); clear hb0; have n0_ := Aside0.mk (below_step HB.out hb); have m2_ := Aside0.mk (blk_below BK2.out hb); clear HB BK2 hb; have HB := n0_; have BK2 := m2_; clear n0_ m2_; have c2_0 : wn.cell? ⟨g2, 0, none⟩ = some (.int .i64 x0) := (blk_cell BK2.out 0).trans rfl; have c2_1 : wn.cell? ⟨g2, 1, none⟩ = some (.int .i64 x1) := (blk_cell BK2.out 1).trans rfl; have c2_2 : wn.cell? ⟨g2, 2, none⟩ = some (.int .i64 x2) := (blk_cell BK2.out 2).trans rfl; clear BK1; have BK1 := n1_; clear n1_; have c1_0 : wn.cell? ⟨g1, 0, none⟩ = some (.int .i64 n) := (blk_cell BK1.out 0).trans rfl)
    | (go_at_call 47; (with_reducible refine (impl_within.calls x2 0 20 b _ Hh3.out).mono ?_); rintro e wn ⟨rfl, hb0⟩; have hb := to_below_d hb0; have n1_ := Aside0.mk (blk_below BK1.out (hb0.below)); clear hb0; have n0_ := Aside0.mk (below_step HB.out hb); have m2_ := Aside0.mk (blk_below BK2.out hb); clear HB BK2 hb; have HB := n0_; have BK2 := m2_; clear n0_ m2_; have c2_0 : wn.cell? ⟨g2, 0, none⟩ = some (.int .i64 x0) := (blk_cell BK2.out 0).trans rfl; have c2_1 : wn.cell? ⟨g2, 1, none⟩ = some (.int .i64 x1) := (blk_cell BK2.out 1).trans rfl; have c2_2 : wn.cell? ⟨g2, 2, none⟩ = some (.int .i64 x2) := (blk_cell BK2.out 2).trans rfl; clear BK1; have BK1 := n1_; clear n1_; have c1_0 : wn.cell? ⟨g1, 0, none⟩ = some (.int .i64 n) := (blk_cell BK1.out 0).trans rfl))
  go_ret
  exact ⟨rfl, HB.out⟩
theorem WireCl (n : Int) (g1 : Nat) (w : World) (n0 : 1 ≤ n) (n8 : n ≤ 8) (h1 : w.heap[g1]? = some (.cells #[.int .i64 n] 2 (0, 0))) :
    ∀ x0 x1 x2 r W, (wireC n).f x0 x1 x2 = some r → Below w.heap.size w W → Calls Try.prog 84 (#[.agg #[.int .i64 x0, .int .i64 x1, .int .i64 x2]] ++ #[.pointer (some ⟨g1, 0, none⟩)]) W fun e w' => e = .returned (.bool r) ∧ Below W.heap.size W w' := by
  intro x0 x1 x2 r W hx hW
  obtain rfl := Option.some.inj hx
  have hg := blk_below h1 hW
  unfold badWire
  cases q1 : (decide (0 ≤ x0) && decide (x0 ≤ n - 1)) with
  | false => exact WireClo_1 x0 x1 x2 n g1 n0 n8 W hg (by rw [within_w, q1])
  | true =>
    cases q2 : (decide (0 ≤ x1) && decide (x1 ≤ n - 1)) with
    | false => exact WireClo_2 x0 x1 x2 n g1 n0 n8 W hg (by rw [within_w, q1]) (by rw [within_w, q2])
    | true => exact WireClo_3 x0 x1 x2 n g1 n0 n8 _ W hg (by rw [within_w, q1]) (by rw [within_w, q2]) (within_w _ _ _)
set_option maxHeartbeats 4000000 in
set_option maxRecDepth 100000 in
theorem isFlow_1 (k : Nat) (A0 : Option Addr) (c0 : Nat) (l0 : List Int) (A1 : Option Addr) (c1 : Nat) (l1 : List S55) (w : World) (h1 : impl_within.f (l0.length : Int) 1 8 = some false) :
    Calls Try.prog 53 #[.agg #[.slice A0 l0.length c0, .slice A1 l1.length c1]] w fun e w' => e = .returned (.bool false) ∧ Below w.heap.size w w' := by
  have Hh1 := Aside0.mk h1
  clear h1
  have HB := Aside0.mk (Below.refl w.heap.size w)
  go_enter Try.func53, Try.ntmps53
  go_wp2_with (first
    | ((with_reducible refine gate_dst (N := 1) rfl ?_); refine box_event ?hg (N := 1) ?hd (cs := #[.slice A0 l0.length c0, .slice A1 l1.length c1]) (t := 36) ?hr ?_; (case hd => rfl); (case hg => rfl); (case hr => first | (go_simp; done) | (go_simp; rfl)); intro g1 hg wn hbox hb; have GE1 := Aside0.mk (by rw [hg]; exact below_size HB.out : w.heap.size ≤ g1); clear hg; have BK10 := Aside0.mk hbox; clear hbox; have n0_ := Aside0.mk (below_step HB.out hb); clear HB  hb; have HB := n0_; clear n0_ ; have BK1 := BK10; clear BK10; have c1_0 : wn.cell? ⟨g1, 0, none⟩ = some (.slice A0 l0.length c0) := (blk_cell BK1.out 0).trans rfl; have c1_1 : wn.cell? ⟨g1, 1, none⟩ = some (.slice A1 l1.length c1) := (blk_cell BK1.out 1).trans rfl)
    | ((with_reducible refine gate_dst (N := 3) rfl ?_); refine box_event ?hg (N := 3) ?hd (cs := #[.int .i64 0]) (t := 2) ?hr ?_; (case hd => rfl); (case hg => rfl); (case hr => first | (go_simp; done) | (go_simp; rfl)); intro g3 hg wn hbox hb; have GE3 := Aside0.mk (by rw [hg]; exact below_size HB.out : w.heap.size ≤ g3); have NE1_3 := Aside0.mk (show g1 ≠ g3 by have := blk_lt BK1.out; omega); clear hg; have BK30 := Aside0.mk hbox; clear hbox; have n0_ := Aside0.mk (below_step HB.out hb); have m1_ := Aside0.mk (blk_below BK1.out hb); clear HB BK1 hb; have HB := n0_; have BK1 := m1_; clear n0_ m1_; have c1_0 : wn.cell? ⟨g1, 0, none⟩ = some (.slice A0 l0.length c0) := (blk_cell BK1.out 0).trans rfl; have c1_1 : wn.cell? ⟨g1, 1, none⟩ = some (.slice A1 l1.length c1) := (blk_cell BK1.out 1).trans rfl; have BK3 := BK30; clear BK30; have c3_0 : wn.cell? ⟨g3, 0, none⟩ = some (.int .i64 0) := (blk_cell BK3.out 0).trans rfl; have z3_0 := blk_frozen BK3.out 0; have c1s0 : ∀ v, (wn.setCell ⟨g3, 0, none⟩ v).cell? ⟨g1, 0, none⟩ = some (.slice A0 l0.length c0) := fun v => (blk_cell (blk_far BK1.out (p := ⟨g3, 0, none⟩) NE1_3.out v) 0).trans rfl; have c1s1 : ∀ v, (wn.setCell ⟨g3, 0, none⟩ v).cell? ⟨g1, 1, none⟩ = some (.slice A1 l1.length c1) := fun v => (blk_cell (blk_far BK1.out (p := ⟨g3, 0, none⟩) NE1_3.out v) 1).trans rfl)
    | (go_at_call 47; have m1_ := Aside0.mk (blk_far BK1.out (p := ⟨g3, 0, none⟩) NE1_3.out (.int .i64 (l0.length : Int))); have m3_ := Aside0.mk (blk_put BK3.out 0 (.int .i64 (l0.length : Int)) (cs' := #[.int .i64 (l0.length : Int)]) rfl); have n0_ := Aside0.mk (below_set (j := 0) (v := .int .i64 (l0.length : Int)) HB.out GE3.out); clear HB BK1 BK3; have HB := n0_; have BK1 := m1_; have BK3 := m3_; clear n0_ m1_ m3_; (with_reducible refine (impl_within.calls (l0.length : Int) 1 8 false _ Hh1.out).mono ?_); rintro e wn ⟨rfl, hb0⟩; (first | have hb := to_below_d hb0 | have hb := to_below_b hb0); clear hb0; have n0_ := Aside0.mk (below_step HB.out hb); have m1_ := Aside0.mk (blk_below BK1.out hb); have m3_ := Aside0.mk (blk_below BK3.out hb); clear HB BK1 BK3 hb; have HB := n0_; have BK1 := m1_; have BK3 := m3_; clear n0_ m1_ m3_; have c1_0 : wn.cell? ⟨g1, 0, none⟩ = some (.slice A0 l0.length c0) := (blk_cell BK1.out 0).trans rfl; have c1_1 : wn.cell? ⟨g1, 1, none⟩ = some (.slice A1 l1.length c1) := (blk_cell BK1.out 1).trans rfl; have c3_0 : wn.cell? ⟨g3, 0, none⟩ = some (.int .i64 (l0.length : Int)) := (blk_cell BK3.out 0).trans rfl))
  go_ret
  exact ⟨rfl, HB.out⟩
set_option maxHeartbeats 4000000 in
set_option maxRecDepth 100000 in
theorem isFlow_2 (k : Nat) (A0 : Option Addr) (c0 : Nat) (l0 : List Int) (A1 : Option Addr) (c1 : Nat) (l1 : List S55)(f1 : decide (16 < l1.length) = true) (f2 : decide ((16 : Int) < (l1.length : Int)) = true) (w : World) (h1 : impl_within.f (l0.length : Int) 1 8 = some true) :
    Calls Try.prog 53 #[.agg #[.slice A0 l0.length c0, .slice A1 l1.length c1]] w fun e w' => e = .returned (.bool false) ∧ Below w.heap.size w w' := by
  have Hh1 := Aside0.mk h1
  clear h1
  have HB := Aside0.mk (Below.refl w.heap.size w)
  go_enter Try.func53, Try.ntmps53
  go_wp2_with (first
    | ((with_reducible refine gate_dst (N := 1) rfl ?_); refine box_event ?hg (N := 1) ?hd (cs := #[.slice A0 l0.length c0, .slice A1 l1.length c1]) (t := 36) ?hr ?_; (case hd => rfl); (case hg => rfl); (case hr => first | (go_simp; done) | (go_simp; rfl)); intro g1 hg wn hbox hb; have GE1 := Aside0.mk (by rw [hg]; exact below_size HB.out : w.heap.size ≤ g1); clear hg; have BK10 := Aside0.mk hbox; clear hbox; have n0_ := Aside0.mk (below_step HB.out hb); clear HB  hb; have HB := n0_; clear n0_ ; have BK1 := BK10; clear BK10; have c1_0 : wn.cell? ⟨g1, 0, none⟩ = some (.slice A0 l0.length c0) := (blk_cell BK1.out 0).trans rfl; have c1_1 : wn.cell? ⟨g1, 1, none⟩ = some (.slice A1 l1.length c1) := (blk_cell BK1.out 1).trans rfl)
    | ((with_reducible refine gate_dst (N := 3) rfl ?_); refine box_event ?hg (N := 3) ?hd (cs := #[.int .i64 0]) (t := 2) ?hr ?_; (case hd => rfl); (case hg => rfl); (case hr => first | (go_simp; done) | (go_simp; rfl)); intro g3 hg wn hbox hb; have GE3 := Aside0.mk (by rw [hg]; exact below_size HB.out : w.heap.size ≤ g3); have NE1_3 := Aside0.mk (show g1 ≠ g3 by have := blk_lt BK1.out; omega); clear hg; have BK30 := Aside0.mk hbox; clear hbox; have n0_ := Aside0.mk (below_step HB.out hb); have m1_ := Aside0.mk (blk_below BK1.out hb); clear HB BK1 hb; have HB := n0_; have BK1 := m1_; clear n0_ m1_; have c1_0 : wn.cell? ⟨g1, 0, none⟩ = some (.slice A0 l0.length c0) := (blk_cell BK1.out 0).trans rfl; have c1_1 : wn.cell? ⟨g1, 1, none⟩ = some (.slice A1 l1.length c1) := (blk_cell BK1.out 1).trans rfl; have BK3 := BK30; clear BK30; have c3_0 : wn.cell? ⟨g3, 0, none⟩ = some (.int .i64 0) := (blk_cell BK3.out 0).trans rfl; have z3_0 := blk_frozen BK3.out 0; have c1s0 : ∀ v, (wn.setCell ⟨g3, 0, none⟩ v).cell? ⟨g1, 0, none⟩ = some (.slice A0 l0.length c0) := fun v => (blk_cell (blk_far BK1.out (p := ⟨g3, 0, none⟩) NE1_3.out v) 0).trans rfl; have c1s1 : ∀ v, (wn.setCell ⟨g3, 0, none⟩ v).cell? ⟨g1, 1, none⟩ = some (.slice A1 l1.length c1) := fun v => (blk_cell (blk_far BK1.out (p := ⟨g3, 0, none⟩) NE1_3.out v) 1).trans rfl)
    | (go_at_call 47; have m1_ := Aside0.mk (blk_far BK1.out (p := ⟨g3, 0, none⟩) NE1_3.out (.int .i64 (l0.length : Int))); have m3_ := Aside0.mk (blk_put BK3.out 0 (.int .i64 (l0.length : Int)) (cs' := #[.int .i64 (l0.length : Int)]) rfl); have n0_ := Aside0.mk (below_set (j := 0) (v := .int .i64 (l0.length : Int)) HB.out GE3.out); clear HB BK1 BK3; have HB := n0_; have BK1 := m1_; have BK3 := m3_; clear n0_ m1_ m3_; (with_reducible refine (impl_within.calls (l0.length : Int) 1 8 true _ Hh1.out).mono ?_); rintro e wn ⟨rfl, hb0⟩; (first | have hb := to_below_d hb0 | have hb := to_below_b hb0); clear hb0; have n0_ := Aside0.mk (below_step HB.out hb); have m1_ := Aside0.mk (blk_below BK1.out hb); have m3_ := Aside0.mk (blk_below BK3.out hb); clear HB BK1 BK3 hb; have HB := n0_; have BK1 := m1_; have BK3 := m3_; clear n0_ m1_ m3_; have c1_0 : wn.cell? ⟨g1, 0, none⟩ = some (.slice A0 l0.length c0) := (blk_cell BK1.out 0).trans rfl; have c1_1 : wn.cell? ⟨g1, 1, none⟩ = some (.slice A1 l1.length c1) := (blk_cell BK1.out 1).trans rfl; have c3_0 : wn.cell? ⟨g3, 0, none⟩ = some (.int .i64 (l0.length : Int)) := (blk_cell BK3.out 0).trans rfl))
  go_ret
  exact ⟨rfl, HB.out⟩
set_option maxHeartbeats 4000000 in
set_option maxRecDepth 100000 in
theorem isFlow_3 (k : Nat) (A0 : Option Addr) (c0 : Nat) (l0 : List Int) (A1 : Option Addr) (c1 : Nat) (l1 : List S55) (i : Int) (f1 : decide (16 < l1.length) = false) (f2 : decide ((16 : Int) < (l1.length : Int)) = false) (w : World) (hr0 : Kd.C (Kd.int .i64) w A0 l0.length l0) (hc0 : l0.length ≤ c0) (hr1 : Kd.C k55 w A1 l1.length l1) (hc1 : l1.length ≤ c1) (h1 : impl_within.f (l0.length : Int) 1 8 = some true) (hi : @slices_IndexFunc_int64_int64.f isDelC k l0 0 = some i) (hp : decide (i ≥ 0) = true) :
    Calls Try.prog 53 #[.agg #[.slice A0 l0.length c0, .slice A1 l1.length c1]] w fun e w' => e = .returned (.bool false) ∧ Below w.heap.size w w' := by
  have Hhr0 := Aside0.mk hr0
  have Hhc0 := Aside0.mk hc0
  have Hhr1 := Aside0.mk hr1
  have Hhc1 := Aside0.mk hc1
  have Hh1 := Aside0.mk h1
  have Hhi := Aside0.mk hi
  have Hhp := Aside0.mk hp
  clear hr0 hc0 hr1 hc1 h1 hi hp
  have HB := Aside0.mk (Below.refl w.heap.size w)
  have F3 := Hhp
  go_enter Try.func53, Try.ntmps53
  go_wp2_with (first
    | ((with_reducible refine gate_dst (N := 1) rfl ?_); refine box_event ?hg (N := 1) ?hd (cs := #[.slice A0 l0.length c0, .slice A1 l1.length c1]) (t := 36) ?hr ?_; (case hd => rfl); (case hg => rfl); (case hr => first | (go_simp; done) | (go_simp; rfl)); intro g1 hg wn hbox hb; have GE1 := Aside0.mk (by rw [hg]; exact below_size HB.out : w.heap.size ≤ g1); clear hg; have BK10 := Aside0.mk hbox; clear hbox; have n0_ := Aside0.mk (below_step HB.out hb); clear HB  hb; have HB := n0_; clear n0_ ; have BK1 := BK10; clear BK10; have c1_0 : wn.cell? ⟨g1, 0, none⟩ = some (.slice A0 l0.length c0) := (blk_cell BK1.out 0).trans rfl; have c1_1 : wn.cell? ⟨g1, 1, none⟩ = some (.slice A1 l1.length c1) := (blk_cell BK1.out 1).trans rfl)
    | ((with_reducible refine gate_dst (N := 3) rfl ?_); refine box_event ?hg (N := 3) ?hd (cs := #[.int .i64 0]) (t := 2) ?hr ?_; (case hd => rfl); (case hg => rfl); (case hr => first | (go_simp; done) | (go_simp; rfl)); intro g3 hg wn hbox hb; have GE3 := Aside0.mk (by rw [hg]; exact below_size HB.out : w.heap.size ≤ g3); have NE1_3 := Aside0.mk (show g1 ≠ g3 by have := blk_lt BK1.out; omega); clear hg; have BK30 := Aside0.mk hbox; clear hbox; have n0_ := Aside0.mk (below_step HB.out hb); have m1_ := Aside0.mk (blk_below BK1.out hb); clear HB BK1 hb; have HB := n0_; have BK1 := m1_; clear n0_ m1_; have c1_0 : wn.cell? ⟨g1, 0, none⟩ = some (.slice A0 l0.length c0) := (blk_cell BK1.out 0).trans rfl; have c1_1 : wn.cell? ⟨g1, 1, none⟩ = some (.slice A1 l1.length c1) := (blk_cell BK1.out 1).trans rfl; have BK3 := BK30; clear BK30; have c3_0 : wn.cell? ⟨g3, 0, none⟩ = some (.int .i64 0) := (blk_cell BK3.out 0).trans rfl; have z3_0 := blk_frozen BK3.out 0; have c1s0 : ∀ v, (wn.setCell ⟨g3, 0, none⟩ v).cell? ⟨g1, 0, none⟩ = some (.slice A0 l0.length c0) := fun v => (blk_cell (blk_far BK1.out (p := ⟨g3, 0, none⟩) NE1_3.out v) 0).trans rfl; have c1s1 : ∀ v, (wn.setCell ⟨g3, 0, none⟩ v).cell? ⟨g1, 1, none⟩ = some (.slice A1 l1.length c1) := fun v => (blk_cell (blk_far BK1.out (p := ⟨g3, 0, none⟩) NE1_3.out v) 1).trans rfl)
    | (go_at_call 47; have m1_ := Aside0.mk (blk_far BK1.out (p := ⟨g3, 0, none⟩) NE1_3.out (.int .i64 (l0.length : Int))); have m3_ := Aside0.mk (blk_put BK3.out 0 (.int .i64 (l0.length : Int)) (cs' := #[.int .i64 (l0.length : Int)]) rfl); have n0_ := Aside0.mk (below_set (j := 0) (v := .int .i64 (l0.length : Int)) HB.out GE3.out); clear HB BK1 BK3; have HB := n0_; have BK1 := m1_; have BK3 := m3_; clear n0_ m1_ m3_; (with_reducible refine (impl_within.calls (l0.length : Int) 1 8 true _ Hh1.out).mono ?_); rintro e wn ⟨rfl, hb0⟩; (first | have hb := to_below_d hb0 | have hb := to_below_b hb0); clear hb0; have n0_ := Aside0.mk (below_step HB.out hb); have m1_ := Aside0.mk (blk_below BK1.out hb); have m3_ := Aside0.mk (blk_below BK3.out hb); clear HB BK1 BK3 hb; have HB := n0_; have BK1 := m1_; have BK3 := m3_; clear n0_ m1_ m3_; have c1_0 : wn.cell? ⟨g1, 0, none⟩ = some (.slice A0 l0.length c0) := (blk_cell BK1.out 0).trans rfl; have c1_1 : wn.cell? ⟨g1, 1, none⟩ = some (.slice A1 l1.length c1) := (blk_cell BK1.out 1).trans rfl; have c3_0 : wn.cell? ⟨g3, 0, none⟩ = some (.int .i64 (l0.length : Int)) := (blk_cell BK3.out 0).trans rfl)
    | (go_at_call 76; refine (@has76 isDelC k A0 c0 l0 i 81 Try.f81 #[] ⟨Try.func81, rfl, by kernel_rfl⟩ _ (IsDelCl _) (Kd.C_below Hhr0.out HB.out) Hhc0.out Hhi.out).mono ?_; rintro e wn ⟨he, hb0⟩; rw [F3.out] at he; subst he; have hb := to_below_d hb0; clear hb0; have n0_ := Aside0.mk (below_step HB.out hb); have m1_ := Aside0.mk (blk_below BK1.out hb); have m3_ := Aside0.mk (blk_below BK3.out hb); clear HB BK1 BK3 hb; have HB := n0_; have BK1 := m1_; have BK3 := m3_; clear n0_ m1_ m3_; have c1_0 : wn.cell? ⟨g1, 0, none⟩ = some (.slice A0 l0.length c0) := (blk_cell BK1.out 0).trans rfl; have c1_1 : wn.cell? ⟨g1, 1, none⟩ = some (.slice A1 l1.length c1) := (blk_cell BK1.out 1).trans rfl; have c3_0 : wn.cell? ⟨g3, 0, none⟩ = some (.int .i64 (l0.length : Int)) := (blk_cell BK3.out 0).trans rfl))
  go_ret
  exact ⟨rfl, HB.out⟩
set_option maxHeartbeats 4000000 in
set_option maxRecDepth 100000 in
theorem isFlow_4 (k : Nat) (A0 : Option Addr) (c0 : Nat) (l0 : List Int) (A1 : Option Addr) (c1 : Nat) (l1 : List S55) (i j : Int) (f1 : decide (16 < l1.length) = false) (f2 : decide ((16 : Int) < (l1.length : Int)) = false) (w : World) (hr0 : Kd.C (Kd.int .i64) w A0 l0.length l0) (hc0 : l0.length ≤ c0) (hr1 : Kd.C k55 w A1 l1.length l1) (hc1 : l1.length ≤ c1) (h1 : impl_within.f (l0.length : Int) 1 8 = some true) (hi : @slices_IndexFunc_int64_int64.f isDelC k l0 0 = some i) (hp : decide (i ≥ 0) = false) (hj : @impl_Wire_102.f (wireC l0.length) k l1 0 = some j) (n0 : 1 ≤ (l0.length : Int)) (n8 : (l0.length : Int) ≤ 8) :
    Calls Try.prog 53 #[.agg #[.slice A0 l0.length c0, .slice A1 l1.length c1]] w fun e w' => e = .returned (.bool (!decide (j ≥ 0))) ∧ Below w.heap.size w w' := by
  have Hhr0 := Aside0.mk hr0
  have Hhc0 := Aside0.mk hc0
  have Hhr1 := Aside0.mk hr1
  have Hhc1 := Aside0.mk hc1
  have Hh1 := Aside0.mk h1
  have Hhi := Aside0.mk hi
  have Hhp := Aside0.mk hp
  have Hhj := Aside0.mk hj
  have Hn0 := Aside0.mk n0
  have Hn8 := Aside0.mk n8
  clear hr0 hc0 hr1 hc1 h1 hi hp hj n0 n8
  have HB := Aside0.mk (Below.refl w.heap.size w)
  have F3 := Hhp
  go_enter Try.func53, Try.ntmps53
  go_wp2_with (first
    | ((with_reducible refine gate_dst (N := 1) rfl ?_); refine box_event ?hg (N := 1) ?hd (cs := #[.slice A0 l0.length c0, .slice A1 l1.length c1]) (t := 36) ?hr ?_; (case hd => rfl); (case hg => rfl); (case hr => first | (go_simp; done) | (go_simp; rfl)); intro g1 hg wn hbox hb; have GE1 := Aside0.mk (by rw [hg]; exact below_size HB.out : w.heap.size ≤ g1); clear hg; have BK10 := Aside0.mk hbox; clear hbox; have n0_ := Aside0.mk (below_step HB.out hb); clear HB  hb; have HB := n0_; clear n0_ ; have BK1 := BK10; clear BK10; have c1_0 : wn.cell? ⟨g1, 0, none⟩ = some (.slice A0 l0.length c0) := (blk_cell BK1.out 0).trans rfl; have c1_1 : wn.cell? ⟨g1, 1, none⟩ = some (.slice A1 l1.length c1) := (blk_cell BK1.out 1).trans rfl)
    | ((with_reducible refine gate_dst (N := 3) rfl ?_); refine box_event ?hg (N := 3) ?hd (cs := #[.int .i64 0]) (t := 2) ?hr ?_; (case hd => rfl); (case hg => rfl); (case hr => first | (go_simp; done) | (go_simp; rfl)); intro g3 hg wn hbox hb; have GE3 := Aside0.mk (by rw [hg]; exact below_size HB.out : w.heap.size ≤ g3); have NE1_3 := Aside0.mk (show g1 ≠ g3 by have := blk_lt BK1.out; omega); clear hg; have BK30 := Aside0.mk hbox; clear hbox; have n0_ := Aside0.mk (below_step HB.out hb); have m1_ := Aside0.mk (blk_below BK1.out hb); clear HB BK1 hb; have HB := n0_; have BK1 := m1_; clear n0_ m1_; have c1_0 : wn.cell? ⟨g1, 0, none⟩ = some (.slice A0 l0.length c0) := (blk_cell BK1.out 0).trans rfl; have c1_1 : wn.cell? ⟨g1, 1, none⟩ = some (.slice A1 l1.length c1) := (blk_cell BK1.out 1).trans rfl; have BK3 := BK30; clear BK30; have c3_0 : wn.cell? ⟨g3, 0, none⟩ = some (.int .i64 0) := (blk_cell BK3.out 0).trans rfl; have z3_0 := blk_frozen BK3.out 0; have c1s0 : ∀ v, (wn.setCell ⟨g3, 0, none⟩ v).cell? ⟨g1, 0, none⟩ = some (.slice A0 l0.length c0) := fun v => (blk_cell (blk_far BK1.out (p := ⟨g3, 0, none⟩) NE1_3.out v) 0).trans rfl; have c1s1 : ∀ v, (wn.setCell ⟨g3, 0, none⟩ v).cell? ⟨g1, 1, none⟩ = some (.slice A1 l1.length c1) := fun v => (blk_cell (blk_far BK1.out (p := ⟨g3, 0, none⟩) NE1_3.out v) 1).trans rfl)
    | (go_at_call 47; have m1_ := Aside0.mk (blk_far BK1.out (p := ⟨g3, 0, none⟩) NE1_3.out (.int .i64 (l0.length : Int))); have m3_ := Aside0.mk (blk_put BK3.out 0 (.int .i64 (l0.length : Int)) (cs' := #[.int .i64 (l0.length : Int)]) rfl); have n0_ := Aside0.mk (below_set (j := 0) (v := .int .i64 (l0.length : Int)) HB.out GE3.out); clear HB BK1 BK3; have HB := n0_; have BK1 := m1_; have BK3 := m3_; clear n0_ m1_ m3_; (with_reducible refine (impl_within.calls (l0.length : Int) 1 8 true _ Hh1.out).mono ?_); rintro e wn ⟨rfl, hb0⟩; (first | have hb := to_below_d hb0 | have hb := to_below_b hb0); clear hb0; have n0_ := Aside0.mk (below_step HB.out hb); have m1_ := Aside0.mk (blk_below BK1.out hb); have m3_ := Aside0.mk (blk_below BK3.out hb); clear HB BK1 BK3 hb; have HB := n0_; have BK1 := m1_; have BK3 := m3_; clear n0_ m1_ m3_; have c1_0 : wn.cell? ⟨g1, 0, none⟩ = some (.slice A0 l0.length c0) := (blk_cell BK1.out 0).trans rfl; have c1_1 : wn.cell? ⟨g1, 1, none⟩ = some (.slice A1 l1.length c1) := (blk_cell BK1.out 1).trans rfl; have c3_0 : wn.cell? ⟨g3, 0, none⟩ = some (.int .i64 (l0.length : Int)) := (blk_cell BK3.out 0).trans rfl)
    | (go_at_call 76; refine (@has76 isDelC k A0 c0 l0 i 81 Try.f81 #[] ⟨Try.func81, rfl, by kernel_rfl⟩ _ (IsDelCl _) (Kd.C_below Hhr0.out HB.out) Hhc0.out Hhi.out).mono ?_; rintro e wn ⟨he, hb0⟩; rw [F3.out] at he; subst he; have hb := to_below_d hb0; clear hb0; have n0_ := Aside0.mk (below_step HB.out hb); have m1_ := Aside0.mk (blk_below BK1.out hb); have m3_ := Aside0.mk (blk_below BK3.out hb); clear HB BK1 BK3 hb; have HB := n0_; have BK1 := m1_; have BK3 := m3_; clear n0_ m1_ m3_; have c1_0 : wn.cell? ⟨g1, 0, none⟩ = some (.slice A0 l0.length c0) := (blk_cell BK1.out 0).trans rfl; have c1_1 : wn.cell? ⟨g1, 1, none⟩ = some (.slice A1 l1.length c1) := (blk_cell BK1.out 1).trans rfl; have c3_0 : wn.cell? ⟨g3, 0, none⟩ = some (.int .i64 (l0.length : Int)) := (blk_cell BK3.out 0).trans rfl)
    | (go_at_call 83; refine (@has83 (wireC l0.length) k A1 c1 l1 j 84 Try.f84 #[.pointer (some ⟨g3, 0, none⟩)] ⟨Try.func84, rfl, by kernel_rfl⟩ _ (WireCl l0.length g3 _ Hn0.out Hn8.out BK3.out) (Kd.C_below Hhr1.out HB.out) Hhc1.out Hhj.out).mono ?_; rintro e wn ⟨rfl, hb⟩; have n0_ := Aside0.mk (below_step HB.out hb); have m1_ := Aside0.mk (blk_below BK1.out hb); have m3_ := Aside0.mk (blk_below BK3.out hb); clear HB BK1 BK3 hb; have HB := n0_; have BK1 := m1_; have BK3 := m3_; clear n0_ m1_ m3_; have c1_0 : wn.cell? ⟨g1, 0, none⟩ = some (.slice A0 l0.length c0) := (blk_cell BK1.out 0).trans rfl; have c1_1 : wn.cell? ⟨g1, 1, none⟩ = some (.slice A1 l1.length c1) := (blk_cell BK1.out 1).trans rfl; have c3_0 : wn.cell? ⟨g3, 0, none⟩ = some (.int .i64 (l0.length : Int)) := (blk_cell BK3.out 0).trans rfl))
  go_ret
  exact ⟨rfl, HB.out⟩
def impl_isFlow.f (k : Nat) (l0 : List Int) (l1 : List S55) : Option Bool :=
  if 1 ≤ (l0.length : Int) ∧ (l0.length : Int) ≤ 8 then (if 16 < l1.length then some false else (@slices_IndexFunc_int64_int64.f isDelC k l0 0).bind fun i => if i ≥ 0 then some false else (@impl_Wire_102.f (wireC l0.length) k l1 0).bind fun j => some (!decide (j ≥ 0))) else some false
theorem impl_isFlow.mono : ∀ a0 a1 k, LeO (impl_isFlow.f k a0 a1) (impl_isFlow.f (k + 1) a0 a1) := by
  intro l0 l1 k
  unfold impl_isFlow.f
  split
  · split
    · exact LeO.refl _
    · refine LeO.bind (@slices_IndexFunc_int64_int64.mono isDelC l0 0 k) (fun i => ?_)
      split
      · exact LeO.refl _
      · exact LeO.bind (@impl_Wire_102.mono (wireC l0.length) l1 0 k) (fun _ => LeO.refl _)
  · exact LeO.refl _
theorem impl_isFlow.calls (k : Nat) (A0_0 : Option Addr) (c0_0 : Nat) (l0_0 : List Int) (A0_1 : Option Addr) (c0_1 : Nat) (l0_1 : List (S55)) (r : Bool) (w : World) (hr0_0 : Kd.C (Kd.int .i64) w A0_0 l0_0.length l0_0) (hc0_0 : l0_0.length ≤ c0_0) (hr0_1 : Kd.C k55 w A0_1 l0_1.length l0_1) (hc0_1 : l0_1.length ≤ c0_1) (h : impl_isFlow.f k l0_0 l0_1 = some r) :
    Calls Try.prog 53 #[.agg #[.slice A0_0 l0_0.length c0_0, .slice A0_1 l0_1.length c0_1]] w fun e w' => e = .returned (.bool r) ∧ Below w.heap.size w w' := by
  unfold impl_isFlow.f at h
  by_cases hz : 1 ≤ (l0_0.length : Int) ∧ (l0_0.length : Int) ≤ 8
  · rw [if_pos hz] at h
    have hw : impl_within.f (l0_0.length : Int) 1 8 = some true := by rw [within_w]; simp; omega
    by_cases hm : 16 < l0_1.length
    · rw [if_pos hm] at h
      obtain rfl := Option.some.inj h
      exact isFlow_2 k A0_0 c0_0 l0_0 A0_1 c0_1 l0_1 (decide_eq_true hm) (decide_eq_true (by omega)) w hw
    · rw [if_neg hm] at h
      obtain ⟨i, hi, h⟩ := Option.bind_eq_some_iff.mp h
      by_cases hp : i ≥ 0
      · rw [if_pos hp] at h
        obtain rfl := Option.some.inj h
        exact isFlow_3 k A0_0 c0_0 l0_0 A0_1 c0_1 l0_1 i (decide_eq_false hm) (decide_eq_false (by omega)) w hr0_0 hc0_0 hr0_1 hc0_1 hw hi (decide_eq_true hp)
      · rw [if_neg hp] at h
        obtain ⟨j, hj, h⟩ := Option.bind_eq_some_iff.mp h
        obtain rfl := Option.some.inj h
        exact isFlow_4 k A0_0 c0_0 l0_0 A0_1 c0_1 l0_1 i j (decide_eq_false hm) (decide_eq_false (by omega)) w hr0_0 hc0_0 hr0_1 hc0_1 hw hi (decide_eq_false hp) hj hz.1 hz.2
  · rw [if_neg hz] at h
    have hw : impl_within.f (l0_0.length : Int) 1 8 = some false := by rw [within_w]; simp; omega
    obtain rfl := Option.some.inj h
    exact isFlow_1 k A0_0 c0_0 l0_0 A0_1 c0_1 l0_1 w hw
end Go.Proofs.Ytojpibpjieanhaa.X
end
section
-- Written by a program of this session out of the kit's print of the loaded functions: a plain function of a Go function, and its contract.
namespace Go.Proofs.Ytojpibpjieanhaa.X
open Go.RowKit Go.Proofs.YtojpibpjieanhaaW.PrintWords Go.Proofs.YtojpibpjieanhaaW.PrintLast Go.Proofs.YtojpibpjieanhaaW.PrintMore
attribute [local go_sem] max2_int min2_int max_two min_two max_three min_three max_four min_four   -- for this text's walks alone
set_option linter.unusedVariables false
set_option linter.unusedSimpArgs false
def slices_Index_bool_bool.l0 : Nat → List Bool → Bool → Int → Int → Option (Int)
 | 0, _, _, _, _ => none
 | k + 1, x0, x1, x7, x8 => if x8 < x7 then (if 0 ≤ x8 then (if x8 < (x0.length : Int) then (if (x1 == (rdOf false x0 x8)) = true then (some x8) else (slices_Index_bool_bool.l0 k x0 x1 x7 (wrap64 (x8 + 1)))) else (none)) else (none)) else (some (-1))
def slices_Index_bool_bool.f (k : Nat) (l0 : List Bool) (a1 : Bool) : Option (Int) := slices_Index_bool_bool.l0 k l0 a1 (l0.length : Int) 0
theorem slices_Index_bool_bool.mono_l : ∀ k, (∀ y0 y1 y2 y3, LeO (slices_Index_bool_bool.l0 k y0 y1 y2 y3) (slices_Index_bool_bool.l0 (k + 1) y0 y1 y2 y3))
 | 0 => fun _ _ _ _ r h => by simp [slices_Index_bool_bool.l0] at h
 | k + 1 => by
  have ih0 := slices_Index_bool_bool.mono_l k
  ·intro y0 y1 y2 y3
   unfold slices_Index_bool_bool.l0
   repeat' first
   | (with_reducible exact ih0 _ _ _ _)
   | (with_reducible exact LeO.refl _)
   | (with_reducible exact LeO.none _)
   | (with_reducible refine LeO.ite ?_ ?_)
   | (with_reducible refine LeO.bind ?_ (fun _ => ?_))
   | exact ih0 _ _ _ _
   | exact LeO.none _
   | refine LeO.ite ?_ ?_
   | refine LeO.bind ?_ (fun _ => ?_)
theorem slices_Index_bool_bool.mono : ∀ a0 a1 k, LeO (slices_Index_bool_bool.f k a0 a1) (slices_Index_bool_bool.f (k + 1) a0 a1) := by
 intro a0 a1 k
 have ih0 := slices_Index_bool_bool.mono_l k
 unfold slices_Index_bool_bool.f
 repeat' first
   | (with_reducible exact ih0 _ _ _ _)
   | (with_reducible exact LeO.refl _)
   | (with_reducible exact LeO.none _)
   | (with_reducible refine LeO.ite ?_ ?_)
   | (with_reducible refine LeO.bind ?_ (fun _ => ?_))
   | exact ih0 _ _ _ _
   | exact LeO.none _
   | refine LeO.ite ?_ ?_
   | refine LeO.bind ?_ (fun _ => ?_)
set_option maxHeartbeats 8000000 in
set_option maxRecDepth 100000 in
theorem slices_Index_bool_bool.calls (k : Nat) (A0 : Option Addr) (c0 : Nat) (l0 : List Bool) (a1 : Bool) (r : Int) (w : World) (hr0 : Kd.C Kd.bool w A0 l0.length l0) (hc0 : l0.length ≤ c0) (h : slices_Index_bool_bool.f k l0 a1 = some r) :
  Calls Try.prog 103 #[.slice A0 l0.length c0, .bool a1] w fun e w' => e = .returned (.int .i64 r) ∧ Drawn0 w w' := by
 have HR0 := Aside0.mk hr0
 have HC0 := Aside0.mk hc0
 clear hr0 hc0
 have H : (slices_Index_bool_bool.l0 k l0 a1 (l0.length : Int) 0) = some r := h
 clear h
 have H' := Aside0.mk H
 clear H
 go_enter Try.func103, Try.ntmps103
 go_wp2
 go_loopg [8] k (fun kq v8 w' => ∃ (x8_1 : Int), v8 = .int .i64 x8_1 ∧ Aside0 (slices_Index_bool_bool.l0 kq l0 a1 (l0.length : Int) x8_1 = some r) ∧ Aside0 (kq ≤ k) ∧ Drawn0 w w')
 case atStart => exact ⟨(0), (by first | rfl | (simp; done) | (simp [*]; done)), H', ⟨Nat.le_refl _⟩, by repeat (first | exact Drawn0.refl _ | apply Drawn0.step)⟩
 case round =>
  clear H'
  try clear c1
  try clear p2
  obtain ⟨x8_1, rfl, HA, HK1, ⟨m1, rfl⟩⟩ := hrel
  cases gk with
  | zero => exact absurd HA.out (by simp [slices_Index_bool_bool.l0])
  | succ k1 =>
   have H := HA.out
   clear HA
   simp only [slices_Index_bool_bool.l0] at H
   by_cases c3 : x8_1 < (l0.length : Int)
   ·rw [if_pos c3] at H
    have c3b0 : decide (x8_1 < (l0.length : Int)) = true := decide_eq_true c3
    clear c3
    by_cases c4 : 0 ≤ x8_1
    ·rw [if_pos c4] at H
     have c4b0 : decide (0 ≤ x8_1) = true := decide_eq_true c4
     clear c4
     by_cases c5 : x8_1 < (l0.length : Int)
     ·rw [if_pos c5] at H
      have c5b0 : decide (x8_1 < (l0.length : Int)) = true := decide_eq_true c5
      clear c5
      by_cases c6 : (a1 == (rdOf false l0 x8_1)) = true
      ·rw [if_pos c6] at H
       have c6b0 : (a1 == (rdOf false l0 x8_1)) = true := c6
       (try (have c6b1 : decide (a1 = (rdOf false l0 x8_1)) = true := by simpa using c6))
       (try (have c6b2 : (a1 == (rdOf false l0 x8_1)) = true := by simpa using c6))
       clear c6
       obtain rfl := Option.some.inj H
       have p245 : 0 ≤ (x8_1 : Int) := of_decide_eq_true (by first | (with_reducible assumption) | assumption)
       have q245 : x8_1 < (l0.length : Int) := of_decide_eq_true (by first | (with_reducible assumption) | assumption)
       obtain ⟨ad245, e245, hx245_0⟩ := Kd.at_bool HR0.out x8_1 p245 q245
       cases e245
       replace p245 := eq_true p245
       replace q245 := eq_true q245
       go_wp2
       go_ret
       exact ⟨by first | rfl | (simp; done) | (simp [*]; done), by repeat (first | exact Drawn0.refl _ | apply Drawn0.step)⟩
      ·rw [if_neg c6] at H
       have c6b0 : (a1 == (rdOf false l0 x8_1)) = false := by simpa using c6
       (try (have c6b1 : decide (a1 = (rdOf false l0 x8_1)) = false := by simpa using c6))
       (try (have c6b2 : (a1 == (rdOf false l0 x8_1)) = false := by simpa using c6))
       (try (have c6b3 : ¬ (a1 = (rdOf false l0 x8_1)) := by simpa using c6))
       clear c6
       have H' := Aside0.mk H
       clear H
       have p245 : 0 ≤ (x8_1 : Int) := of_decide_eq_true (by first | (with_reducible assumption) | assumption)
       have q245 : x8_1 < (l0.length : Int) := of_decide_eq_true (by first | (with_reducible assumption) | assumption)
       obtain ⟨ad245, e245, hx245_0⟩ := Kd.at_bool HR0.out x8_1 p245 q245
       cases e245
       replace p245 := eq_true p245
       replace q245 := eq_true q245
       go_wp2
       go_roundg k1
       case measure => have := HK1.out; omega
       case rel => exact ⟨(wrap64 (x8_1 + 1)), (by first | rfl | (simp; done) | (simp [*]; done)), H', ⟨by have := HK1.out; omega⟩, by repeat (first | exact Drawn0.refl _ | apply Drawn0.step)⟩
     ·rw [if_neg c5] at H
      exact absurd H (by simp)
    ·rw [if_neg c4] at H
     exact absurd H (by simp)
   ·rw [if_neg c3] at H
    have c3b0 : decide (x8_1 < (l0.length : Int)) = false := decide_eq_false c3
    clear c3
    obtain rfl := Option.some.inj H
    go_wp2
    go_ret
    exact ⟨by first | rfl | (simp; done) | (simp [*]; done), by repeat (first | exact Drawn0.refl _ | apply Drawn0.step)⟩
end Go.Proofs.Ytojpibpjieanhaa.X
end
section
-- Written by a program of this session out of the kit's print of the loaded functions: a plain function of a Go function, and its contract.
namespace Go.Proofs.Ytojpibpjieanhaa.X
open Go.RowKit Go.Proofs.YtojpibpjieanhaaW.PrintWords Go.Proofs.YtojpibpjieanhaaW.PrintLast Go.Proofs.YtojpibpjieanhaaW.PrintMore
attribute [local go_sem] max2_int min2_int max_two min_two max_three min_three max_four min_four   -- for this text's walks alone
set_option linter.unusedVariables false
set_option linter.unusedSimpArgs false
def slices_Contains_bool_bool.f (k : Nat) (l0 : List Bool) (a1 : Bool) : Option (Bool) := (slices_Index_bool_bool.f k l0 a1).bind fun t246 => (some (decide (t246 ≥ 0)))
theorem slices_Contains_bool_bool.mono : ∀ a0 a1 k, LeO (slices_Contains_bool_bool.f k a0 a1) (slices_Contains_bool_bool.f (k + 1) a0 a1) := by
 intro a0 a1 k
 unfold slices_Contains_bool_bool.f
 repeat' first
   | (with_reducible exact slices_Index_bool_bool.mono _ _ _)
   | (with_reducible exact LeO.refl _)
   | (with_reducible exact LeO.none _)
   | (with_reducible refine LeO.ite ?_ ?_)
   | (with_reducible refine LeO.bind ?_ (fun _ => ?_))
   | exact slices_Index_bool_bool.mono _ _ _
   | exact LeO.none _
   | refine LeO.ite ?_ ?_
   | refine LeO.bind ?_ (fun _ => ?_)
set_option maxHeartbeats 8000000 in
set_option maxRecDepth 100000 in
theorem slices_Contains_bool_bool.calls (k : Nat) (A0 : Option Addr) (c0 : Nat) (l0 : List Bool) (a1 : Bool) (r : Bool) (w : World) (hr0 : Kd.C Kd.bool w A0 l0.length l0) (hc0 : l0.length ≤ c0) (h : slices_Contains_bool_bool.f k l0 a1 = some r) :
  Calls Try.prog 86 #[.slice A0 l0.length c0, .bool a1] w fun e w' => e = .returned (.bool r) ∧ Drawn0 w w' := by
 have HR0 := Aside0.mk hr0
 have HC0 := Aside0.mk hc0
 clear hr0 hc0
 have H : ((slices_Index_bool_bool.f k l0 a1).bind fun t246 => (some (decide (t246 ≥ 0)))) = some r := h
 clear h
 replace H := Option.bind_eq_some_iff.mp H
 obtain ⟨t246, A30, H⟩ := H
 replace H : (some (decide (t246 ≥ 0))) = some r := H
 have A3 := Aside0.mk A30
 clear A30
 obtain rfl := Option.some.inj H
 go_enter Try.func86, Try.ntmps86
 go_wp2_with (first | ((with_reducible refine gate_callee (f := 103) rfl ?_); refine goesL_ (some 7) rfl rfl Try.func103 (by kernel_rfl) rfl #[.slice A0 l0.length c0, .bool a1] rfl (by (try simp only [List.map_toArray, List.map_cons, List.map_nil]); first | done | rfl | (simp only [List.length_drop, List.length_take]; rfl)) ?_; (with_reducible refine (slices_Index_bool_bool.calls k _ _ l0 a1 t246 _ ?side1 ?side2 A3.out).mono ?_); (case side1 => repeat (first | exact HR0.out | (with_reducible refine Kd.C_alloc ?_ _) | (with_reducible refine Kd.C_drewN ?_ _) | (with_reducible refine Kd.C_drew ?_))); (case side2 => first | exact trivial | (exact HC0.out)); rintro e w' ⟨rfl, ⟨nd, rfl⟩⟩; refine ⟨_, rfl, ?_⟩))
 go_ret
 exact ⟨by first | rfl | (simp; done) | (simp [*]; done), by repeat (first | exact Drawn0.refl _ | apply Drawn0.step)⟩
end Go.Proofs.Ytojpibpjieanhaa.X
end
section
namespace Go.Proofs.Ytojpibpjieanhaa.X
open Go.RowKit Go.Proofs.YtojpibpjieanhaaW.PrintWords Go.Proofs.YtojpibpjieanhaaW.PrintLast Go.Proofs.YtojpibpjieanhaaW.PrintMore
set_option linter.unusedVariables false
set_option linter.unusedSimpArgs false
def Bools (w : World) (g : Nat) (l : List Bool) : Prop := w.heap[g]? = some (.cells (l.map Value.bool).toArray 4 (0, 0))
theorem Bools.cell {w : World} {g : Nat} {l : List Bool} (h : Bools w g l) (i : Nat) (hi : i < l.length) : w.cell? ⟨g, i, none⟩ = some (.bool (l.getD i false)) := by
  rw [blk_cell h i]
  simp [hi, List.getD_eq_getElem?_getD]
theorem Bools.frozen {w : World} {g : Nat} {l : List Bool} (h : Bools w g l) (i : Nat) : w.frozen? ⟨g, i, none⟩ = false := blk_frozen h i
theorem Bools.put {w : World} {g : Nat} {l : List Bool} (h : Bools w g l) (i : Nat) (b : Bool) : Bools (w.setCell ⟨g, i, none⟩ (.bool b)) g (l.set i b) :=
  blk_put h i (.bool b) (by simp [List.map_set])
theorem Bools.below {w w' : World} {g : Nat} {l : List Bool} (h : Bools w g l) (hb : Below w.heap.size w w') : Bools w' g l := blk_below h hb
theorem info4b : (Try.prog.info? 4).map (fun i => (i.zero, i.size, i.bytes)) = some (some (.bool false), 1, 1) := by kernel_rfl
section
variable {P : Program} {ops : Array Oper} {Q : Exit → Act → World → Prop}
theorem make_bools {rest : List Oper} {o : Oper} {a : Act} {W : World} (hgd : o.guard = none) {N : Tmp} (hd : o.dst = some N) (t e : TypeId) (x y : Operand) (ho : o.op = .makeSlice t x y) (n : Nat) (hx : a.eval x = .int .i64 n) (hy : a.eval y = .int .i64 n)
    (ht : P.underlying t = some (.slice e)) (hinfo : (P.info? e).map (fun i => (i.zero, i.size, i.bytes)) = some (some (.bool false), 1, 1)) (he : e = 4) (hl : n ≤ 1000000)
    (h : ∀ g wn, g = W.heap.size → Bools wn g (List.replicate n false) → Below W.heap.size W wn → wpList P ops Q rest (a.put o.dst (.slice (some ⟨g, 0, none⟩) n n)) wn) : wpList P ops Q (o :: rest) a W := by
  obtain ⟨i0, hi, hzz⟩ := Option.map_eq_some_iff.1 hinfo
  simp only [Prod.mk.injEq] at hzz
  obtain ⟨hz0, hz1, hz2⟩ := hzz
  have hr := run_make (P := P) W t e i0 (.bool false) ht hi hz0 .i64 .i64 (n : Int) (n : Int) (by omega) (by omega)
    (by
      have h3 : ((i0.bytes * n : Nat) : Int) ≤ 281474976710656 := by rw [hz2]; omega
      rwa [Int.natCast_mul] at h3) (by omega)
  simp only [Int.toNat_natCast] at hr
  rw [hz1] at hr
  refine Kd.event_run hgd (?_ : (execOp a.eval o).run P W = .ok (.value (.slice (some ⟨W.heap.size, 0, none⟩) n n)) (W.alloc (.cells (madeCells (Value.bool false).cells (n * 1)) e))) (h _ _ rfl ?_ (below_alloc (Below.refl _ _) _))
  · simp [execOp, ho, hx, hy, hr]
  · subst he
    unfold Bools
    have e1 : madeCells (Value.bool false).cells (n * 1) = ((List.replicate n false).map Value.bool).toArray := by
      apply Array.ext
      · simp [size_madeCells]
      · intro i h1 h2
        simp [madeCells, Value.cells, Nat.mod_one]
    rw [← e1]
    simp [World.alloc, -World.alloc_eq]
end
def leads (left : List Bool) (i f t c : Int) : Option Bool := if (c == 0) = true then (if (t == i) = true then (if 0 ≤ f ∧ f < left.length then some (left.getD f.toNat false) else none) else some false) else some false
abbrev leadC (left : List Bool) (i : Int) : C_impl_Wire_102 := ⟨fun f t c => leads left i f t c⟩
set_option maxHeartbeats 4000000 in
set_option maxRecDepth 100000 in
theorem OpenClo_1 (x0 x1 x2 : Int) (i n g1 g2 gL : Nat) (L : List Bool) (f1 : (x2 == 0) = false) (w : World) (b1 : w.heap[g1]? = some (.cells #[.int .i64 (i : Int)] 3 (0, 0))) (b2 : w.heap[g2]? = some (.cells #[.slice (some ⟨gL, 0, none⟩) n n] 99 (0, 0))) (bl : Bools w gL L) :
    Calls Try.prog 85 #[.agg #[.int .i64 x0, .int .i64 x1, .int .i64 x2], .pointer (some ⟨g1, 0, none⟩), .pointer (some ⟨g2, 0, none⟩)] w fun e w' => e = .returned (.bool false) ∧ Below w.heap.size w w' := by
  have Hb1 := Aside0.mk b1
  have Hb2 := Aside0.mk b2
  have Hbl := Aside0.mk bl
  clear b1 b2 bl
  have HB := Aside0.mk (Below.refl w.heap.size w)
  have BK1 := Hb1
  have BK2 := Hb2
  have BL := Hbl
  go_enter Try.func85, Try.ntmps85
  go_wp2_with (first
    | ((with_reducible refine gate_dst (N := 3) rfl ?_); refine box_event ?hg (N := 3) ?hd (cs := #[.int .i64 x0, .int .i64 x1, .int .i64 x2]) (t := 55) ?hr ?_; (case hd => rfl); (case hg => rfl); (case hr => first | (go_simp; done) | (go_simp; rfl)); intro g3 hg wn hbox hb; have GE3 := Aside0.mk (by rw [hg]; exact below_size HB.out : w.heap.size ≤ g3); have hbx := hb; clear hg; have BK30 := Aside0.mk hbox; clear hbox; have n0_ := Aside0.mk (below_step HB.out hb); clear HB  hb; have HB := n0_; clear n0_ ; have BK3 := BK30; clear BK30; have c3_0 : wn.cell? ⟨g3, 0, none⟩ = some (.int .i64 x0) := (blk_cell BK3.out 0).trans rfl; have c3_1 : wn.cell? ⟨g3, 1, none⟩ = some (.int .i64 x1) := (blk_cell BK3.out 1).trans rfl; have c3_2 : wn.cell? ⟨g3, 2, none⟩ = some (.int .i64 x2) := (blk_cell BK3.out 2).trans rfl; have n1_ := Aside0.mk (blk_below BK1.out hbx); have n2_ := Aside0.mk (blk_below BK2.out hbx); have n3_ := Aside0.mk (BL.out.below hbx); clear hbx BK1 BK2 BL; have BK1 := n1_; have BK2 := n2_; have BL := n3_; clear n1_ n2_ n3_; have c1_0 : wn.cell? ⟨g1, 0, none⟩ = some (.int .i64 (i : Int)) := (blk_cell BK1.out 0).trans rfl; have c2_0 : wn.cell? ⟨g2, 0, none⟩ = some (.slice (some ⟨gL, 0, none⟩) n n) := (blk_cell BK2.out 0).trans rfl))
  go_ret
  exact ⟨rfl, HB.out⟩
set_option maxHeartbeats 4000000 in
set_option maxRecDepth 100000 in
theorem OpenClo_2 (x0 x1 x2 : Int) (i n g1 g2 gL : Nat) (L : List Bool) (f1 : (x2 == 0) = true) (f2 : (x1 == (i : Int)) = false) (w : World) (b1 : w.heap[g1]? = some (.cells #[.int .i64 (i : Int)] 3 (0, 0))) (b2 : w.heap[g2]? = some (.cells #[.slice (some ⟨gL, 0, none⟩) n n] 99 (0, 0))) (bl : Bools w gL L) :
    Calls Try.prog 85 #[.agg #[.int .i64 x0, .int .i64 x1, .int .i64 x2], .pointer (some ⟨g1, 0, none⟩), .pointer (some ⟨g2, 0, none⟩)] w fun e w' => e = .returned (.bool false) ∧ Below w.heap.size w w' := by
  have Hb1 := Aside0.mk b1
  have Hb2 := Aside0.mk b2
  have Hbl := Aside0.mk bl
  clear b1 b2 bl
  have HB := Aside0.mk (Below.refl w.heap.size w)
  have BK1 := Hb1
  have BK2 := Hb2
  have BL := Hbl
  go_enter Try.func85, Try.ntmps85
  go_wp2_with (first
    | ((with_reducible refine gate_dst (N := 3) rfl ?_); refine box_event ?hg (N := 3) ?hd (cs := #[.int .i64 x0, .int .i64 x1, .int .i64 x2]) (t := 55) ?hr ?_; (case hd => rfl); (case hg => rfl); (case hr => first | (go_simp; done) | (go_simp; rfl)); intro g3 hg wn hbox hb; have GE3 := Aside0.mk (by rw [hg]; exact below_size HB.out : w.heap.size ≤ g3); have hbx := hb; clear hg; have BK30 := Aside0.mk hbox; clear hbox; have n0_ := Aside0.mk (below_step HB.out hb); clear HB  hb; have HB := n0_; clear n0_ ; have BK3 := BK30; clear BK30; have c3_0 : wn.cell? ⟨g3, 0, none⟩ = some (.int .i64 x0) := (blk_cell BK3.out 0).trans rfl; have c3_1 : wn.cell? ⟨g3, 1, none⟩ = some (.int .i64 x1) := (blk_cell BK3.out 1).trans rfl; have c3_2 : wn.cell? ⟨g3, 2, none⟩ = some (.int .i64 x2) := (blk_cell BK3.out 2).trans rfl; have n1_ := Aside0.mk (blk_below BK1.out hbx); have n2_ := Aside0.mk (blk_below BK2.out hbx); have n3_ := Aside0.mk (BL.out.below hbx); clear hbx BK1 BK2 BL; have BK1 := n1_; have BK2 := n2_; have BL := n3_; clear n1_ n2_ n3_; have c1_0 : wn.cell? ⟨g1, 0, none⟩ = some (.int .i64 (i : Int)) := (blk_cell BK1.out 0).trans rfl; have c2_0 : wn.cell? ⟨g2, 0, none⟩ = some (.slice (some ⟨gL, 0, none⟩) n n) := (blk_cell BK2.out 0).trans rfl))
  go_ret
  exact ⟨rfl, HB.out⟩
set_option maxHeartbeats 4000000 in
set_option maxRecDepth 100000 in
theorem OpenClo_3 (x1 x2 : Int) (p i n g1 g2 gL : Nat) (L : List Bool) (f1 : (x2 == 0) = true) (f2 : (x1 == (i : Int)) = true) (hp : p < n) (hn : n ≤ 1000000) (w : World) (b1 : w.heap[g1]? = some (.cells #[.int .i64 (i : Int)] 3 (0, 0))) (b2 : w.heap[g2]? = some (.cells #[.slice (some ⟨gL, 0, none⟩) n n] 99 (0, 0))) (bl : Bools w gL L) (hL : L.length = n) :
    Calls Try.prog 85 #[.agg #[.int .i64 (p : Int), .int .i64 x1, .int .i64 x2], .pointer (some ⟨g1, 0, none⟩), .pointer (some ⟨g2, 0, none⟩)] w fun e w' => e = .returned (.bool (L.getD p false)) ∧ Below w.heap.size w w' := by
  have Hb1 := Aside0.mk b1
  have Hb2 := Aside0.mk b2
  have Hbl := Aside0.mk bl
  have HhL := Aside0.mk hL
  clear b1 b2 bl hL
  have HB := Aside0.mk (Below.refl w.heap.size w)
  have BK1 := Hb1
  have BK2 := Hb2
  have BL := Hbl
  go_enter Try.func85, Try.ntmps85
  go_wp2_with (first
    | ((with_reducible refine gate_dst (N := 3) rfl ?_); refine box_event ?hg (N := 3) ?hd (cs := #[.int .i64 (p : Int), .int .i64 x1, .int .i64 x2]) (t := 55) ?hr ?_; (case hd => rfl); (case hg => rfl); (case hr => first | (go_simp; done) | (go_simp; rfl)); intro g3 hg wn hbox hb; have GE3 := Aside0.mk (by rw [hg]; exact below_size HB.out : w.heap.size ≤ g3); have hbx := hb; clear hg; have BK30 := Aside0.mk hbox; clear hbox; have n0_ := Aside0.mk (below_step HB.out hb); clear HB  hb; have HB := n0_; clear n0_ ; have BK3 := BK30; clear BK30; have c3_0 : wn.cell? ⟨g3, 0, none⟩ = some (.int .i64 (p : Int)) := (blk_cell BK3.out 0).trans rfl; have c3_1 : wn.cell? ⟨g3, 1, none⟩ = some (.int .i64 x1) := (blk_cell BK3.out 1).trans rfl; have c3_2 : wn.cell? ⟨g3, 2, none⟩ = some (.int .i64 x2) := (blk_cell BK3.out 2).trans rfl; have n1_ := Aside0.mk (blk_below BK1.out hbx); have n2_ := Aside0.mk (blk_below BK2.out hbx); have n3_ := Aside0.mk (BL.out.below hbx); clear hbx BK1 BK2 BL; have BK1 := n1_; have BK2 := n2_; have BL := n3_; clear n1_ n2_ n3_; have c1_0 : wn.cell? ⟨g1, 0, none⟩ = some (.int .i64 (i : Int)) := (blk_cell BK1.out 0).trans rfl; have c2_0 : wn.cell? ⟨g2, 0, none⟩ = some (.slice (some ⟨gL, 0, none⟩) n n) := (blk_cell BK2.out 0).trans rfl; have cL : wn.cell? ⟨gL, p, none⟩ = some (.bool (L.getD p false)) := BL.out.cell p (by rw [HhL.out]; exact hp)))
  go_ret
  exact ⟨rfl, HB.out⟩
theorem OpenCl (i n g1 g2 gL : Nat) (L : List Bool) (w : World) (hn : n ≤ 1000000) (hL : L.length = n) (h1 : w.heap[g1]? = some (.cells #[.int .i64 (i : Int)] 3 (0, 0))) (h2 : w.heap[g2]? = some (.cells #[.slice (some ⟨gL, 0, none⟩) n n] 99 (0, 0))) (h3 : Bools w gL L) :
    ∀ x0 x1 x2 r W, (leadC L i).f x0 x1 x2 = some r → Below w.heap.size w W → Calls Try.prog 85 (#[.agg #[.int .i64 x0, .int .i64 x1, .int .i64 x2]] ++ #[.pointer (some ⟨g1, 0, none⟩), .pointer (some ⟨g2, 0, none⟩)]) W fun e w' => e = .returned (.bool r) ∧ Below W.heap.size W w' := by
  intro x0 x1 x2 r W hx hW
  have q1 := blk_below h1 hW
  have q2 := blk_below h2 hW
  have q3 := h3.below hW
  have hx : leads L i x0 x1 x2 = some r := hx
  unfold leads at hx
  cases f1 : (x2 == 0) with
  | false =>
    rw [f1, if_neg (by simp)] at hx
    obtain rfl := Option.some.inj hx
    exact OpenClo_1 x0 x1 x2 i n g1 g2 gL L f1 W q1 q2 q3
  | true =>
    rw [f1, if_pos rfl] at hx
    cases f2 : (x1 == (i : Int)) with
    | false =>
      rw [f2, if_neg (by simp)] at hx
      obtain rfl := Option.some.inj hx
      exact OpenClo_2 x0 x1 x2 i n g1 g2 gL L f1 f2 W q1 q2 q3
    | true =>
      rw [f2, if_pos rfl] at hx
      by_cases hp : 0 ≤ x0 ∧ x0 < L.length
      · rw [if_pos hp] at hx
        obtain rfl := Option.some.inj hx
        obtain ⟨p, rfl⟩ := Int.eq_ofNat_of_zero_le hp.1
        rw [Int.toNat_natCast]
        exact OpenClo_3 x1 x2 p i n g1 g2 gL L f1 f2 (by omega) hn W q1 q2 q3 hL
      · rw [if_neg hp] at hx
        exact absurd hx (by simp)
end Go.Proofs.Ytojpibpjieanhaa.X
end
section
namespace Go.Proofs.Ytojpibpjieanhaa.X
open Go.RowKit Go.Proofs.YtojpibpjieanhaaW.PrintWords Go.Proofs.YtojpibpjieanhaaW.PrintLast Go.Proofs.YtojpibpjieanhaaW.PrintMore
set_option linter.unusedVariables false
set_option linter.unusedSimpArgs false
def openStep (k : Nat) (ws : List S55) (i : Nat) (L : List Bool) : Option (List Bool) := (@impl_Wire_102.f (leadC L i) k ws 0).bind fun r => some (L.set i (L.getD i false && decide (r ≥ 0)))
def openRound (k : Nat) (ws : List S55) : Nat → List Bool → Option (List Bool)
  | 0, L => some L
  | i + 1, L => (openRound k ws i L).bind fun M => openStep k ws i M
def openRounds (k : Nat) (ws : List S55) (n : Nat) : Nat → Option (List Bool)
  | 0 => some (List.replicate n true)
  | m + 1 => (openRounds k ws n m).bind fun M => openRound k ws n M
theorem openStep_len {k : Nat} {ws : List S55} {i : Nat} {L M : List Bool} (h : openStep k ws i L = some M) : M.length = L.length := by
  obtain ⟨r, _, h⟩ := Option.bind_eq_some_iff.mp h
  obtain rfl := Option.some.inj h
  simp
theorem openRound_len {k : Nat} {ws : List S55} : ∀ {i : Nat} {L M : List Bool}, openRound k ws i L = some M → M.length = L.length
  | 0, L, M, h => by obtain rfl := Option.some.inj h; rfl
  | i + 1, L, M, h => by
    obtain ⟨X, hX, h⟩ := Option.bind_eq_some_iff.mp h
    rw [openStep_len h, openRound_len hX]
theorem openRound_pre {k : Nat} {ws : List S55} {L : List Bool} : ∀ {n : Nat} {M : List Bool}, openRound k ws n L = some M → ∀ i, i ≤ n → ∃ X, openRound k ws i L = some X
  | 0, M, h, i, hi => by obtain rfl : i = 0 := by omega
                         exact ⟨M, h⟩
  | n + 1, M, h, i, hi => by
    by_cases e : i = n + 1
    · subst e; exact ⟨M, h⟩
    · obtain ⟨X, hX, _⟩ := Option.bind_eq_some_iff.mp h
      exact openRound_pre hX i (by omega)
theorem openRounds_pre {k : Nat} {ws : List S55} {n : Nat} : ∀ {m : Nat} {M : List Bool}, openRounds k ws n m = some M → ∀ i, i ≤ m → ∃ X, openRounds k ws n i = some X
  | 0, M, h, i, hi => by obtain rfl : i = 0 := by omega
                         exact ⟨M, h⟩
  | m + 1, M, h, i, hi => by
    by_cases e : i = m + 1
    · subst e; exact ⟨M, h⟩
    · obtain ⟨X, hX, _⟩ := Option.bind_eq_some_iff.mp h
      exact openRounds_pre hX i (by omega)
theorem openRounds_len {k : Nat} {ws : List S55} {n : Nat} : ∀ {m : Nat} {M : List Bool}, openRounds k ws n m = some M → M.length = n
  | 0, M, h => by obtain rfl := Option.some.inj h; simp
  | m + 1, M, h => by
    obtain ⟨X, hX, h⟩ := Option.bind_eq_some_iff.mp h
    rw [openRound_len h, openRounds_len hX]
theorem bools_C {w : World} {g : Nat} {l : List Bool} (h : Bools w g l) (hm : l.length ≤ 1000000) : Kd.C Kd.bool w (some ⟨g, 0, none⟩) l.length l := by
  refine ⟨rfl, by omega, fun _ => ⟨_, rfl, fun j p hj => ⟨[.bool p], rfl, rfl, fun i u hu => ?_⟩⟩⟩
  obtain ⟨hl, hp⟩ := List.getElem?_eq_some_iff.1 hj
  have h0 : i = 0 := by
    rcases i with _ | i
    · rfl
    · simp at hu
  subst h0
  have hu' : Value.bool p = u := by simpa using hu
  have hc := h.cell j hl
  rw [List.getD_eq_getElem?_getD, hj] at hc
  have e : (⟨g, 0, none⟩ : Addr).add (j * Kd.bool.sz + 0) = ⟨g, j, none⟩ := by
    show (⟨g, 0, none⟩ : Addr).add (j * 1 + 0) = ⟨g, j, none⟩
    rw [Nat.mul_one, Nat.add_zero]
    unfold Addr.add; split <;> simp_all
  rw [e, ← hu']
  exact hc
def marked (n i : Nat) : List Bool := List.replicate i true ++ List.replicate (n - i) false
theorem marked_len {n i : Nat} (h : i ≤ n) : (marked n i).length = n := by simp [marked]; omega
theorem marked_set {n i : Nat} (h : i < n) : (marked n i).set i true = marked n (i + 1) := by
  unfold marked
  apply List.ext_getElem
  · simp; omega
  · intro j h1 h2
    simp only [List.length_set, List.length_append, List.length_replicate] at h1
    rw [List.getElem_set]
    by_cases e : i = j
    · subst e; simp
    · rw [if_neg e]
      simp only [List.getElem_append, List.length_replicate, List.getElem_replicate]
      split <;> split <;> first | rfl | omega
set_option maxHeartbeats 4000000 in
set_option maxRecDepth 100000 in
theorem isOpen_walk (k : Nat) (A0 : Option Addr) (c0 : Nat) (l0 : List Int) (A1 : Option Addr) (c1 : Nat) (l1 : List S55) (n : Nat) (hn0 : l0.length = n) (hn : n ≤ 1000000) (M : List Bool) (b : Bool) (w : World)
    (hr1 : Kd.C k55 w A1 l1.length l1) (hc1 : l1.length ≤ c1) (hM : openRounds k l1 n n = some M) (hb : slices_Contains_bool_bool.f k M true = some b) :
    Calls Try.prog 54 #[.agg #[.slice A0 l0.length c0, .slice A1 l1.length c1]] w fun e w' => e = .returned (.bool (!b)) ∧ Below w.heap.size w w' := by
  have HR1 := Aside0.mk hr1
  have HC1 := Aside0.mk hc1
  have HM := Aside0.mk hM
  have Hb := Aside0.mk hb
  clear hr1 hc1 hM hb
  have HB := Aside0.mk (Below.refl w.heap.size w)
  rw [hn0]
  clear hn0
  go_enter Try.func54, Try.ntmps54
  go_wp2_with (first
    | ((with_reducible refine gate_dst (N := 1) rfl ?_); refine box_event ?hg (N := 1) ?hd (cs := #[.slice A0 n c0, .slice A1 l1.length c1]) (t := 36) ?hr ?_; (case hd => rfl); (case hg => rfl); (case hr => first | (go_simp; done) | (go_simp; rfl)); intro g1 hg wn hbox hb; have GE1 := Aside0.mk (by rw [hg]; exact below_size HB.out : w.heap.size ≤ g1); clear hg; have BK10 := Aside0.mk hbox; clear hbox; have n0_ := Aside0.mk (below_step HB.out hb); clear HB  hb; have HB := n0_; clear n0_ ; have BK1 := BK10; clear BK10; have c1_0 : wn.cell? ⟨g1, 0, none⟩ = some (.slice A0 n c0) := (blk_cell BK1.out 0).trans rfl; have c1_1 : wn.cell? ⟨g1, 1, none⟩ = some (.slice A1 l1.length c1) := (blk_cell BK1.out 1).trans rfl)
    | ((with_reducible refine gate_dst (N := 10) rfl ?_); refine make_bools ?hg (N := 10) ?hd 99 4 (.tmp 9) (.tmp 9) ?ho n rfl rfl Try.underlying99 info4b rfl (by omega) ?_; (case hd => rfl); (case hg => rfl); (case ho => rfl); intro gL wn hgL hL hb; have GL := Aside0.mk (by rw [hgL]; exact below_size HB.out : w.heap.size ≤ gL); have NE1_L := Aside0.mk (show g1 ≠ gL by have := blk_lt BK1.out; omega); clear hgL; have BL0 := Aside0.mk hL; clear hL; have n0_ := Aside0.mk (below_step HB.out hb); have m1_ := Aside0.mk (blk_below BK1.out hb); clear HB BK1 hb; have HB := n0_; have BK1 := m1_; clear n0_ m1_; have c1_0 : wn.cell? ⟨g1, 0, none⟩ = some (.slice A0 n c0) := (blk_cell BK1.out 0).trans rfl; have c1_1 : wn.cell? ⟨g1, 1, none⟩ = some (.slice A1 l1.length c1) := (blk_cell BK1.out 1).trans rfl; have BL := BL0; clear BL0)
    | ((with_reducible refine gate_dst (N := 3) rfl ?_); refine box_event ?hg (N := 3) ?hd (cs := #[.slice none 0 0]) (t := 99) ?hr ?_; (case hd => rfl); (case hg => rfl); (case hr => first | (go_simp; done) | (go_simp; rfl)); intro g3 hg wn hbox hb; have GE3 := Aside0.mk (by rw [hg]; exact below_size HB.out : w.heap.size ≤ g3); have NE1_3 := Aside0.mk (show g1 ≠ g3 by have := blk_lt BK1.out; omega); have NEL_3 := Aside0.mk (show gL ≠ g3 by have := blk_lt BL.out; omega); clear hg; have BK30 := Aside0.mk hbox; clear hbox; have nL_ := Aside0.mk (BL.out.below hb); clear BL; have BL := nL_; clear nL_; have n0_ := Aside0.mk (below_step HB.out hb); have m1_ := Aside0.mk (blk_below BK1.out hb); clear HB BK1 hb; have HB := n0_; have BK1 := m1_; clear n0_ m1_; have c1_0 : wn.cell? ⟨g1, 0, none⟩ = some (.slice A0 n c0) := (blk_cell BK1.out 0).trans rfl; have c1_1 : wn.cell? ⟨g1, 1, none⟩ = some (.slice A1 l1.length c1) := (blk_cell BK1.out 1).trans rfl; have BK3 := BK30; clear BK30; have z3_0 := blk_frozen BK3.out 0; have c3_0 : wn.cell? ⟨g3, 0, none⟩ = some (.slice none 0 0) := (blk_cell BK3.out 0).trans rfl))
  have p1 := Aside0.mk (blk_far BK1.out (p := ⟨g3, 0, none⟩) NE1_3.out (.slice (some ⟨gL, 0, none⟩) n n))
  have pL : Aside0 (Bools _ gL (List.replicate n false)) := ⟨blk_far BL.out (p := ⟨g3, 0, none⟩) NEL_3.out (.slice (some ⟨gL, 0, none⟩) n n)⟩
  have p3 := Aside0.mk (blk_put BK3.out 0 (.slice (some ⟨gL, 0, none⟩) n n) (cs' := #[.slice (some ⟨gL, 0, none⟩) n n]) rfl)
  have pb := Aside0.mk (below_set (j := 0) (v := .slice (some ⟨gL, 0, none⟩) n n) HB.out GE3.out)
  clear HB BK1 BK3 BL
  generalize wn.setCell ⟨g3, 0, none⟩ (.slice (some ⟨gL, 0, none⟩) n n) = W1 at p1 pL p3 pb ⊢
  clear z3_0 c3_0 c1_0 c1_1
  go_loopg [13] n (fun kq v13 w' => ∃ i : Nat, v13 = .int .i64 i ∧ Aside0 (i + kq = n) ∧ Aside0 (w'.heap[g1]? = some (.cells #[.slice A0 n c0, .slice A1 l1.length c1] 36 (0, 0))) ∧ Aside0 (w'.heap[g3]? = some (.cells #[.slice (some ⟨gL, 0, none⟩) n n] 99 (0, 0))) ∧ Aside0 (Bools w' gL (marked n i)) ∧ Aside0 (Below w.heap.size w w'))
  case atStart => exact ⟨0, by first | rfl | simp, ⟨by omega⟩, p1, p3, ⟨by simpa [marked] using pL.out⟩, pb⟩
  case round =>
    clear p1 pL p3 pb
    obtain ⟨i, rfl, HE, Q1, Q3, QL, QB⟩ := hrel
    have c3 : wr.cell? ⟨g3, 0, none⟩ = some (.slice (some ⟨gL, 0, none⟩) n n) := (blk_cell Q3.out 0).trans rfl
    by_cases hlt : i < n
    · cases gk with
      | zero => have := HE.out; omega
      | succ gq =>
      have zL := QL.out.frozen i
      have cL := QL.out.cell i (by rw [marked_len]; omega; omega)
      go_wp2
      go_roundg gq
      case measure => omega
      case rel => exact ⟨i + 1, by go_num, ⟨by have := HE.out; omega⟩, ⟨blk_far Q1.out (p := ⟨gL, i, none⟩) NE1_L.out _⟩, ⟨blk_far Q3.out (p := ⟨gL, i, none⟩) (Ne.symm NEL_3.out) _⟩, ⟨by rw [← marked_set hlt]; exact QL.out.put i true⟩, ⟨QB.out.setCell GL.out _⟩⟩
    · have e : i = n := by have := HE.out; omega
      subst e
      clear hlt HE
      go_wp2
      obtain ⟨wo, rfl⟩ : ∃ wo : World, wo = wr := ⟨_, rfl⟩
      go_loopg [22] i (fun kq v22 w' => ∃ (m : Nat) (X : List Bool), v22 = .int .i64 m ∧ Aside0 (m + kq = i) ∧ Aside0 (openRounds k l1 i m = some X) ∧ Aside0 (w'.heap[g1]? = some (.cells #[.slice A0 i c0, .slice A1 l1.length c1] 36 (0, 0))) ∧ Aside0 (w'.heap[g3]? = some (.cells #[.slice (some ⟨gL, 0, none⟩) i i] 99 (0, 0))) ∧ Aside0 (Bools w' gL X) ∧ Aside0 (Below w.heap.size w w'))
      case atStart => exact ⟨0, _, by first | rfl | simp, ⟨by omega⟩, ⟨rfl⟩, Q1, Q3, ⟨by simpa [marked] using QL.out⟩, QB⟩
      case round =>
        clear Q1 Q3 QL QB c3
        obtain ⟨m, X, rfl, HE, HX, Q1, Q3, QL, QB⟩ := hrel
        have c3 : wr.cell? ⟨g3, 0, none⟩ = some (.slice (some ⟨gL, 0, none⟩) i i) := (blk_cell Q3.out 0).trans rfl
        by_cases hlt : m < i
        · cases gk with
          | zero => have := HE.out; omega
          | succ gq =>
          obtain ⟨X', hX'⟩ := openRounds_pre HM.out (m + 1) (by omega)
          obtain ⟨X0, hX0, hXr⟩ := Option.bind_eq_some_iff.mp hX'
          obtain rfl := Option.some.inj (HX.out.symm.trans hX0)
          have HX' := Aside0.mk hX'
          have HXr := Aside0.mk hXr
          have HXl := Aside0.mk (openRounds_len HX.out)
          clear hX' hX0 hXr
          go_wp2
          obtain ⟨wo2, rfl⟩ : ∃ wo2 : World, wo2 = wr := ⟨_, rfl⟩
          go_loopg [26] i (fun kq v26 w' => ∃ (j : Nat) (Y : List Bool), v26 = .int .i64 j ∧ Aside0 (j + kq = i) ∧ Aside0 (openRound k l1 j X = some Y) ∧ Aside0 (w'.heap[g1]? = some (.cells #[.slice A0 i c0, .slice A1 l1.length c1] 36 (0, 0))) ∧ Aside0 (w'.heap[g3]? = some (.cells #[.slice (some ⟨gL, 0, none⟩) i i] 99 (0, 0))) ∧ Aside0 (Bools w' gL Y) ∧ Aside0 (Below w.heap.size w w'))
          case atStart => exact ⟨0, X, by first | rfl | simp, ⟨by omega⟩, ⟨rfl⟩, Q1, Q3, QL, QB⟩
          case round =>
            clear Q1 Q3 QL QB c3
            obtain ⟨j, Y, rfl, HJ, HY, Q1, Q3, QL, QB⟩ := hrel
            have c1_0 : wr.cell? ⟨g1, 0, none⟩ = some (.slice A0 i c0) := (blk_cell Q1.out 0).trans rfl
            have c1_1 : wr.cell? ⟨g1, 1, none⟩ = some (.slice A1 l1.length c1) := (blk_cell Q1.out 1).trans rfl
            have c3 : wr.cell? ⟨g3, 0, none⟩ = some (.slice (some ⟨gL, 0, none⟩) i i) := (blk_cell Q3.out 0).trans rfl
            by_cases hlj : j < i
            · cases gk with
              | zero => have := HJ.out; omega
              | succ gq2 =>
              obtain ⟨Y', hY'⟩ := openRound_pre HXr.out (j + 1) (by omega)
              obtain ⟨Y0, hY0, hYs⟩ := Option.bind_eq_some_iff.mp hY'
              obtain rfl := Option.some.inj (HY.out.symm.trans hY0)
              have HYl := Aside0.mk ((openRound_len HY.out).trans HXl.out)
              have hYs' := hYs
              obtain ⟨r, hr, hYe⟩ := Option.bind_eq_some_iff.mp hYs'
              have HYe := Aside0.mk (Option.some.inj hYe)
              have HR := Aside0.mk hr
              have HY' := Aside0.mk hY'
              clear hY0 hYs hYs' hr hYe hY'
              go_wp2_with (first
                | ((with_reducible refine gate_dst (N := 5) rfl ?_); refine box_event ?hg (N := 5) ?hd (cs := #[.int .i64 0]) (t := 3) ?hr ?_; (case hd => rfl); (case hg => rfl); (case hr => first | (go_simp; done) | (go_simp; rfl)); intro g5 hg wn hbox hb; have GE5 := Aside0.mk (by rw [hg]; exact below_size QB.out : w.heap.size ≤ g5); have NE1_5 := Aside0.mk (show g1 ≠ g5 by have := blk_lt Q1.out; omega); have NE3_5 := Aside0.mk (show g3 ≠ g5 by have := blk_lt Q3.out; omega); have NEL_5 := Aside0.mk (show gL ≠ g5 by have := blk_lt QL.out; omega); clear hg; have B5 := Aside0.mk hbox; clear hbox; have n0_ := Aside0.mk (below_step QB.out hb); have n1_ := Aside0.mk (blk_below Q1.out hb); have n3_ := Aside0.mk (blk_below Q3.out hb); have nL_ := Aside0.mk (QL.out.below hb); clear QB Q1 Q3 QL hb c3 c1_0 c1_1; have QB := n0_; have Q1 := n1_; have Q3 := n3_; have QL := nL_; clear n0_ n1_ n3_ nL_; have z5 := blk_frozen B5.out 0; have c5 : wn.cell? ⟨g5, 0, none⟩ = some (.int .i64 0) := (blk_cell B5.out 0).trans rfl; have c1s0 : ∀ v, (wn.setCell ⟨g5, 0, none⟩ v).cell? ⟨g1, 0, none⟩ = some (.slice A0 i c0) := fun v => (blk_cell (blk_far Q1.out (p := ⟨g5, 0, none⟩) NE1_5.out v) 0).trans rfl; have c1s1 : ∀ v, (wn.setCell ⟨g5, 0, none⟩ v).cell? ⟨g1, 1, none⟩ = some (.slice A1 l1.length c1) := fun v => (blk_cell (blk_far Q1.out (p := ⟨g5, 0, none⟩) NE1_5.out v) 1).trans rfl)
                | (go_at_call 83; have q1 := Aside0.mk (blk_far Q1.out (p := ⟨g5, 0, none⟩) NE1_5.out (.int .i64 (j : Int))); have q3 := Aside0.mk (blk_far Q3.out (p := ⟨g5, 0, none⟩) NE3_5.out (.int .i64 (j : Int))); have qL : Aside0 (Bools _ gL Y) := ⟨blk_far QL.out (p := ⟨g5, 0, none⟩) NEL_5.out (.int .i64 (j : Int))⟩; have q5 := Aside0.mk (blk_put B5.out 0 (.int .i64 (j : Int)) (cs' := #[.int .i64 (j : Int)]) rfl); have qb := Aside0.mk (below_set (j := 0) (v := .int .i64 (j : Int)) QB.out GE5.out); clear QB Q1 Q3 QL B5 c5 z5 c1s0 c1s1; refine (@has83 (leadC Y j) k A1 c1 l1 r 85 Try.f85 #[.pointer (some ⟨g5, 0, none⟩), .pointer (some ⟨g3, 0, none⟩)] ⟨Try.func85, rfl, by kernel_rfl⟩ _ (OpenCl j i g5 g3 gL Y _ hn HYl.out q5.out q3.out qL.out) (Kd.C_below HR1.out qb.out) HC1.out HR.out).mono ?_; rintro e wz ⟨rfl, hb⟩; have n0_ := Aside0.mk (below_step qb.out hb); have n1_ := Aside0.mk (blk_below q1.out hb); have n3_ := Aside0.mk (blk_below q3.out hb); have n5_ := Aside0.mk (blk_below q5.out hb); have nL_ := Aside0.mk (qL.out.below hb); clear qb q1 q3 q5 qL hb; have QB := n0_; have Q1 := n1_; have Q3 := n3_; have B5 := n5_; have QL := nL_; clear n0_ n1_ n3_ n5_ nL_; have c3 : wz.cell? ⟨g3, 0, none⟩ = some (.slice (some ⟨gL, 0, none⟩) i i) := (blk_cell Q3.out 0).trans rfl; have c5 : wz.cell? ⟨g5, 0, none⟩ = some (.int .i64 (j : Int)) := (blk_cell B5.out 0).trans rfl; have zL := QL.out.frozen j))
              have cL := QL.out.cell j (by rw [HYl.out]; exact hlj)
              have HYe2 := HYe
              cases hy : Y.getD j false with
              | false =>
                rw [hy] at cL HYe2
                have HYe3 : Aside0 (Y.set j false = Y') := ⟨by simpa using HYe2.out⟩
                clear hy HYe HYe2
                go_region
                go_wp2
                go_roundg gq2
                case measure => omega
                case rel => exact ⟨j + 1, Y', by go_num, ⟨by have := HJ.out; omega⟩, HY', ⟨blk_far Q1.out (p := ⟨gL, j, none⟩) NE1_L.out _⟩, ⟨blk_far Q3.out (p := ⟨gL, j, none⟩) (Ne.symm NEL_3.out) _⟩, ⟨by rw [← HYe3.out]; exact QL.out.put j false⟩, ⟨by first | exact below_drew1 (QB.out.setCell GL.out _) | exact QB.out.setCell GL.out _⟩⟩
              | true =>
                rw [hy] at cL HYe2
                have HYe3 : Aside0 (Y.set j (decide (r ≥ 0)) = Y') := ⟨by simpa using HYe2.out⟩
                clear hy HYe HYe2
                go_region
                go_wp2
                go_roundg gq2
                case measure => omega
                case rel => exact ⟨j + 1, Y', by go_num, ⟨by have := HJ.out; omega⟩, HY', ⟨blk_far Q1.out (p := ⟨gL, j, none⟩) NE1_L.out _⟩, ⟨blk_far Q3.out (p := ⟨gL, j, none⟩) (Ne.symm NEL_3.out) _⟩, ⟨by rw [← HYe3.out]; exact QL.out.put j (decide (r ≥ 0))⟩, ⟨by first | exact below_drew1 (QB.out.setCell GL.out _) | exact QB.out.setCell GL.out _⟩⟩
            · have e : j = i := by have := HJ.out; omega
              have HYY : Aside0 (Y = X') := ⟨by have h1 := HY.out; rw [e] at h1; exact Option.some.inj (h1.symm.trans HXr.out)⟩
              have f1 : decide ((j : Int) < (i : Int)) = false := decide_eq_false (by omega)
              have f2 : decide (j < i) = false := decide_eq_false hlj
              clear hlj e
              go_wp2
              go_roundg gq
              case measure => omega
              case rel => exact ⟨m + 1, X', by go_num, ⟨by have := HE.out; omega⟩, HX', Q1, Q3, ⟨by rw [← HYY.out]; exact QL.out⟩, QB⟩
        · have e : m = i := by have := HE.out; omega
          have HXM : Aside0 (X = M) := ⟨by have h1 := HX.out; rw [e] at h1; exact Option.some.inj (h1.symm.trans HM.out)⟩
          have HML : Aside0 (M.length = i) := ⟨openRounds_len HM.out⟩
          have f1 : decide ((m : Int) < (i : Int)) = false := decide_eq_false (by omega)
          have f2 : decide (m < i) = false := decide_eq_false hlt
          clear hlt e
          have QM : Aside0 (Bools wr gL M) := ⟨by rw [← HXM.out]; exact QL.out⟩
          have T := Aside0.mk (slices_Contains_bool_bool.calls k (some ⟨gL, 0, none⟩) i M true b wr (bools_C QM.out (by rw [HML.out]; exact hn)) (by rw [HML.out]; exact Nat.le_refl _) Hb.out)
          rw [HML.out] at T
          go_wp2_with (first | (go_at_call 86; refine T.out.mono ?_; rintro e wz ⟨rfl, hb0⟩))
          go_ret
          exact ⟨rfl, by obtain ⟨m0, rfl⟩ := hb0; exact pw_below_drewN QB.out _⟩
theorem openStep_mono (k : Nat) (ws : List S55) (i : Nat) (L : List Bool) : LeO (openStep k ws i L) (openStep (k + 1) ws i L) := LeO.bind (@impl_Wire_102.mono (leadC L i) ws 0 k) (fun _ => LeO.refl _)
theorem openRound_mono (k : Nat) (ws : List S55) : ∀ (i : Nat) (L : List Bool), LeO (openRound k ws i L) (openRound (k + 1) ws i L)
  | 0, _ => LeO.refl _
  | i + 1, L => LeO.bind (openRound_mono k ws i L) (fun M => openStep_mono k ws i M)
theorem openRounds_mono (k : Nat) (ws : List S55) (n : Nat) : ∀ m, LeO (openRounds k ws n m) (openRounds (k + 1) ws n m)
  | 0 => LeO.refl _
  | m + 1 => LeO.bind (openRounds_mono k ws n m) (fun M => openRound_mono k ws n M)
def impl_Flow_isOpen.f (k : Nat) (l0 : List Int) (l1 : List S55) : Option Bool :=
  if l0.length ≤ 1000000 then (openRounds k l1 l0.length l0.length).bind fun M => (slices_Contains_bool_bool.f k M true).bind fun b => some (!b) else none
theorem impl_Flow_isOpen.mono : ∀ a0 a1 k, LeO (impl_Flow_isOpen.f k a0 a1) (impl_Flow_isOpen.f (k + 1) a0 a1) := by
  intro l0 l1 k
  unfold impl_Flow_isOpen.f
  split
  · exact LeO.bind (openRounds_mono k l1 l0.length l0.length) (fun M => LeO.bind (slices_Contains_bool_bool.mono M true k) (fun _ => LeO.refl _))
  · exact LeO.refl _
theorem impl_Flow_isOpen.calls (k : Nat) (A0_0 : Option Addr) (c0_0 : Nat) (l0_0 : List Int) (A0_1 : Option Addr) (c0_1 : Nat) (l0_1 : List (S55)) (r : Bool) (w : World) (hr0_0 : Kd.C (Kd.int .i64) w A0_0 l0_0.length l0_0) (hc0_0 : l0_0.length ≤ c0_0) (hr0_1 : Kd.C k55 w A0_1 l0_1.length l0_1) (hc0_1 : l0_1.length ≤ c0_1) (h : impl_Flow_isOpen.f k l0_0 l0_1 = some r) :
    Calls Try.prog 54 #[.agg #[.slice A0_0 l0_0.length c0_0, .slice A0_1 l0_1.length c0_1]] w fun e w' => e = .returned (.bool r) ∧ Below w.heap.size w w' := by
  unfold impl_Flow_isOpen.f at h
  by_cases hn : l0_0.length ≤ 1000000
  · rw [if_pos hn] at h
    obtain ⟨M, hM, h⟩ := Option.bind_eq_some_iff.mp h
    obtain ⟨b, hb, h⟩ := Option.bind_eq_some_iff.mp h
    obtain rfl := Option.some.inj h
    exact isOpen_walk k A0_0 c0_0 l0_0 A0_1 c0_1 l0_1 l0_0.length rfl hn M b w hr0_1 hc0_1 hM hb
  · rw [if_neg hn] at h
    exact absurd h (by simp)
end Go.Proofs.Ytojpibpjieanhaa.X
end
