/- My own texts of this seat and its words, merged: XDrawOk, XR8Flow, CSets, CGraph, COpen, Xp47, Xp99, XAreMoves, Xp82, Xp102, XIsFlow. Conditions: as each lemma says. -/
import Derived.Test.YtojpibpjieanhaaO21
import Derived.Test.YtojpibpjieanhaaO22
import Derived.Deep.RegionHeld3
section
namespace Go.Proofs.Ytojpibpjieanhaa.X
open Go.RowKit Go.Proofs.YtojpibpjieanhaaW.PrintWords Go.Proofs.YtojpibpjieanhaaW.PrintLast Go.Proofs.YtojpibpjieanhaaW.PrintMore
set_option linter.unusedVariables false
set_option linter.unusedSimpArgs false
def drawDs (code : List Int) (n : Int) : Nat → Nat → List Int → Int → Int → Option (List Int × Int × Int)
  | 0, _, _, _, _ => none
  | e + 1, v, d, a, s => if (v : Int) < n then (if v < 1000000 ∧ d.length < 1000000 then (spec_l00Src_pick.f code a s 9).bind fun p => drawDs code n e (v + 1) (d ++ [p.1]) p.2.1 p.2.2 else none) else some (d, a, s)
def drawWs (K : Nat) (code : List Int) (n : Int) (d : List Int) : Nat → List S55 → Int → Int → Option (List S55)
  | 0, ws, _, _ => some ws
  | e + 1, ws, a, s => if ws.length < 1000000 then (spec_l00Src_pick.f code a s n).bind fun p => (spec_l00Src_pick.f code p.2.1 p.2.2 n).bind fun q => (spec_l00Src_pick.f code q.2.1 q.2.2 3).bind fun r =>
      (spec_l08Is.f K d (ws ++ [⟨p.1, q.1, r.1⟩])).bind fun b => drawWs K code n d e (if b = true then ws ++ [⟨p.1, q.1, r.1⟩] else ws) r.2.1 r.2.2 else none
def drawFl (K : Nat) (code : List Int) (a s : Int) : Option (List Int × List S55) :=
  (spec_l00Src_pick.f code a s 5).bind fun p => (drawDs code (wrap64 (1 + p.1)) K 0 [] p.2.1 p.2.2).bind fun q => (spec_l00Src_pick.f code q.2.1 q.2.2 9).bind fun r => if 0 ≤ r.1 ∧ r.1 ≤ 1000000 then (drawWs K code (wrap64 (1 + p.1)) q.1 r.1.toNat [] r.2.1 r.2.2).bind fun ws => some (q.1, ws) else none
structure DrW (w0 we : World) (code : List Int) (g g2 g4 : Nat) (a s : Int) (d : List Int) (ws : List S55) (w : World) : Prop where
  I : IsS110 w0 w g code a s
  bel : Below w0.heap.size w0 w
  kb : KeepBut we w g none
  b4 : ∃ A c A1 c1, w.heap[g4]? = some (.cells #[.slice A d.length c, .slice A1 ws.length c1] 36 (0, 0)) ∧ Kd.R (Kd.int .i64) 2 w we.heap.size (fun k => k ≠ g ∧ k ≠ g4) (.slice A d.length c) d ∧ Kd.R k55 55 w we.heap.size (fun k => k ≠ g ∧ k ≠ g4) (.slice A1 ws.length c1) ws
  h4 : we.heap.size ≤ g4
  ne : g4 ≠ g
  b2 : w.heap[g2]? = some (.cells #[.slice none 0 0, .slice none 0 0] 36 (0, 0))
  h2 : we.heap.size ≤ g2
  ne2 : g2 ≠ g
  ne24 : g2 ≠ g4
  h0 : w0.heap.size ≤ we.heap.size
variable {w0 we w w1 : World} {code : List Int} {g g2 g4 : Nat} {a s : Int} {d : List Int} {ws : List S55}
theorem DrW.move (h : DrW w0 we code g g2 g4 a s d ws w) (hb : Below w.heap.size w w1) : DrW w0 we code g g2 g4 a s d ws w1 := by
  obtain ⟨A, c, A1, c1, q1, q2, q3⟩ := h.b4
  exact ⟨h.I.below hb, below_step h.bel hb, h.kb.trans (KeepBut.of_below hb g none) (.inl rfl), ⟨A, c, A1, c1, blk_below q1 hb, Kd.R_below q2 hb, Kd.R_below q3 hb⟩, h.h4, h.ne, blk_below h.b2 hb, h.h2, h.ne2, h.ne24, h.h0⟩
theorem DrW.pick (h : DrW w0 we code g g2 g4 a s d ws w) {a' s' : Int} (hi : IsS110 w0 w1 g code a' s') (hb : Below w0.heap.size w0 w1) (hk : KeepBut w w1 g none) : DrW w0 we code g g2 g4 a' s' d ws w1 := by
  obtain ⟨A, c, A1, c1, q1, q2, q3⟩ := h.b4
  exact ⟨hi, hb, h.kb.trans hk (.inl rfl), ⟨A, c, A1, c1, hk.blk q1 h.ne (by simp), Kd.R_step q2 (fun k ho hl => hk.2 k hl ho.1 (by simp)), Kd.R_step q3 (fun k ho hl => hk.2 k hl ho.1 (by simp))⟩, h.h4, h.ne, hk.blk h.b2 h.ne2 (by simp), h.h2, h.ne2, h.ne24, h.h0⟩
theorem DrW.put2 (h : DrW w0 we code g g2 g4 a s d ws w) {A A2 : Option Addr} {c c2 : Nat} {ws2 : List S55} (q2 : Kd.R (Kd.int .i64) 2 w we.heap.size (fun k => k ≠ g ∧ k ≠ g4) (.slice A d.length c) d) (q3 : Kd.R k55 55 w we.heap.size (fun k => k ≠ g ∧ k ≠ g4) (.slice A2 ws2.length c2) ws2) : DrW w0 we code g g2 g4 a s d ws2 ((w.setCell ⟨g4, 0, none⟩ (.slice A d.length c)).setCell ⟨g4, 1, none⟩ (.slice A2 ws2.length c2)) := by
  obtain ⟨A0, c0, A1, c1, p1, _, _⟩ := h.b4
  have h04 : w0.heap.size ≤ g4 := Nat.le_trans h.h0 h.h4
  exact ⟨(h.I.far (p := ⟨g4, 0, none⟩) h.ne.symm _).far (p := ⟨g4, 1, none⟩) h.ne.symm _, (h.bel.setCell (p := ⟨g4, 0, none⟩) h04 _).setCell (p := ⟨g4, 1, none⟩) h04 _, keep_far (p := ⟨g4, 1, none⟩) (keep_far (p := ⟨g4, 0, none⟩) h.kb h.h4 _) h.h4 _,
    ⟨A, c, A2, c2, blk_put (cs' := #[.slice A d.length c, .slice A2 ws2.length c2]) (blk_put (cs' := #[.slice A d.length c, .slice A1 ws.length c1]) p1 0 _ rfl) 1 _ rfl, Kd.R_far (p := ⟨g4, 1, none⟩) (Kd.R_far (p := ⟨g4, 0, none⟩) q2 (fun _ hk => hk.2) _) (fun _ hk => hk.2) _, Kd.R_far (p := ⟨g4, 1, none⟩) (Kd.R_far (p := ⟨g4, 0, none⟩) q3 (fun _ hk => hk.2) _) (fun _ hk => hk.2) _⟩, h.h4, h.ne, blk_far (blk_far h.b2 (p := ⟨g4, 0, none⟩) h.ne24 _) (p := ⟨g4, 1, none⟩) h.ne24 _, h.h2, h.ne2, h.ne24, h.h0⟩
theorem row_ne {α : Type} {k : Kd α} {W : World} {base Z e t : Nat} {ok : Nat → Prop} {v : Value} {xs : List α} {cs : Array Value} (h : Kd.R k e W base ok v xs) (hz : W.heap[Z]? = some (.cells cs t (0, 0))) (hne : t ≠ e) : some Z ≠ v.ownBlock := by
  intro e0
  obtain ⟨c2, q2⟩ := Kd.R_typed h Z e0.symm
  rw [hz] at q2
  injection q2 with q2
  injection q2 with _ q2
  exact hne q2
theorem R_two {α : Type} {k : Kd α} {W : World} {base Z e t : Nat} {v : Value} {xs : List α} {cs : Array Value} (h : Kd.R k e W base (fun _ => True) v xs) (hz : W.heap[Z]? = some (.cells cs t (0, 0))) (hne : t ≠ e) (hE : k.E = []) (u0 u1 : Value) : Kd.R k e ((W.setCell ⟨Z, 0, none⟩ u0).setCell ⟨Z, 1, none⟩ u1) base (fun _ => True) v xs :=
  Kd.R_mono (Kd.R_far (p := ⟨Z, 1, none⟩) (Kd.R_far (p := ⟨Z, 0, none⟩) (Kd.R_far1 h hE (row_ne h hz hne)) (fun _ hk => hk.2) u0) (fun _ hk => hk.2) u1) (fun _ _ => trivial)
theorem blk_two {W : World} {Z t : Nat} {a b : Value} (hz : W.heap[Z]? = some (.cells #[a, b] t (0, 0))) (u0 u1 : Value) : ((W.setCell ⟨Z, 0, none⟩ u0).setCell ⟨Z, 1, none⟩ u1).heap[Z]? = some (.cells #[u0, u1] t (0, 0)) :=
  blk_put (cs' := #[u0, u1]) (blk_put (cs' := #[u0, b]) hz 0 u0 rfl) 1 u1 rfl
def PickR (w0 w : World) (code : List Int) (g : Nat) (x xa xs : Int) (v : Value) (w' : World) : Prop := v = .int .i64 x ∧ IsS110 w0 w' g code xa xs ∧ Below w0.heap.size w0 w' ∧ KeepBut w w' g none
theorem pick_call {w0 w : World} {code : List Int} {g : Nat} {a s n x xa xs : Int} (hI : IsS110 w0 w g code a s) (hB : Below w0.heap.size w0 w) (h : spec_l00Src_pick.f code a s n = some (x, xa, xs)) : Calls Try.prog 96 (#[.pointer (some ⟨g, 0, none⟩), .int .i64 n] ++ #[]) w fun e w' => ∃ v, e = .returned v ∧ PickR w0 w code g x xa xs v w' :=
  (spec_l00Src_pick.calls g code a s n x xa xs w0 w hI hB h).mono (fun e w' h => ⟨_, h.1, rfl, h.2⟩)
theorem own_apart {α β : Type} {k : Kd α} {k' : Kd β} {e e' : Nat} {base base' : Nat} {ok ok' : Nat → Prop} {v v' : Value} {xs : List α} {ys : List β} (h : Kd.R k e w base ok v xs) (h' : Kd.R k' e' w base' ok' v' ys) (hne : e ≠ e') : ∀ j, v.ownBlock = some j → some j ≠ v'.ownBlock := by
  intro j hj e0
  obtain ⟨c1, q1⟩ := Kd.R_typed h j hj
  obtain ⟨c2, q2⟩ := Kd.R_typed h' j e0.symm
  rw [q1] at q2
  injection q2 with q2
  injection q2 with _ q2
  exact hne q2
theorem DrW.fresh (h : DrW w0 we code g g2 g4 a s d ws w) (hb : Below w.heap.size w w1) : ∀ j, w1.heap.size ≤ j → j ≠ g ∧ j ≠ g4 := by
  intro j hj
  obtain ⟨A, c, A1, c1, q1, _, _⟩ := h.b4
  have h1 := h.I.lt
  have h2 := blk_lt q1
  have h3 := below_size hb
  exact ⟨by omega, by omega⟩
theorem DrW.put0 (h : DrW w0 we code g g2 g4 a s d ws w) {W w9 : World} {A A1 A9 : Option Addr} {c c1 c9 : Nat} {d' : List Int} (hb : Below w.heap.size w W) (q1 : w.heap[g4]? = some (.cells #[.slice A d.length c, .slice A1 ws.length c1] 36 (0, 0)))
    (q2 : Kd.R (Kd.int .i64) 2 w we.heap.size (fun k => k ≠ g ∧ k ≠ g4) (.slice A d.length c) d) (q3 : Kd.R k55 55 w we.heap.size (fun k => k ≠ g ∧ k ≠ g4) (.slice A1 ws.length c1) ws) (hg : W.grownBy w9 (Value.slice A d.length c).ownBlock)
    (hR : Kd.R (Kd.int .i64) 2 w9 we.heap.size (fun k => k ≠ g ∧ k ≠ g4) (.slice A9 d'.length c9) d') : w9.heap[g4]? = some (.cells #[.slice A d.length c, .slice A1 ws.length c1] 36 (0, 0)) ∧ DrW w0 we code g g2 g4 a s d' ws (w9.setCell ⟨g4, 0, none⟩ (.slice A9 d'.length c9)) := by
  have n1 : some g ≠ (Value.slice A d.length c).ownBlock := fun e => (q2.1 g e.symm).1 rfl
  have n4 : some g4 ≠ (Value.slice A d.length c).ownBlock := fun e => (q2.1 g4 e.symm).2 rfl
  have n2 : some g2 ≠ (Value.slice A d.length c).ownBlock := fun e => by
    obtain ⟨cs, q⟩ := Kd.R_typed q2 g2 e.symm
    rw [h.b2] at q
    injection q with q
    injection q with _ q
    exact absurd q (by decide)
  have hbase := Kd.R_base q2
  have hq9 := blk_grown (blk_below q1 hb) hg n4
  have hI := (h.I.below hb).grown hg n1
  have h04 : w0.heap.size ≤ g4 := Nat.le_trans h.h0 h.h4
  refine ⟨hq9, hI.far (p := ⟨g4, 0, none⟩) h.ne.symm _, ((below_step h.bel hb).grown hg (below_size (below_step h.bel hb)) (fun k hk => Nat.le_trans h.h0 (hbase k hk))).setCell (p := ⟨g4, 0, none⟩) h04 _, ?_, ⟨A9, c9, A1, c1, blk_put hq9 0 _ rfl, Kd.R_far (p := ⟨g4, 0, none⟩) hR (fun _ hk => hk.2) _, Kd.R_far (p := ⟨g4, 0, none⟩) (Kd.R_grown2 (Kd.R_below q3 hb) rfl hg (fun k hk => own_apart q2 q3 (by decide) k hk)) (fun _ hk => hk.2) _⟩, h.h4, h.ne, blk_far (blk_grown (blk_below h.b2 hb) hg n2) (p := ⟨g4, 0, none⟩) h.ne24 _, h.h2, h.ne2, h.ne24, h.h0⟩
  refine keep_far (p := ⟨g4, 0, none⟩) ?_ h.h4 _
  refine (h.kb.trans (KeepBut.of_below hb g none) (.inl rfl)).trans (KeepBut.of_grown hg g) ?_
  cases hv : (Value.slice A d.length c).ownBlock with
  | none => exact .inl rfl
  | some b => exact .inr ⟨b, rfl, hbase b hv⟩
theorem R_new0 {α : Type} (k : Kd α) (W : World) (base e : Nat) (hb : base ≤ W.heap.size) (ok : Nat → Prop) (hok : ok W.heap.size) : Kd.R k e (W.alloc (.cells #[] e)) base ok (.slice (some ⟨W.heap.size, 0, none⟩) 0 0) ([] : List α) := by
  refine ⟨fun j hj => ?_, [], ?_, ?_⟩
  · have : W.heap.size = j := by simpa [Value.ownBlock] using hj
    rw [← this]; exact hok
  · have h := World.ownsRow_lit (base := base) (e := e) (size := k.sz) W (#[] : Array Value) 0 hb (by simp [maxLen]) (by simp)
    simpa using h
  · exact Reps.none _ _
set_option maxHeartbeats 8000000 in
set_option maxRecDepth 100000 in
theorem drawok_walk (K : Nat) (g : Nat) (code : List Int) (a s : Int) (d : List Int) (ws : List S55) (w0 w : World) (hI : IsS110 w0 w g code a s) (hB : Below w0.heap.size w0 w) (hF : drawFl K code a s = some (d, ws)) :
    Calls Try.prog 72 #[.pointer (some ⟨g, 0, none⟩)] w fun e w' => ∃ v0_ v1_ : Value, e = .returned (.agg #[v0_, v1_]) ∧ Kd.R (Kd.int .i64) 2 w' w.heap.size (fun _ => True) v0_ d ∧ Kd.R k55 55 w' w.heap.size (fun _ => True) v1_ ws ∧ Below w0.heap.size w0 w' ∧ KeepBut w w' g none := by
  unfold drawFl at hF
  obtain ⟨⟨p, pa, ps⟩, h1, hF⟩ := Option.bind_eq_some_iff.mp hF
  obtain ⟨⟨dd, qa, qs⟩, h2, hF⟩ := Option.bind_eq_some_iff.mp hF
  obtain ⟨⟨r, ra, rs⟩, h3, hF⟩ := Option.bind_eq_some_iff.mp hF
  simp only at h2 h3 hF
  by_cases hr : 0 ≤ r ∧ r ≤ 1000000
  case neg => rw [if_neg hr] at hF; cases hF
  rw [if_pos hr] at hF
  obtain ⟨ws', h4, hF⟩ := Option.bind_eq_some_iff.mp hF
  simp only [Option.some.injEq, Prod.mk.injEq] at hF
  obtain ⟨rfl, rfl⟩ := hF
  have H1 := Aside0.mk h1
  have H2 := Aside0.mk h2
  have H3 := Aside0.mk h3
  have H4 := Aside0.mk h4
  have HI := Aside0.mk hI
  have HB := Aside0.mk hB
  have HK := Aside0.mk (KeepBut.refl w g none)
  have H0 := Aside0.mk (below_size hB)
  clear hI hB h1 h2 h3 h4
  go_enter Try.func72, Try.ntmps72
  go_upto_region 2 with (first
    | ((with_reducible refine gate_dst (N := 2) rfl ?_); refine box_event ?hg (N := 2) ?hd (cs := #[.slice none 0 0, .slice none 0 0]) (t := 36) ?hr ?_; (case hd => rfl); (case hg => rfl); (case hr => first | (go_simp; done) | (go_simp; rfl)); intro g2 hg wn hbox hb; have GE2 := Aside0.mk (show w.heap.size ≤ g2 by rw [hg]; exact Nat.le_refl _); clear hg; have BK2 := Aside0.mk hbox; have n0_ := Aside0.mk (HI.out.below hb); have n1_ := Aside0.mk (below_step HB.out hb); have n2_ := Aside0.mk (show KeepBut w wn g none from KeepBut.of_below hb g none); clear HI HB HK hb hbox; have HI := n0_; have HB := n1_; have HK := n2_; clear n0_ n1_ n2_)
    | (go_at_call 96; (with_reducible refine (spec_l00Src_pick.calls g code a s 5 p pa ps w0 _ HI.out HB.out H1.out).mono ?_); rintro e w96 ⟨rfl, hi, hb, hk⟩; have n0_ := Aside0.mk (HK.out.trans hk (.inl rfl)); have n1_ := Aside0.mk (hk.blk BK2.out (HI.out.ne_blk BK2.out (by decide)).symm (by simp)); clear HI HB HK BK2 hk; have HI := Aside0.mk hi; have HB := Aside0.mk hb; have HK := n0_; have BK2 := n1_; clear hi hb n0_ n1_))
  have HA1 := Aside0.mk (below_alloc (Below.refl w96.heap.size w96) (.cells #[] 2))
  have HA2 := Aside0.mk (below_step HA1.out (below_alloc (Below.refl (w96.alloc (.cells #[] 2)).heap.size (w96.alloc (.cells #[] 2))) (.cells #[] 55)))
  go_upto_region 3 with (first
    | ((with_reducible refine gate_dst (N := 4) rfl ?_); refine box_event ?hg (N := 4) ?hd (cs := #[.slice none 0 0, .slice none 0 0]) (t := 36) ?hr ?_; (case hd => rfl); (case hg => rfl); (case hr => first | (go_simp; done) | (go_simp; rfl)); intro g4 hg wm hbox hb; have GE4 := Aside0.mk (show w.heap.size ≤ g4 by rw [hg]; exact Nat.le_trans HK.out.1 (below_size HA2.out)); have BK4 := Aside0.mk hbox; have HB4 := Aside0.mk hb; have k4_0 : wm.cell? ⟨g4, 0, none⟩ = some (.slice none 0 0) := (blk_cell hbox 0).trans rfl; have k4_1 : wm.cell? ⟨g4, 1, none⟩ = some (.slice none 0 0) := (blk_cell hbox 1).trans rfl; have z4_0 := blk_frozen hbox 0; have z4_1 := blk_frozen hbox 1; have NE1 := Aside0.mk (show w96.heap.size ≠ g4 by rw [hg]; simp; omega); have NE2 := Aside0.mk (show (w96.alloc (.cells #[] 2)).heap.size ≠ g4 by rw [hg]; simp); have HG4 := Aside0.mk (show ((w96.alloc (.cells #[] 2)).alloc (.cells #[] 55)).heap.size ≤ g4 by rw [hg]; exact Nat.le_refl _); clear hg hbox hb))
  have HD0 := Aside0.mk (show DrW w0 w code g g2 g4 pa ps [] [] ((wm.setCell ⟨g4, 0, none⟩ (.slice (some ⟨w96.heap.size, 0, none⟩) 0 0)).setCell ⟨g4, 1, none⟩ (.slice (some ⟨w96.heap.size + 1, 0, none⟩) 0 0)) from by
    have e1 : (w96.alloc (.cells #[] 2)).heap.size = w96.heap.size + 1 := by simp
    have hbm := below_step HA2.out HB4.out
    have hI := HI.out.below hbm
    have hgg : g ≠ g4 := hI.ne_blk BK4.out (by decide)
    have hr0 := HI.out.fresh
    have hb2 := blk_below BK2.out hbm
    have h24 : g2 ≠ g4 := fun e => by have := blk_lt BK2.out; have := HG4.out; have := below_size HA2.out; omega
    have h0 : w0.heap.size ≤ g4 := Nat.le_trans (Nat.le_trans (below_size HB.out) (below_size HA2.out)) HG4.out
    have q1 : Kd.R (Kd.int .i64) 2 (w96.alloc (.cells #[] 2)) w.heap.size (fun k => k ≠ g ∧ k ≠ g4) (.slice (some ⟨w96.heap.size, 0, none⟩) 0 0) ([] : List Int) := R_new0 _ _ _ _ HK.out.1 _ ⟨hr0 _ (Nat.le_refl _), NE1.out⟩
    have q2 : Kd.R k55 55 ((w96.alloc (.cells #[] 2)).alloc (.cells #[] 55)) w.heap.size (fun k => k ≠ g ∧ k ≠ g4) (.slice (some ⟨w96.heap.size + 1, 0, none⟩) 0 0) ([] : List S55) := by
      have := R_new0 k55 (w96.alloc (.cells #[] 2)) w.heap.size 55 (Nat.le_trans HK.out.1 (below_size HA1.out)) (fun k => k ≠ g ∧ k ≠ g4) ⟨hr0 _ (below_size HA1.out), NE2.out⟩
      rwa [e1] at this
    refine ⟨(hI.far (p := ⟨g4, 0, none⟩) hgg _).far (p := ⟨g4, 1, none⟩) hgg _, ((below_step HB.out hbm).setCell (p := ⟨g4, 0, none⟩) h0 _).setCell (p := ⟨g4, 1, none⟩) h0 _, keep_far (p := ⟨g4, 1, none⟩) (keep_far (p := ⟨g4, 0, none⟩) (HK.out.trans (KeepBut.of_below hbm g none) (.inl rfl)) GE4.out _) GE4.out _, ⟨some ⟨w96.heap.size, 0, none⟩, 0, some ⟨w96.heap.size + 1, 0, none⟩, 0, blk_put (cs' := #[.slice (some ⟨w96.heap.size, 0, none⟩) 0 0, .slice (some ⟨w96.heap.size + 1, 0, none⟩) 0 0]) (blk_put (cs' := #[.slice (some ⟨w96.heap.size, 0, none⟩) 0 0, .slice none 0 0]) BK4.out 0 _ rfl) 1 _ rfl, ?_, ?_⟩, GE4.out, hgg.symm, blk_far (blk_far hb2 (p := ⟨g4, 0, none⟩) h24 _) (p := ⟨g4, 1, none⟩) h24 _, GE2.out, (HI.out.ne_blk BK2.out (by decide)).symm, h24, H0.out⟩
    · exact Kd.R_far (p := ⟨g4, 1, none⟩) (Kd.R_far (p := ⟨g4, 0, none⟩) (Kd.R_below (Kd.R_alloc q1 _) HB4.out) (fun _ hk => hk.2) _) (fun _ hk => hk.2) _
    · exact Kd.R_far (p := ⟨g4, 1, none⟩) (Kd.R_far (p := ⟨g4, 0, none⟩) (Kd.R_below q2 HB4.out) (fun _ hk => hk.2) _) (fun _ hk => hk.2) _)
  generalize (wm.setCell ⟨g4, 0, none⟩ (.slice (some ⟨w96.heap.size, 0, none⟩) 0 0)).setCell ⟨g4, 1, none⟩ (.slice (some ⟨w96.heap.size + 1, 0, none⟩) 0 0) = W5 at HD0 ⊢
  clear HA1 HA2 GE4 BK4 HB4 k4_0 k4_1 z4_0 z4_1 NE1 NE2 HG4 HI HB HK BK2 GE2 H1
  obtain ⟨n, hn⟩ : ∃ n, n = wrap64 (1 + p) := ⟨_, rfl⟩
  rw [← hn] at H2 H4 ⊢
  clear hn
  go_wp2
  go_loopg [5] K (fun kq v5 w' => ∃ (v : Nat) (d : List Int) (a s : Int), v5 = .int .i64 v ∧ Aside0 (drawDs code n kq v d a s = some (dd, qa, qs)) ∧ Aside0 (DrW w0 w code g g2 g4 a s d [] w'))
  case atStart => exact ⟨0, [], pa, ps, by first | rfl | simp, H2, HD0⟩
  case round =>
    clear H2 HD0
    obtain ⟨v, d, a, s, rfl, HF, HD⟩ := hrel
    cases gk with
    | zero => exact absurd HF.out (by simp [drawDs])
    | succ gq =>
    have hF := HF.out
    rw [drawDs] at hF
    by_cases hlt : (v : Int) < n
    · rw [if_pos hlt] at hF
      by_cases hv : v < 1000000 ∧ d.length < 1000000
      case neg => rw [if_neg hv] at hF; cases hF
      rw [if_pos hv] at hF
      obtain ⟨⟨x, xa, xs⟩, h1, hF⟩ := Option.bind_eq_some_iff.mp hF
      have HX := Aside0.mk h1
      have HF2 := Aside0.mk hF
      clear h1 hF HF
      obtain ⟨hv1, hv2⟩ := hv
      have f1 : decide ((v : Int) < n) = true := decide_eq_true hlt
      have wv : IntKind.i64.wrap ((v : Int) + 1) = (v : Int) + 1 := IntWalk.i64_in _ ⟨by omega, by omega⟩
      obtain ⟨A, c, A1, c1, q1, q2, q3⟩ := HD.out.b4
      obtain ⟨L, hL⟩ : ∃ L, L = d.length := ⟨_, rfl⟩
      rw [← hL] at q1 q2 hv2
      have Q1 := Aside0.mk q1
      have Q2 := Aside0.mk q2
      have Q3 := Aside0.mk q3
      have HL := Aside0.mk hL
      have k4 : wr.cell? ⟨g4, 0, none⟩ = some (.slice A L c) := (blk_cell q1 0).trans rfl
      clear q1 q2 q3 hL
      have HKM : ∀ (W : World) (y : Int) (cs : List Value), (Kd.int .i64).K W y cs → (Kd.int .i64).M W w.heap.size (fun _ => False) y cs := fun W y cs h => h
      have HPC := Aside0.mk (pick_call HD.out.I.drew (below_drew1 HD.out.bel) HX.out)
      go_wp2
      go_region_law (first
        | (refine step_callV (f := 96) (fn := Try.f96) (caps := #[]) (x := .func 96) (zs := #[.tmp 22, .const (.int .i64 9)]) (ts := #[87, 2]) (R := PickR w0 wr.drew code g x xa xs) rfl Try.func96 rfl (by kernel_rfl) #[.pointer (some ⟨g, 0, none⟩), .int .i64 9] rfl rfl (by simp [Act.eval, Act.put]) HPC.out ?_; rintro v96 w6 ⟨rfl, hi6, hb6, hk6_⟩; have hk6 : KeepBut wr w6 g none := hk6_; have HD6 := Aside0.mk (HD.out.pick hi6 hb6 hk6); have k6 : w6.cell? ⟨g4, 0, none⟩ = some (.slice A L c) := (blk_cell (hk6.blk Q1.out HD.out.ne (by simp)) 0).trans rfl; have k6a : (w6.alloc (.cells #[.int .i64 x] 2)).cell? ⟨g4, 0, none⟩ = some (.slice A L c) := pw_cell_below (below_alloc (Below.refl _ _) _) k6)
        | (refine step_app_row (Kd.int .i64) rfl (.tmp 21) (.tmp 24) 22 rfl 2 (.int .i64 0) 8 Try.underlying22 info2 rfl (by decide) (by decide) w.heap.size w6 (.slice A L c) d [x] (some ⟨w6.heap.size, 0, none⟩) 1 1 (fun k => k ≠ g ∧ k ≠ g4) (by simp [Act.eval, Act.put]) (by simp [Act.eval, Act.put]) (HKM _) (Kd.R_alloc (Kd.R_step Q2.out (fun k ho hl => hk6.2 k hl ho.1 (by simp))) _) (C_blk (Kd.int .i64) x (blk_new w6 (.cells #[.int .i64 x] 2)) rfl) (HD6.out.fresh (below_alloc (Below.refl w6.heap.size w6) _)) ((below_alloc (Below.refl w6.heap.size w6) _).mono HD6.out.kb.1) (Nat.le_trans HD6.out.kb.1 (below_size (below_alloc (Below.refl w6.heap.size w6) (.cells #[.int .i64 x] 2)))) (by rw [← HL.out]; omega) ?_; intro v9 w9 hR9 hb9 hg9; obtain ⟨A9, c9, hv9, _, _⟩ := Kd.R_reads hR9; subst hv9; have PT := HD6.out.put0 (d' := d ++ [x]) (below_alloc (Below.refl w6.heap.size w6) (.cells #[.int .i64 x] 2)) (by rw [← HL.out]; exact hk6.blk Q1.out HD.out.ne (by simp)) (by rw [← HL.out]; exact Kd.R_step Q2.out (fun k ho hl => hk6.2 k hl ho.1 (by simp))) (Kd.R_step Q3.out (fun k ho hl => hk6.2 k hl ho.1 (by simp))) (by rw [← HL.out]; exact hg9) hR9; rw [← HL.out] at PT; have k9 : w9.cell? ⟨g4, 0, none⟩ = some (.slice A L c) := (blk_cell PT.1 0).trans rfl; have z9 := blk_frozen PT.1 0; have HPT := Aside0.mk PT.2; clear PT))
      all_goals
        have HP := HPT
        clear HPT k9 z9 k6 k6a hk6_ hk6 HD6 hi6 hb6 hR9 hb9 hg9
        go_wp2
        go_roundg gq
        case measure => omega
        case rel => exact ⟨v + 1, d ++ [x], xa, xs, by go_num, HF2, by simpa using HP⟩
    · rw [if_neg hlt] at hF
      simp only [Option.some.injEq, Prod.mk.injEq] at hF
      obtain ⟨rfl, rfl, rfl⟩ := hF
      have f1 : decide ((v : Int) < n) = false := decide_eq_false hlt
      clear HF
      go_wp2_with (go_at_call 96; (with_reducible refine (spec_l00Src_pick.calls g code a s 9 r ra rs w0 _ HD.out.I HD.out.bel H3.out).mono ?_); rintro e w7 ⟨rfl, hi, hb, hk⟩; have HD7 := Aside0.mk (HD.out.pick hi hb hk); clear HD hi hb hk)
      obtain ⟨rn, rfl⟩ := Int.eq_ofNat_of_zero_le hr.1
      rw [Int.toNat_natCast] at H4
      have hrn : rn ≤ 1000000 := by omega
      clear H3 hr hlt f1
      go_loopg [6] rn (fun kq v6 w' => ∃ (ws : List S55) (a s : Int), v6 = .int .i64 kq ∧ Aside0 (kq ≤ rn) ∧ Aside0 (drawWs K code n d kq ws a s = some ws') ∧ Aside0 (DrW w0 w code g g2 g4 a s d ws w'))
      case atStart => exact ⟨[], ra, rs, by first | rfl | simp, ⟨Nat.le_refl _⟩, H4, HD7⟩
      case round =>
        clear H4 HD7
        obtain ⟨ws, a, s, rfl, HE, HF, HD⟩ := hrel
        cases gk with
        | zero =>
          have HWE : Aside0 (ws = ws') := ⟨by have h := HF.out; rw [drawWs] at h; injection h⟩
          have f1 : decide (((0 : Nat) : Int) > 0) = false := by decide
          obtain ⟨A, c, A1, c1, q1, q2, q3⟩ := HD.out.b4
          have k4_0 : wr.cell? ⟨g4, 0, none⟩ = some (.slice A d.length c) := (blk_cell q1 0).trans rfl
          have k4_1 : wr.cell? ⟨g4, 1, none⟩ = some (.slice A1 ws.length c1) := (blk_cell q1 1).trans rfl
          have k2_0 : wr.cell? ⟨g2, 0, none⟩ = some (.slice none 0 0) := (blk_cell HD.out.b2 0).trans rfl
          have k2_1 : wr.cell? ⟨g2, 1, none⟩ = some (.slice none 0 0) := (blk_cell HD.out.b2 1).trans rfl
          have z2_0 := blk_frozen HD.out.b2 0
          have z2_1 := blk_frozen HD.out.b2 1
          have P2 := Aside0.mk (blk_put (cs' := #[.slice A d.length c, .slice A1 ws.length c1]) (blk_put (cs' := #[.slice A d.length c, .slice none 0 0]) HD.out.b2 0 (.slice A d.length c) rfl) 1 (.slice A1 ws.length c1) rfl)
          have m2_0 := (blk_cell P2.out 0).trans rfl
          have m2_1 := (blk_cell P2.out 1).trans rfl
          have QD := Aside0.mk q2
          have QW := Aside0.mk q3
          clear q1 q2 q3
          go_wp2
          refine bodyPost_ret (results_cell_row rfl _ _ g2 36 #[.slice A d.length c, .slice A1 ws.length c1] (0, 0) _ rfl P2.out Try.underlying36 rfl (by kernel_rfl)) rfl ?_
          have h02 : w0.heap.size ≤ g2 := Nat.le_trans HD.out.h0 HD.out.h2
          have e := HWE.out
          subst e
          refine ⟨_, _, rfl, ?_, ?_, (HD.out.bel.setCell (p := ⟨g2, 0, none⟩) h02 _).setCell (p := ⟨g2, 1, none⟩) h02 _, keep_far (p := ⟨g2, 1, none⟩) (keep_far (p := ⟨g2, 0, none⟩) HD.out.kb HD.out.h2 _) HD.out.h2 _⟩
          · exact Kd.R_mono (Kd.R_far (p := ⟨g2, 1, none⟩) (Kd.R_far (p := ⟨g2, 0, none⟩) (Kd.R_types QD.out HD.out.b2 (by decide)) (fun _ hk => hk.2) _) (fun _ hk => hk.2) _) (fun _ _ => trivial)
          · exact Kd.R_mono (Kd.R_far (p := ⟨g2, 1, none⟩) (Kd.R_far (p := ⟨g2, 0, none⟩) (Kd.R_types QW.out HD.out.b2 (by decide)) (fun _ hk => hk.2) _) (fun _ hk => hk.2) _) (fun _ _ => trivial)
        | succ gq =>
          have hF := HF.out
          rw [drawWs] at hF
          by_cases hwl : ws.length < 1000000
          case neg => rw [if_neg hwl] at hF; cases hF
          rw [if_pos hwl] at hF
          obtain ⟨⟨x, xa, xs⟩, h1, hF⟩ := Option.bind_eq_some_iff.mp hF
          obtain ⟨⟨y, ya, ys⟩, h2, hF⟩ := Option.bind_eq_some_iff.mp hF
          obtain ⟨⟨z, za, zs⟩, h3, hF⟩ := Option.bind_eq_some_iff.mp hF
          obtain ⟨bb, h4, hF⟩ := Option.bind_eq_some_iff.mp hF
          simp only at h2 h3 h4 hF
          have HX1 := Aside0.mk h1
          have HX2 := Aside0.mk h2
          have HX3 := Aside0.mk h3
          have HX4 := Aside0.mk h4
          have HF2 := Aside0.mk hF
          clear h1 h2 h3 h4 hF HF
          have f1 : decide (((gq + 1 : Nat) : Int) > 0) = true := decide_eq_true (by omega)
          have f2 : decide ((0 : Int) < ((gq + 1 : Nat) : Int)) = true := decide_eq_true (by omega)
          have hge := HE.out
          have wg : IntKind.i64.wrap (((gq + 1 : Nat) : Int) - 1) = (gq : Int) := by rw [show ((gq + 1 : Nat) : Int) - 1 = (gq : Int) by omega]; exact IntWalk.i64_in _ ⟨by omega, by omega⟩
          go_upto_region 13 with (first
            | (go_at_call 96; (with_reducible refine (spec_l00Src_pick.calls g code a s n x xa xs w0 _ HD.out.I HD.out.bel HX1.out).mono ?_); rintro e wa ⟨rfl, hi, hb, hk⟩; have HDA := Aside0.mk (HD.out.pick hi hb hk); clear HD HX1 hi hb hk)
            | ((with_reducible refine gate_dst (N := 7) rfl ?_); refine box_event ?hg (N := 7) ?hd (cs := #[.int .i64 0, .int .i64 0, .int .i64 0]) (t := 55) ?hr ?_; (case hd => rfl); (case hg => rfl); (case hr => first | (go_simp; done) | (go_simp; rfl)); intro g7 hg wb hbox hb; have GE7 := Aside0.mk (show wa.heap.size ≤ g7 by rw [hg]; exact Nat.le_refl _); have c7_0 : wb.cell? ⟨g7, 0, none⟩ = some (.int .i64 0) := (blk_cell hbox 0).trans rfl; have c7_1 : wb.cell? ⟨g7, 1, none⟩ = some (.int .i64 0) := (blk_cell hbox 1).trans rfl; have c7_2 : wb.cell? ⟨g7, 2, none⟩ = some (.int .i64 0) := (blk_cell hbox 2).trans rfl; have z7_0 := blk_frozen hbox 0; have z7_1 := blk_frozen hbox 1; have z7_2 := blk_frozen hbox 2; have p7 := Aside0.mk (blk_put (cs' := #[.int .i64 x, .int .i64 0, .int .i64 0]) (blk_put (cs' := #[.int .i64 x, .int .i64 0, .int .i64 0]) (blk_put (cs' := #[.int .i64 x, .int .i64 0, .int .i64 0]) hbox 0 (.int .i64 x) rfl) 1 (.int .i64 0) rfl) 2 (.int .i64 0) rfl); have HW7 := Aside0.mk (below_set (j := 2) (v := .int .i64 0) (below_set (j := 1) (v := .int .i64 0) (below_set (j := 0) (v := .int .i64 x) hb GE7.out) GE7.out) GE7.out); have HDB := Aside0.mk (HDA.out.move HW7.out); have N7 := Aside0.mk (HDB.out.I.ne_blk p7.out (by decide)); clear hb hbox hg)
            | (go_at_call 96; (with_reducible refine (spec_l00Src_pick.calls g code xa xs n y ya ys w0 _ HDB.out.I HDB.out.bel HX2.out).mono ?_); rintro e wc ⟨rfl, hi, hb, hk⟩; have q7 := Aside0.mk (hk.blk p7.out N7.out.symm (by simp)); have HK7 := Aside0.mk ((show KeepBut wa _ g none from KeepBut.of_below HW7.out g none).trans hk (.inl rfl)); have HI7 := Aside0.mk hi; have HB7 := Aside0.mk hb; have d7_1 : wc.cell? ⟨g7, 1, none⟩ = some (.int .i64 0) := (blk_cell q7.out 1).trans rfl; have y7_1 := blk_frozen q7.out 1; have r7 := Aside0.mk (blk_put (cs' := #[.int .i64 x, .int .i64 y, .int .i64 0]) q7.out 1 (.int .i64 y) rfl); clear HDB p7 HX2 hi hb hk c7_0 c7_1 c7_2 z7_0 z7_1 z7_2)
            | (go_at_call 96; (with_reducible refine (spec_l00Src_pick.calls g code ya ys 3 z za zs w0 _ (HI7.out.far (p := ⟨g7, 1, none⟩) N7.out (.int .i64 y)) (HB7.out.setCell (p := ⟨g7, 1, none⟩) (Nat.le_trans (below_size HDA.out.bel) GE7.out) (.int .i64 y)) HX3.out).mono ?_); rintro e wd ⟨rfl, hi, hb, hk⟩; have s7 := Aside0.mk (hk.blk r7.out N7.out.symm (by simp)); have HDD := Aside0.mk (HDA.out.pick hi hb ((keep_far (p := ⟨g7, 1, none⟩) HK7.out GE7.out (.int .i64 y)).trans hk (.inl rfl))); have d7_2 : wd.cell? ⟨g7, 2, none⟩ = some (.int .i64 0) := (blk_cell s7.out 2).trans rfl; have y7_2 := blk_frozen s7.out 2; have t7 := Aside0.mk (blk_put (cs' := #[.int .i64 x, .int .i64 y, .int .i64 z]) s7.out 2 (.int .i64 z) rfl); have HDZ := Aside0.mk (HDA.out.pick (hi.far (p := ⟨g7, 2, none⟩) N7.out (.int .i64 z)) (hb.setCell (p := ⟨g7, 2, none⟩) (Nat.le_trans (below_size HDA.out.bel) GE7.out) (.int .i64 z)) (keep_far (p := ⟨g7, 2, none⟩) ((keep_far (p := ⟨g7, 1, none⟩) HK7.out GE7.out (.int .i64 y)).trans hk (.inl rfl)) GE7.out (.int .i64 z))); clear HDD q7 r7 HX3 hi hb hk d7_1 y7_1 HI7 HB7 HK7))
          generalize wd.setCell ⟨g7, 2, none⟩ (.int .i64 z) = W7 at HDZ t7 ⊢
          clear s7
          obtain ⟨A, c, A1, c1, q1, q2, q3⟩ := HDZ.out.b4
          have Q1 := Aside0.mk q1
          have Q2 := Aside0.mk q2
          have Q3 := Aside0.mk q3
          have k4_0 : W7.cell? ⟨g4, 0, none⟩ = some (.slice A d.length c) := (blk_cell q1 0).trans rfl
          have k4_1 : W7.cell? ⟨g4, 1, none⟩ = some (.slice A1 ws.length c1) := (blk_cell q1 1).trans rfl
          have k7_0 : W7.cell? ⟨g7, 0, none⟩ = some (.int .i64 x) := (blk_cell t7.out 0).trans rfl
          have k7_1 : W7.cell? ⟨g7, 1, none⟩ = some (.int .i64 y) := (blk_cell t7.out 1).trans rfl
          have k7_2 : W7.cell? ⟨g7, 2, none⟩ = some (.int .i64 z) := (blk_cell t7.out 2).trans rfl
          clear q1 q2 q3
          have HKM : ∀ (W : World) (y : S55) (cs : List Value), k55.K W y cs → k55.M W W7.heap.size (fun _ => False) y cs := fun W y cs h => by
            obtain rfl := k55_open h
            exact k55_mkM _ _ _ _
          have HK : Aside0 (∀ W, Below W7.heap.size W7 W → (W.cell? ⟨g4, 0, none⟩ = some (.slice A d.length c) ∧ W.cell? ⟨g4, 1, none⟩ = some (.slice A1 ws.length c1) ∧ W.cell? ⟨g7, 0, none⟩ = some (.int .i64 x) ∧ W.cell? ⟨g7, 1, none⟩ = some (.int .i64 y) ∧ W.cell? ⟨g7, 2, none⟩ = some (.int .i64 z))) := ⟨fun W hW => ⟨pw_cell_below hW k4_0, pw_cell_below hW k4_1, pw_cell_below hW k7_0, pw_cell_below hW k7_1, pw_cell_below hW k7_2⟩⟩
          go_cut [8] (fun v8 wc => ∃ (Z : Nat) (A2 : Option Addr) (c2 : Nat), v8 = .pointer (some ⟨Z, 0, none⟩) ∧ Aside0 (wc.heap[Z]? = some (.cells #[.slice A d.length c, .slice A2 (ws ++ [(⟨x, y, z⟩ : S55)]).length c2] 36 (0, 0))) ∧ Aside0 (Kd.R k55 55 wc W7.heap.size (fun _ => True) (.slice A2 (ws ++ [(⟨x, y, z⟩ : S55)]).length c2) (ws ++ [(⟨x, y, z⟩ : S55)])) ∧ Aside0 (Below W7.heap.size W7 wc))
          case rest =>
            obtain ⟨Z, A2, c2, rfl, HZ, HR2, HBZ⟩ := hcut
            clear k4_0 k4_1 k7_0 k7_1 k7_2 HK HKM
            have HDC := Aside0.mk (HDZ.out.move HBZ.out)
            have HT := Aside0.mk (show IsT36 wc wc Z d (ws ++ [(⟨x, y, z⟩ : S55)]) from ⟨A, c, A2, c2, HZ.out, trivial, Kd.C_below (Kd.R_reads' Q2.out).2.2 HBZ.out, (Kd.R_reads' HR2.out).2.2⟩)
            cases bb with
            | false =>
              have HF3 := Aside0.mk (show drawWs K code n d gq ws za zs = some ws' by have h := HF2.out; rw [if_neg (by decide)] at h; exact h)
              go_wp2_with (go_at_call 51; (with_reducible refine (spec_l08Is.callT K Z d (ws ++ [(⟨x, y, z⟩ : S55)]) false wc _ HT.out (Below.refl _ _) HX4.out).mono ?_); rintro e wz ⟨rfl, hi, hb, hk⟩; have HDY := Aside0.mk (HDC.out.move hb); clear hi hb hk)
              go_roundg gq
              case measure => omega
              case rel => exact ⟨ws, za, zs, by first | rfl | (simp; omega) | go_num, ⟨by omega⟩, HF3, HDY⟩
            | true =>
              have HF3 := Aside0.mk (show drawWs K code n d gq (ws ++ [(⟨x, y, z⟩ : S55)]) za zs = some ws' by have h := HF2.out; rw [if_pos rfl] at h; exact h)
              have hlt4 := (HDZ.out.fresh (Below.refl W7.heap.size W7))
              go_wp2_with (go_at_call 51; (with_reducible refine (spec_l08Is.callT K Z d (ws ++ [(⟨x, y, z⟩ : S55)]) true wc _ HT.out (Below.refl _ _) HX4.out).mono ?_); rintro e wz ⟨rfl, hi, hb, hk⟩; have HDY := Aside0.mk (HDC.out.move hb); have hz := blk_below HZ.out hb; have kz_0 : wz.cell? ⟨Z, 0, none⟩ = some (.slice A d.length c) := (blk_cell hz 0).trans rfl; have kz_1 : wz.cell? ⟨Z, 1, none⟩ = some (.slice A2 (ws ++ [(⟨x, y, z⟩ : S55)]).length c2) := (blk_cell hz 1).trans rfl; have hq4 := blk_below (blk_below Q1.out HBZ.out) hb; have k4_0 : wz.cell? ⟨g4, 0, none⟩ = some (.slice A d.length c) := (blk_cell hq4 0).trans rfl; have k4_1 : wz.cell? ⟨g4, 1, none⟩ = some (.slice A1 ws.length c1) := (blk_cell hq4 1).trans rfl; have z4_0 := blk_frozen hq4 0; have z4_1 := blk_frozen hq4 1; have HDX := Aside0.mk (HDY.out.put2 (Kd.R_below (Kd.R_below Q2.out HBZ.out) hb) (Kd.R_mono (Kd.R_bound (Kd.R_lower (Kd.R_mono (Kd.R_bound (Kd.R_below HR2.out hb)) (ok' := fun k => k ≠ g ∧ k ≠ g4) (fun k hk => hlt4 k hk.2.1)) HDZ.out.kb.1)) (fun k hk => hk.1))); clear hi hb hk hz hq4)
              go_roundg gq
              case measure => omega
              case rel => exact ⟨ws ++ [(⟨x, y, z⟩ : S55)], za, zs, by first | rfl | (simp; omega) | go_num, ⟨by omega⟩, HF3, by simpa using HDX⟩
          case first =>
          clear HDZ t7 Q1 Q2 HX4 HF2 f1 f2 wg hge HE HDA GE7 HW7 N7 d7_2 y7_2 hrn H0 HK
          try clear hF
          refine region_inv (RJ W7 g4 A A1 d ws c c1 ⟨x, y, z⟩ _) (by kernel_rfl) (RJ_start _ _ (below_drew1 (Below.refl _ _))) ?step ?done
          case done =>
            intro L a w hJ hr
            obtain ⟨hsz, u44, u45, u46, u47, u48, u49, u50, u51, u52, u53, u8, E, V, M, A9, A2, c9, c2, rfl, F⟩ := hJ
            have H := all_up hsz (by kernel_rfl) hr
            have H10 : L.getD 10 false = true := H 10 (by decide)
            have H11 : L.getD 11 false = true := H 11 (by decide)
            have H8 : L.getD 8 false = true := H 8 (by decide)
            obtain rfl := F.s10 H10
            simp only [put11, List.setIfInBounds_toArray, List.set_cons_zero, List.set_cons_succ]
            try go_wp2
            go_meet
            case rel => exact ⟨M, A2, c2, rfl, ⟨F.s11b H11⟩, ⟨F.s8r H8⟩, ⟨F.bel⟩⟩
          case step =>
            intro L a w hJ i hi
            obtain ⟨hsz, u44, u45, u46, u47, u48, u49, u50, u51, u52, u53, u8, E, V, M, A9, A2, c9, c2, rfl, F⟩ := hJ
            obtain ⟨hun, o, ho, hall⟩ := mem_ready.1 hi
            obtain ⟨hne, hk1, hk0⟩ := flag_set hun
            have hi12 : i < 12 := (Array.getElem?_eq_some_iff.1 ho).1
            have hcs : i = 0 ∨ i = 1 ∨ i = 2 ∨ i = 3 ∨ i = 4 ∨ i = 5 ∨ i = 6 ∨ i = 7 ∨ i = 8 ∨ i = 9 ∨ i = 10 ∨ i = 11 := by omega
            clear hi hi12 hun
            have k4_0 := pw_cell_below F.bel k4_0
            have k4_1 := pw_cell_below F.bel k4_1
            have k7_0 := pw_cell_below F.bel k7_0
            have k7_1 := pw_cell_below F.bel k7_1
            have k7_2 := pw_cell_below F.bel k7_2
            rcases hcs with rfl | rfl | rfl | rfl | rfl | rfl | rfl | rfl | rfl | rfl | rfl | rfl
            · -- 0
              have ho2 := ho
              simp only [List.getElem?_toArray, List.getElem?_cons_succ, List.getElem?_cons_zero, Option.some.injEq] at ho2
              subst ho2
              clear hall
              simp only [put11, List.setIfInBounds_toArray, List.set_cons_zero, List.set_cons_succ]
              refine wpOp_K ho fun K hK => ?_
              go_simp
              refine hK _ _ ⟨by simpa using hsz, .pointer (some ⟨g4, 0, none⟩), u45, u46, u47, u48, u49, u50, u51, u52, u53, u8, E, V, M, A9, A2, c9, c2, ?_, F.p0 hne hk1 hk0⟩
              simp only [Act.put, put11, List.setIfInBounds_toArray, List.set_cons_zero, List.set_cons_succ]
            · -- 1
              have ho2 := ho
              simp only [List.getElem?_toArray, List.getElem?_cons_succ, List.getElem?_cons_zero, Option.some.injEq] at ho2
              subst ho2
              have q0 : L.getD 0 false = true := hall { on := 0, ground := Ground.data } (by simp) rfl
              clear hall
              obtain rfl := F.s0 q0
              simp only [put11, List.setIfInBounds_toArray, List.set_cons_zero, List.set_cons_succ]
              refine wpOp_K ho fun K hK => ?_
              go_simp
              refine hK _ _ ⟨by simpa using hsz, .pointer (some ⟨g4, 0, none⟩), .slice A d.length c, u46, u47, u48, u49, u50, u51, u52, u53, u8, E, V, M, A9, A2, c9, c2, ?_, F.p1 hne hk1 hk0⟩
              simp only [Act.put, put11, List.setIfInBounds_toArray, List.set_cons_zero, List.set_cons_succ]
            · -- 2
              have ho2 := ho
              simp only [List.getElem?_toArray, List.getElem?_cons_succ, List.getElem?_cons_zero, Option.some.injEq] at ho2
              subst ho2
              clear hall
              simp only [put11, List.setIfInBounds_toArray, List.set_cons_zero, List.set_cons_succ]
              refine wpOp_K ho fun K hK => ?_
              go_simp
              refine hK _ _ ⟨by simpa using hsz, u44, u45, .slice (some ⟨w.heap.size, 0, none⟩) 0 0, u47, u48, u49, u50, u51, u52, u53, u8, w.heap.size, V, M, A9, A2, c9, c2, ?_, F.m2 hne hk1 hk0⟩
              simp only [Act.put, put11, List.setIfInBounds_toArray, List.set_cons_zero, List.set_cons_succ]
            · -- 3
              have ho2 := ho
              simp only [List.getElem?_toArray, List.getElem?_cons_succ, List.getElem?_cons_zero, Option.some.injEq] at ho2
              subst ho2
              clear hall
              simp only [put11, List.setIfInBounds_toArray, List.set_cons_zero, List.set_cons_succ]
              refine wpOp_K ho fun K hK => ?_
              go_simp
              refine hK _ _ ⟨by simpa using hsz, u44, u45, u46, .pointer (some ⟨g4, 1, none⟩), u48, u49, u50, u51, u52, u53, u8, E, V, M, A9, A2, c9, c2, ?_, F.p3 hne hk1 hk0⟩
              simp only [Act.put, put11, List.setIfInBounds_toArray, List.set_cons_zero, List.set_cons_succ]
            · -- 4
              have ho2 := ho
              simp only [List.getElem?_toArray, List.getElem?_cons_succ, List.getElem?_cons_zero, Option.some.injEq] at ho2
              subst ho2
              have q3 : L.getD 3 false = true := hall { on := 3, ground := Ground.data } (by simp) rfl
              clear hall
              obtain rfl := F.s3 q3
              simp only [put11, List.setIfInBounds_toArray, List.set_cons_zero, List.set_cons_succ]
              refine wpOp_K ho fun K hK => ?_
              go_simp
              refine hK _ _ ⟨by simpa using hsz, u44, u45, u46, .pointer (some ⟨g4, 1, none⟩), .slice A1 ws.length c1, u49, u50, u51, u52, u53, u8, E, V, M, A9, A2, c9, c2, ?_, F.p4 hne hk1 hk0⟩
              simp only [Act.put, put11, List.setIfInBounds_toArray, List.set_cons_zero, List.set_cons_succ]
            · -- 5
              have ho2 := ho
              simp only [List.getElem?_toArray, List.getElem?_cons_succ, List.getElem?_cons_zero, Option.some.injEq] at ho2
              subst ho2
              have q2 : L.getD 2 false = true := hall { on := 2, ground := Ground.data } (by simp) rfl
              have q4 : L.getD 4 false = true := hall { on := 4, ground := Ground.data } (by simp) rfl
              clear hall
              obtain rfl := F.s2 q2
              obtain rfl := F.s4 q4
              simp only [put11, List.setIfInBounds_toArray, List.set_cons_zero, List.set_cons_succ]
              refine wpOp_K ho fun K hK => ?_
              refine step_app_row k55 rfl (.tmp 46) (.tmp 48) 34 rfl 55 (.agg #[(.int .i64 0), (.int .i64 0), (.int .i64 0)]) 24 Try.underlying34 info55 rfl (by decide) (by decide) W7.heap.size W7 (.slice (some ⟨E, 0, none⟩) 0 0) [] ws A1 ws.length c1 (fun _ => True) (by simp [Act.eval, Act.put]) (by simp [Act.eval, Act.put]) (HKM _) (RW_empty k55 (F.s2b q2 hk0) (F.s2e q2).1) (Kd.C_below (Kd.R_reads' Q3.out).2.2 F.bel) (fun _ _ => trivial) F.bel (below_size F.bel) (by first | omega | (simp; omega)) ?_
              intro v49 w49 hR49 hb49 hg49
              obtain ⟨A9', c9', hv49, _, _⟩ := Kd.R_reads hR49
              rw [List.nil_append] at hv49 hR49
              subst hv49
              refine hK _ _ ⟨by simpa using hsz, u44, u45, .slice (some ⟨E, 0, none⟩) 0 0, u47, .slice A1 ws.length c1, .slice A9' ws.length c9', u50, u51, u52, u53, u8, E, V, M, A9', A2, c9', c2, ?_, F.a5 hne hk1 hk0 q2 hb49 hg49 hg49.size hR49⟩
              simp only [Act.put, put11, List.setIfInBounds_toArray, List.set_cons_zero, List.set_cons_succ]
            · -- 6
              have ho2 := ho
              simp only [List.getElem?_toArray, List.getElem?_cons_succ, List.getElem?_cons_zero, Option.some.injEq] at ho2
              subst ho2
              clear hall
              simp only [put11, List.setIfInBounds_toArray, List.set_cons_zero, List.set_cons_succ]
              refine wpOp_K ho fun K hK => ?_
              go_simp
              refine hK _ _ ⟨by simpa using hsz, u44, u45, u46, u47, u48, u49, .agg #[.int .i64 x, .int .i64 y, .int .i64 z], u51, u52, u53, u8, E, V, M, A9, A2, c9, c2, ?_, F.p6 hne hk1 hk0⟩
              simp only [Act.put, put11, List.setIfInBounds_toArray, List.set_cons_zero, List.set_cons_succ]
            · -- 7
              have ho2 := ho
              simp only [List.getElem?_toArray, List.getElem?_cons_succ, List.getElem?_cons_zero, Option.some.injEq] at ho2
              subst ho2
              have q6 : L.getD 6 false = true := hall { on := 6, ground := Ground.data } (by simp) rfl
              clear hall
              obtain rfl := F.s6 q6
              simp only [put11, List.setIfInBounds_toArray, List.set_cons_zero, List.set_cons_succ]
              refine wpOp_K ho fun K hK => ?_
              go_simp
              refine hK _ _ ⟨by simpa using hsz, u44, u45, u46, u47, u48, u49, .agg #[.int .i64 x, .int .i64 y, .int .i64 z], .slice (some ⟨w.heap.size, 0, none⟩) 1 1, u52, u53, u8, E, w.heap.size, M, A9, A2, c9, c2, ?_, F.m7 hne hk1 hk0⟩
              simp only [Act.put, put11, List.setIfInBounds_toArray, List.set_cons_zero, List.set_cons_succ]
            · -- 8
              have ho2 := ho
              simp only [List.getElem?_toArray, List.getElem?_cons_succ, List.getElem?_cons_zero, Option.some.injEq] at ho2
              subst ho2
              have q5 : L.getD 5 false = true := hall { on := 5, ground := Ground.data } (by simp) rfl
              have q7 : L.getD 7 false = true := hall { on := 7, ground := Ground.data } (by simp) rfl
              clear hall
              obtain rfl := F.s5 q5
              obtain rfl := F.s7 q7
              simp only [put11, List.setIfInBounds_toArray, List.set_cons_zero, List.set_cons_succ]
              refine wpOp_K ho fun K hK => ?_
              refine step_app_row k55 rfl (.tmp 49) (.tmp 51) 34 rfl 55 (.agg #[(.int .i64 0), (.int .i64 0), (.int .i64 0)]) 24 Try.underlying34 info55 rfl (by decide) (by decide) W7.heap.size W7 (.slice A9 ws.length c9) ws [⟨x, y, z⟩] (some ⟨V, 0, none⟩) 1 1 (fun _ => True) (by simp [Act.eval, Act.put]) (by simp [Act.eval, Act.put]) (HKM _) (F.s5r q5 hk0) (C_blk k55 (cs := [.int .i64 x, .int .i64 y, .int .i64 z]) (te := 55) ⟨x, y, z⟩ (F.s7b q7 hk0) (k55_mk _ _)) (fun _ _ => trivial) F.bel (below_size F.bel) (by first | omega | (simp; omega)) ?_
              intro v52 w52 hR52 hb52 hg52
              obtain ⟨A2', c2', hv52, _, _⟩ := Kd.R_reads hR52
              subst hv52
              refine hK _ _ ⟨by simpa using hsz, u44, u45, u46, u47, u48, .slice A9 ws.length c9, u50, .slice (some ⟨V, 0, none⟩) 1 1, .slice A2' (ws ++ [(⟨x, y, z⟩ : S55)]).length c2', u53, u8, E, V, M, A9, A2', c9, c2', ?_, F.a8 hne hk1 hk0 q5 hb52 hg52 hg52.size hR52⟩
              simp only [Act.put, put11, List.setIfInBounds_toArray, List.set_cons_zero, List.set_cons_succ]
            · -- 9
              have ho2 := ho
              simp only [List.getElem?_toArray, List.getElem?_cons_succ, List.getElem?_cons_zero, Option.some.injEq] at ho2
              subst ho2
              have q1 : L.getD 1 false = true := hall { on := 1, ground := Ground.data } (by simp) rfl
              have q8 : L.getD 8 false = true := hall { on := 8, ground := Ground.data } (by simp) rfl
              clear hall
              obtain rfl := F.s1 q1
              obtain rfl := F.s8 q8
              simp only [put11, List.setIfInBounds_toArray, List.set_cons_zero, List.set_cons_succ]
              refine wpOp_K ho fun K hK => ?_
              go_simp
              have hlen : ws.length + 1 = (ws ++ [(⟨x, y, z⟩ : S55)]).length := by simp
              rw [hlen]
              refine hK _ _ ⟨by simpa using hsz, u44, .slice A d.length c, u46, u47, u48, u49, u50, u51, .slice A2 (ws ++ [(⟨x, y, z⟩ : S55)]).length c2, .agg #[.slice A d.length c, .slice A2 (ws ++ [(⟨x, y, z⟩ : S55)]).length c2], u8, E, V, M, A9, A2, c9, c2, ?_, F.p9 hne hk1 hk0 q8⟩
              simp only [Act.put, put11, List.setIfInBounds_toArray, List.set_cons_zero, List.set_cons_succ]
            · -- 10
              have ho2 := ho
              simp only [List.getElem?_toArray, List.getElem?_cons_succ, List.getElem?_cons_zero, Option.some.injEq] at ho2
              subst ho2
              clear hall
              simp only [put11, List.setIfInBounds_toArray, List.set_cons_zero, List.set_cons_succ]
              refine wpOp_K ho fun K hK => ?_
              go_simp
              refine hK _ _ ⟨by simpa using hsz, u44, u45, u46, u47, u48, u49, u50, u51, u52, u53, .pointer (some ⟨w.heap.size, 0, none⟩), E, V, w.heap.size, A9, A2, c9, c2, ?_, F.m10 hne hk1 hk0⟩
              simp only [Act.put, put11, List.setIfInBounds_toArray, List.set_cons_zero, List.set_cons_succ]
            · -- 11
              have ho2 := ho
              simp only [List.getElem?_toArray, List.getElem?_cons_succ, List.getElem?_cons_zero, Option.some.injEq] at ho2
              subst ho2
              have q10 : L.getD 10 false = true := hall { on := 10, ground := Ground.data } (by simp) rfl
              have q9 : L.getD 9 false = true := hall { on := 9, ground := Ground.data } (by simp) rfl
              have q8 : L.getD 8 false = true := hall { on := 8, ground := Ground.chain } (by simp) rfl
              have q5 : L.getD 5 false = true := hall { on := 5, ground := Ground.phase } (by simp) rfl
              clear hall
              obtain rfl := F.s10 q10
              obtain rfl := F.s9 q9
              simp only [put11, List.setIfInBounds_toArray, List.set_cons_zero, List.set_cons_succ]
              refine wpOp_K ho fun K hK => ?_
              have m0 : w.cell? ⟨M, 0, none⟩ = some (.slice none 0 0) := (blk_cell (F.s10b q10 hk0) 0).trans rfl
              have m1 : w.cell? ⟨M, 1, none⟩ = some (.slice none 0 0) := (blk_cell (F.s10b q10 hk0) 1).trans rfl
              have mz0 := blk_frozen (F.s10b q10 hk0) 0
              have mz1 := blk_frozen (F.s10b q10 hk0) 1
              go_simp
              have hlen : ws.length + 1 = (ws ++ [(⟨x, y, z⟩ : S55)]).length := by simp
              rw [hlen]
              refine hK _ _ ⟨by simpa using hsz, u44, u45, u46, u47, u48, u49, u50, u51, u52, .agg #[.slice A d.length c, .slice A2 (ws ++ [(⟨x, y, z⟩ : S55)]).length c2], .pointer (some ⟨M, 0, none⟩), E, V, M, A9, A2, c9, c2, ?_, F.t11 hne hk1 hk0 q5 q8 q10⟩
              simp only [Act.put, put11, List.setIfInBounds_toArray, List.set_cons_zero, List.set_cons_succ]
end Go.Proofs.Ytojpibpjieanhaa.X
end
section
namespace Go.Proofs.Ytojpibpjieanhaa.X
open Go.RowKit Go.Proofs.YtojpibpjieanhaaW.PrintWords Go.Proofs.YtojpibpjieanhaaW.PrintLast Go.Proofs.YtojpibpjieanhaaW.PrintMore
set_option linter.unusedVariables false
set_option linter.unusedSimpArgs false
def spec_R8Flow.f (k : Nat) (l0 : List Int) : Option (List Int × List S55) := drawFl k l0 0 0
set_option maxHeartbeats 4000000 in
set_option maxRecDepth 100000 in
theorem spec_R8Flow.calls (k : Nat) (A0 : Option Addr) (c0 : Nat) (l0 : List Int) (r1 : List Int) (r2 : List S55) (w : World) (hr0 : Kd.C (Kd.int .u8) w A0 l0.length l0) (hc0 : l0.length ≤ c0) (h : spec_R8Flow.f k l0 = some (r1, r2)) :
    Calls Try.prog 40 #[.slice A0 l0.length c0] w fun e w' => ∃ v0_ v1_ : Value, e = .returned (.agg #[v0_, v1_]) ∧ Kd.R (Kd.int .i64) 2 w' w.heap.size (fun _ => True) v0_ r1 ∧ Kd.R k55 55 w' w.heap.size (fun _ => True) v1_ r2 ∧ Below w.heap.size w w' := by
  have HR := Aside0.mk hr0
  have HC := Aside0.mk hc0
  have HF : Aside0 (drawFl k l0 0 0 = some (r1, r2)) := ⟨h⟩
  have HB := Aside0.mk (Below.refl w.heap.size w)
  clear hr0 hc0 h
  go_enter Try.func40, Try.ntmps40
  go_wp2_with (first
    | ((with_reducible refine gate_dst (N := 2) rfl ?_); refine box_event ?hg (N := 2) ?hd (cs := #[.slice none 0 0, .slice none 0 0]) (t := 36) ?hr ?_; (case hd => rfl); (case hg => rfl); (case hr => first | (go_simp; done) | (go_simp; rfl)); intro g2 hg wn hbox hb; have GE2 := Aside0.mk (show w.heap.size ≤ g2 by rw [hg]; exact below_size HB.out); have BK2 := Aside0.mk hbox; have n0_ := Aside0.mk (below_step HB.out hb); clear HB hb hbox hg; have HB := n0_; clear n0_)
    | (go_at_call 71; (with_reducible refine (spec_l00From.calls A0 c0 l0 l0 0 0 w _ HB.out HR.out HC.out rfl).mono ?_); rintro e w71 ⟨g, rfl, hi, hb0, hb⟩; have HI := Aside0.mk hi; have n1_ := Aside0.mk (blk_below BK2.out hb); clear HB BK2 hb hi; have HB := Aside0.mk hb0; have BK2 := n1_; clear n1_ hb0)
    | (go_at_call 72; (with_reducible refine (drawok_walk k g l0 0 0 r1 r2 w _ HI.out HB.out HF.out).mono ?_); rintro e w72 ⟨v0, v1, rfl, h1, h2, hb, hk⟩; have n1_ := Aside0.mk (hk.blk BK2.out (HI.out.ne_blk BK2.out (by decide)).symm (by simp)); have HL := Aside0.mk (below_size HB.out); have H1 := Aside0.mk (Kd.R_lower h1 HL.out); have H2 := Aside0.mk (Kd.R_lower h2 HL.out); clear HI BK2 h1 h2 hk HB; have HB := Aside0.mk hb; have BK2 := n1_; clear n1_ hb; obtain ⟨A1, c1, rfl, _, _⟩ := Kd.R_reads H1.out; obtain ⟨A2, c2, rfl, _, _⟩ := Kd.R_reads H2.out; have k2_0 : w72.cell? ⟨g2, 0, none⟩ = some (.slice none 0 0) := (blk_cell BK2.out 0).trans rfl; have k2_1 : w72.cell? ⟨g2, 1, none⟩ = some (.slice none 0 0) := (blk_cell BK2.out 1).trans rfl; have z2_0 := blk_frozen BK2.out 0; have z2_1 := blk_frozen BK2.out 1))
  refine bodyPost_ret (results_cell_row rfl _ _ g2 36 #[.slice A1 r1.length c1, .slice A2 r2.length c2] (0, 0) _ rfl (blk_two BK2.out _ _) Try.underlying36 rfl (by kernel_rfl)) rfl ?_
  exact ⟨_, _, rfl, R_two H1.out BK2.out (by decide) rfl _ _, R_two H2.out BK2.out (by decide) rfl _ _, Below.setCell (p := ⟨g2, 1, none⟩) (Below.setCell (p := ⟨g2, 0, none⟩) HB.out GE2.out _) GE2.out _⟩
end Go.Proofs.Ytojpibpjieanhaa.X
end
section
namespace Go.Proofs.Ytojpibpjieanhaa.X
open Go.RowKit Go.Proofs.YtojpibpjieanhaaW.PrintWords Go.Proofs.YtojpibpjieanhaaW.PrintLast Go.Proofs.YtojpibpjieanhaaW.PrintMore
set_option linter.unusedVariables false
set_option linter.unusedSimpArgs false
theorem rd_at (l : List Int) (i : Nat) (h : i < l.length) : rd l (i : Int) = l[i] := rd_nat l i h
theorem has_loop (l : List Int) (v : Int) (hl : l.length ≤ 1000) : ∀ (d i k : Nat), i + d = l.length → d < k → spec_l00Has.l0 k l v i = some (decide (v ∈ l.drop i))
  | 0, i, k, hi, hk => by
    cases k with
    | zero => omega
    | succ k => rw [spec_l00Has.l0, if_neg (by omega), List.drop_of_length_le (by omega)]; simp
  | d + 1, i, k, hi, hk => by
    cases k with
    | zero => omega
    | succ k =>
      have ih := has_loop l v hl d (i + 1) k (by omega) (by omega)
      have hlt : i < l.length := by omega
      rw [spec_l00Has.l0, if_pos (by omega), if_pos (by omega), rd_at l i hlt, List.drop_eq_getElem_cons hlt, w64 (by omega) (by omega)]
      by_cases e : l[i] = v
      · rw [if_pos e]; simp [e]
      · rw [if_neg e]
        rw [Int.natCast_add, Int.natCast_one] at ih
        rw [ih]
        congr 1
        rw [decide_eq_decide, List.mem_cons]
        constructor
        · exact .inr
        · rintro (h | h)
          · exact absurd h.symm e
          · exact h
theorem has_eq (l : List Int) (v : Int) (hl : l.length ≤ 1000) (k : Nat) (hk : l.length < k) : spec_l00Has.f k l v = some (decide (v ∈ l)) := by
  have := has_loop l v hl l.length 0 k (by omega) hk
  simpa [spec_l00Has.f] using this
theorem put_loop (l : List Int) (v : Int) (hv : v ∉ l) (hl : l.length ≤ 1000) : ∀ (d i k : Nat) (out : List Int) (done : Bool), i + d = l.length → out.length ≤ 2 * i + 2 → 2 * d + 1 < k →
    ∃ r, spec_l00Put.l0 k l v out done i = some r ∧ r.length = out.length + d + (if done = true then 0 else 1) ∧ ∀ x, x ∈ r ↔ x ∈ out ∨ x ∈ l.drop i ∨ (done = false ∧ x = v)
  | 0, i, k, out, done, hi, ho, hk => by
    cases k with
    | zero => omega
    | succ k =>
      rw [spec_l00Put.l0, if_neg (by omega), List.drop_of_length_le (by omega)]
      cases done with
      | true => exact ⟨out, by simp, by simp, by simp⟩
      | false => exact ⟨out ++ [v], by rw [if_neg (by decide), if_pos (by omega)], by simp, by simp⟩
  | d + 1, i, k, out, done, hi, ho, hk => by
    cases k with
    | zero => omega
    | succ k =>
    cases k with
    | zero => omega
    | succ k =>
      have hlt : i < l.length := by omega
      have hne : l[i] ≠ v := fun e => hv (e ▸ List.getElem_mem hlt)
      rw [spec_l00Put.l0, if_pos (by omega), List.drop_eq_getElem_cons hlt]
      cases done with
      | true =>
        obtain ⟨r, h1, h2, h3⟩ := put_loop l v hv hl d (i + 1) k (out ++ [l[i]]) true (by omega) (by simp; omega) (by omega)
        refine ⟨r, ?_, by rw [h2]; simp; omega, fun x => by rw [h3]; simp only [List.mem_append, List.mem_cons, List.not_mem_nil, or_false, List.mem_singleton]; grind⟩
        rw [if_pos rfl, spec_l00Put.j1, if_neg (by decide), if_pos (by omega), if_pos (by omega), if_pos (by omega), rd_at l i hlt, w64 (by omega) (by omega)]
        rw [Int.natCast_add, Int.natCast_one] at h1
        exact h1
      | false =>
        rw [if_neg (by decide), if_pos (by omega), rd_at l i hlt, spec_l00Put.j1]
        by_cases hge : l[i] ≥ v
        · obtain ⟨r, h1, h2, h3⟩ := put_loop l v hv hl d (i + 1) k (out ++ [v] ++ [l[i]]) true (by omega) (by simp; omega) (by omega)
          refine ⟨r, ?_, by rw [h2]; simp; omega, fun x => by rw [h3]; simp only [List.mem_append, List.mem_cons, List.not_mem_nil, or_false, List.mem_singleton]; grind⟩
          rw [decide_eq_true hge, if_pos rfl, if_pos (by omega), if_pos (by omega), rd_at l i hlt, if_pos (by omega), if_pos (by omega), Option.bind_some, if_pos (by simp; omega), w64 (by omega) (by omega)]
          rw [Int.natCast_add, Int.natCast_one] at h1
          exact h1
        · obtain ⟨r, h1, h2, h3⟩ := put_loop l v hv hl d (i + 1) k (out ++ [l[i]]) false (by omega) (by simp; omega) (by omega)
          refine ⟨r, ?_, by rw [h2]; simp; omega, fun x => by rw [h3]; simp only [List.mem_append, List.mem_cons, List.not_mem_nil, or_false, List.mem_singleton]; grind⟩
          rw [decide_eq_false hge, if_neg (by decide), if_pos (by omega), if_pos (by omega), if_pos (by omega), rd_at l i hlt, w64 (by omega) (by omega)]
          rw [Int.natCast_add, Int.natCast_one] at h1
          exact h1
theorem put_eq (l : List Int) (v : Int) (hv : v ∉ l) (hl : l.length ≤ 1000) (k : Nat) (hk : 2 * l.length + 1 < k) : ∃ r, spec_l00Put.f k l v = some r ∧ r.length = l.length + 1 ∧ ∀ x, x ∈ r ↔ x ∈ l ∨ x = v := by
  obtain ⟨r, h1, h2, h3⟩ := put_loop l v hv hl l.length 0 k [] false (by omega) (by simp) hk
  exact ⟨r, h1, by rw [h2]; simp, fun x => by rw [h3]; simp⟩
end Go.Proofs.Ytojpibpjieanhaa.X
end
section
namespace Go.Proofs.Ytojpibpjieanhaa.FlowMath
set_option linter.unusedVariables false
set_option linter.unusedSimpArgs false
theorem pigeon : ∀ (n : Nat) (f : Nat → Nat), (∀ i, i ≤ n → f i < n) → ∃ i j, i < j ∧ j ≤ n ∧ f i = f j := by
  intro n
  induction n with
  | zero => intro f h; exact absurd (h 0 (Nat.le_refl _)) (Nat.not_lt_zero _)
  | succ n ih =>
    intro f h
    by_cases hex : ∃ i, i ≤ n ∧ f i = f (n + 1)
    · obtain ⟨i, hi, e⟩ := hex
      exact ⟨i, n + 1, by omega, Nat.le_refl _, e⟩
    · have hne : ∀ i, i ≤ n → f i ≠ f (n + 1) := fun i hi e => hex ⟨i, hi, e⟩
      have hc := h (n + 1) (Nat.le_refl _)
      obtain ⟨i, j, hij, hj, e⟩ := ih (fun i => if f i = n then f (n + 1) else f i) (by
        intro i hi
        have h1 := h i (by omega)
        have h2 := hne i hi
        show (if f i = n then f (n + 1) else f i) < n
        split <;> omega)
      refine ⟨i, j, hij, by omega, ?_⟩
      have h1 := hne i (by omega)
      have h2 := hne j hj
      have e' : (if f i = n then f (n + 1) else f i) = (if f j = n then f (n + 1) else f j) := e
      split at e' <;> split at e' <;> omega
inductive Plus (E : Nat → Nat → Prop) : Nat → Nat → Prop
  | one {a b} : E a b → Plus E a b
  | step {a b c} : E a b → Plus E b c → Plus E a c
theorem Plus.trans {E : Nat → Nat → Prop} {a b c : Nat} (h : Plus E a b) (k : Plus E b c) : Plus E a c := by
  induction h with
  | one e => exact .step e k
  | step e _ ih => exact .step e (ih k)
theorem Plus.snoc {E : Nat → Nat → Prop} {a b c : Nat} (h : Plus E a b) (k : E b c) : Plus E a c := h.trans (.one k)
theorem cycle_of_back (E : Nat → Nat → Prop) (n : Nat) (S : Nat → Prop) (hS : ∀ v, S v → v < n ∧ ∃ u, S u ∧ E u v) (v0 : Nat) (h0 : S v0) : ∃ v, S v ∧ Plus E v v := by
  classical
  let p : {v // S v} → {v // S v} := fun v => ⟨Classical.choose (hS v.1 v.2).2, (Classical.choose_spec (hS v.1 v.2).2).1⟩
  have hp : ∀ v, E (p v).1 v.1 := fun v => (Classical.choose_spec (hS v.1 v.2).2).2
  let s : Nat → {v // S v} := fun k => Nat.rec ⟨v0, h0⟩ (fun _ x => p x) k
  have hs : ∀ k, E (s (k + 1)).1 (s k).1 := fun k => hp (s k)
  have hplus : ∀ d i, Plus E (s (i + d + 1)).1 (s i).1 := by
    intro d
    induction d with
    | zero => intro i; exact .one (hs i)
    | succ d ih => intro i; exact .step (hs (i + d + 1)) (ih i)
  obtain ⟨i, j, hij, _, e⟩ := pigeon n (fun k => (s k).1) (fun i _ => (hS _ (s i).2).1)
  refine ⟨(s i).1, (s i).2, ?_⟩
  have h := hplus (j - i - 1) i
  rw [show i + (j - i - 1) + 1 = j by omega] at h
  have e' : (s i).1 = (s j).1 := e
  rw [← e'] at h
  exact h
noncomputable def cnt (p : Nat → Prop) : Nat → Nat
  | 0 => 0
  | n + 1 => open Classical in cnt p n + if p n then 1 else 0
theorem cnt_le (p : Nat → Prop) (n : Nat) : cnt p n ≤ n := by
  induction n with
  | zero => exact Nat.le_refl _
  | succ n ih => unfold cnt; split <;> omega
theorem cnt_mono {p q : Nat → Prop} (n : Nat) (h : ∀ i, i < n → p i → q i) : cnt p n ≤ cnt q n := by
  induction n with
  | zero => exact Nat.le_refl _
  | succ n ih =>
    have := ih (fun i hi => h i (by omega))
    unfold cnt
    by_cases hp : p n
    · rw [if_pos hp, if_pos (h n (by omega) hp)]; omega
    · rw [if_neg hp]; omega
theorem cnt_lt {p q : Nat → Prop} (n : Nat) (h : ∀ i, i < n → p i → q i) (v : Nat) (hv : v < n) (hq : q v) (hp : ¬ p v) : cnt p n < cnt q n := by
  induction n with
  | zero => omega
  | succ n ih =>
    unfold cnt
    by_cases e : v = n
    · subst e
      have := cnt_mono (p := p) (q := q) v (fun i hi => h i (by omega))
      rw [if_neg hp, if_pos hq]; omega
    · have := ih (fun i hi => h i (by omega)) (by omega)
      by_cases hp' : p n
      · rw [if_pos hp', if_pos (h n (by omega) hp')]; omega
      · rw [if_neg hp']; omega
theorem cnt_lt_n {p : Nat → Prop} (n v : Nat) (hv : v < n) (hp : ¬ p v) : cnt p n < n := by
  have h1 := cnt_lt (p := p) (q := fun _ => True) n (fun _ _ _ => trivial) v hv trivial hp
  have h2 := cnt_le (fun _ => True) n
  omega
noncomputable def rank (E : Nat → Nat → Prop) (n v : Nat) : Nat := cnt (fun u => Plus E v u) n
theorem rank_lt {E : Nat → Nat → Prop} {n : Nat} (hE : ∀ a b, E a b → a < n ∧ b < n) (hac : ∀ v, ¬ Plus E v v) {v u : Nat} (h : E v u) : rank E n u < rank E n v :=
  cnt_lt n (fun _ _ k => .step h k) u (hE _ _ h).2 (.one h) (hac u)
theorem rank_n {E : Nat → Nat → Prop} {n : Nat} (hac : ∀ v, ¬ Plus E v v) {v : Nat} (hv : v < n) : rank E n v < n := cnt_lt_n n v hv (hac v)
theorem Plus.last {E : Nat → Nat → Prop} {a c : Nat} (h : Plus E a c) : ∃ b, E b c ∧ (b = a ∨ Plus E a b) := by
  induction h with
  | one e => exact ⟨_, e, .inl rfl⟩
  | step e k ih =>
    obtain ⟨b, hb, hh⟩ := ih
    refine ⟨b, hb, .inr ?_⟩
    rcases hh with rfl | hh
    · exact .one e
    · exact .step e hh
theorem ring_back {E : Nat → Nat → Prop} {v : Nat} (h : Plus E v v) : ∃ u, Plus E u u ∧ E u v := by
  obtain ⟨b, hb, hh⟩ := h.last
  rcases hh with rfl | hh
  · exact ⟨b, h, hb⟩
  · exact ⟨b, .step hb hh, hb⟩
theorem kahn (E : Nat → Nat → Prop) (n : Nat) (hE : ∀ a b, E a b → a < n ∧ b < n) (L : Nat → Nat → Prop) (h0 : ∀ v, v < n → L 0 v) (hlt : ∀ k v, L k v → v < n)
    (hsub : ∀ k v, L (k + 1) v → L k v) (hled : ∀ k v, L (k + 1) v → ∃ u, L k u ∧ E u v) (hkeep : ∀ k (C : Nat → Prop), (∀ v, C v → L k v) → (∀ v, C v → ∃ u, C u ∧ E u v) → ∀ v, C v → L (k + 1) v) :
    (∃ v, L n v) ↔ ∃ v, Plus E v v := by
  constructor
  · rintro ⟨v, hv⟩
    by_cases hst : ∃ k, k < n ∧ ∀ v, L k v → L (k + 1) v
    · obtain ⟨k, hk, hs⟩ := hst
      have hdown : ∀ d, L (k + d) v → L k v := by
        intro d
        induction d with
        | zero => exact id
        | succ d ih => exact fun h => ih (hsub _ _ h)
      have hkv : L k v := hdown (n - k) (by rw [show k + (n - k) = n by omega]; exact hv)
      obtain ⟨u, _, hu⟩ := cycle_of_back E n (L k) (fun x hx => ⟨hlt k x hx, hled k x (hs x hx)⟩) v hkv
      exact ⟨u, hu⟩
    · have hlow : ∀ k, k ≤ n → cnt (L k) n + k ≤ n := by
        intro k
        induction k with
        | zero => intro _; have := cnt_le (L 0) n; omega
        | succ k ih =>
          intro hk
          have h1 := ih (by omega)
          have hns : ¬ ∀ v, L k v → L (k + 1) v := fun h => hst ⟨k, by omega, h⟩
          obtain ⟨x, hx⟩ := Classical.not_forall.mp hns
          obtain ⟨hx1, hx2⟩ := Classical.not_imp.mp hx
          have := cnt_lt n (fun i _ h => hsub k i h) x (hlt k x hx1) hx1 hx2
          omega
      have h1 := hlow n (Nat.le_refl _)
      have h2 := cnt_lt (p := fun _ => False) (q := L n) n (fun _ _ h => h.elim) v (hlt n v hv) hv (fun h => h)
      omega
  · rintro ⟨v, hv⟩
    have hall : ∀ k v, Plus E v v → L k v := by
      intro k
      induction k with
      | zero => intro v hv; obtain ⟨u, _, hu⟩ := ring_back hv; exact h0 v (hE _ _ hu).2
      | succ k ih => exact fun v hv => hkeep k (fun x => Plus E x x) ih (fun x hx => ring_back hx) v hv
    exact ⟨v, hall n v hv⟩
def relax (d : Nat → Int) (out : Nat → Int) (e : Nat × Nat) : Nat → Int := fun v => if v = e.1 then max (out e.1) (d e.1 + out e.2) else out v
def rnd (d : Nat → Int) (es : List (Nat × Nat)) (out : Nat → Int) : Nat → Int := es.foldl (relax d) out
structure IsSlow (d : Nat → Int) (es : List (Nat × Nat)) (D : Nat → Int) : Prop where
  own : ∀ v, d v ≤ D v
  far : ∀ e, e ∈ es → d e.1 + D e.2 ≤ D e.1
  att : ∀ v, D v = d v ∨ ∃ b, (v, b) ∈ es ∧ D v = d v + D b
theorem fold_max (d : Nat → Int) (D : Nat → Int) (v : Nat) : ∀ (es : List (Nat × Nat)) (m : Int), m ≤ es.foldl (fun m e => if e.1 = v then max m (d v + D e.2) else m) m ∧
    (∀ e, e ∈ es → e.1 = v → d v + D e.2 ≤ es.foldl (fun m e => if e.1 = v then max m (d v + D e.2) else m) m) ∧
    (es.foldl (fun m e => if e.1 = v then max m (d v + D e.2) else m) m = m ∨ ∃ b, (v, b) ∈ es ∧ es.foldl (fun m e => if e.1 = v then max m (d v + D e.2) else m) m = d v + D b) := by
  intro es
  induction es with
  | nil => intro m; exact ⟨Int.le_refl _, by simp, .inl rfl⟩
  | cons e es ih =>
    intro m
    rw [List.foldl_cons]
    obtain ⟨h1, h2, h3⟩ := ih (if e.1 = v then max m (d v + D e.2) else m)
    refine ⟨?_, ?_, ?_⟩
    · refine Int.le_trans ?_ h1; split <;> omega
    · intro x hx hv
      rcases List.mem_cons.mp hx with rfl | hx
      · refine Int.le_trans ?_ h1; rw [if_pos hv]; omega
      · exact h2 x hx hv
    · rcases h3 with h3 | ⟨b, hb, h3⟩
      · rw [h3]
        by_cases hv : e.1 = v
        · rw [if_pos hv]
          by_cases hm : d v + D e.2 ≤ m
          · exact .inl (by omega)
          · exact .inr ⟨e.2, by rw [← hv]; exact List.mem_cons_self .., by omega⟩
        · rw [if_neg hv]; exact .inl rfl
      · exact .inr ⟨b, List.mem_cons_of_mem _ hb, h3⟩
theorem slow_exists (d : Nat → Int) (es : List (Nat × Nat)) (r : Nat → Nat) (hr : ∀ e, e ∈ es → r e.2 < r e.1) : ∃ D, IsSlow d es D := by
  have hk : ∀ k, ∃ D : Nat → Int, (∀ v, r v < k → d v ≤ D v) ∧ (∀ e, e ∈ es → r e.1 < k → d e.1 + D e.2 ≤ D e.1) ∧ (∀ v, r v < k → D v = d v ∨ ∃ b, (v, b) ∈ es ∧ D v = d v + D b) := by
    intro k
    induction k with
    | zero => exact ⟨fun _ => 0, fun _ h => by omega, fun _ _ h => by omega, fun _ h => by omega⟩
    | succ k ih =>
      obtain ⟨D, h1, h2, h3⟩ := ih
      refine ⟨fun v => if r v < k then D v else es.foldl (fun m e => if e.1 = v then max m (d v + D e.2) else m) (d v), ?_, ?_, ?_⟩
      · intro v hv
        show d v ≤ if r v < k then D v else _
        split
        · exact h1 v ‹_›
        · exact (fold_max d D v es (d v)).1
      · intro e he hv
        have hb := hr e he
        show d e.1 + (if r e.2 < k then D e.2 else _) ≤ if r e.1 < k then D e.1 else _
        rw [if_pos (by omega)]
        split
        · exact h2 e he ‹_›
        · exact (fold_max d D e.1 es (d e.1)).2.1 e he rfl
      · intro v hv
        show (if r v < k then D v else _) = d v ∨ ∃ b, (v, b) ∈ es ∧ (if r v < k then D v else _) = d v + (if r b < k then D b else _)
        by_cases hvk : r v < k
        · rw [if_pos hvk]
          rcases h3 v hvk with h | ⟨b, hb, h⟩
          · exact .inl h
          · have : r b < r v := hr (v, b) hb
            exact .inr ⟨b, hb, by rw [if_pos (by omega)]; exact h⟩
        · rw [if_neg hvk]
          rcases (fold_max d D v es (d v)).2.2 with h | ⟨b, hb, h⟩
          · exact .inl h
          · have : r b < r v := hr (v, b) hb
            exact .inr ⟨b, hb, by rw [if_pos (by omega)]; exact h⟩
  -- all ranks of vertices that edges name are bounded
  obtain ⟨m, hm⟩ : ∃ m, ∀ e, e ∈ es → r e.1 < m := by
    clear hk hr
    induction es with
    | nil => exact ⟨0, by simp⟩
    | cons e es ih =>
      obtain ⟨m, hm⟩ := ih
      refine ⟨max m (r e.1 + 1), fun x hx => ?_⟩
      rcases List.mem_cons.mp hx with rfl | hx
      · omega
      · have := hm x hx; omega
  obtain ⟨D, h1, h2, h3⟩ := hk m
  refine ⟨fun v => if r v < m then D v else d v, ?_, ?_, ?_⟩
  · intro v; show d v ≤ if r v < m then D v else d v
    split
    · exact h1 v ‹_›
    · omega
  · intro e he
    have ha := hm e he
    have hb := hr e he
    show d e.1 + (if r e.2 < m then D e.2 else d e.2) ≤ if r e.1 < m then D e.1 else d e.1
    rw [if_pos ha, if_pos (by omega)]; exact h2 e he ha
  · intro v
    show (if r v < m then D v else d v) = d v ∨ ∃ b, (v, b) ∈ es ∧ (if r v < m then D v else d v) = d v + (if r b < m then D b else d b)
    by_cases hv : r v < m
    · rw [if_pos hv]
      rcases h3 v hv with h | ⟨b, hb, h⟩
      · exact .inl h
      · have : r b < r v := hr (v, b) hb
        exact .inr ⟨b, hb, by rw [if_pos (by omega)]; exact h⟩
    · rw [if_neg hv]; exact .inl rfl
def Btw (d D out : Nat → Int) : Prop := ∀ v, d v ≤ out v ∧ out v ≤ D v
theorem btw_relax {d D out : Nat → Int} {es : List (Nat × Nat)} (hD : IsSlow d es D) (h : Btw d D out) (e : Nat × Nat) (he : e ∈ es) : Btw d D (relax d out e) := by
  intro v
  unfold relax
  split
  · rename_i hv
    subst hv
    have h1 := h e.1
    have h2 := h e.2
    have h3 := hD.far e he
    omega
  · exact h v
theorem relax_up {d out : Nat → Int} (e : Nat × Nat) (v : Nat) : out v ≤ relax d out e v := by unfold relax; split <;> (try subst_vars) <;> omega
theorem fold_btw {d D : Nat → Int} {es : List (Nat × Nat)} (hD : IsSlow d es D) : ∀ (l : List (Nat × Nat)) (out : Nat → Int), (∀ e, e ∈ l → e ∈ es) → Btw d D out → Btw d D (l.foldl (relax d) out) ∧ ∀ v, out v ≤ l.foldl (relax d) out v := by
  intro l
  induction l with
  | nil => intro out _ h; exact ⟨h, fun _ => Int.le_refl _⟩
  | cons e l ih =>
    intro out hl h
    obtain ⟨h1, h2⟩ := ih (relax d out e) (fun x hx => hl x (List.mem_cons_of_mem _ hx)) (btw_relax hD h e (hl e (List.mem_cons_self ..)))
    exact ⟨h1, fun v => Int.le_trans (relax_up e v) (h2 v)⟩
theorem fold_reach {d D : Nat → Int} {es : List (Nat × Nat)} (hD : IsSlow d es D) (v b : Nat) (hvb : D v = d v + D b) : ∀ (l : List (Nat × Nat)) (out : Nat → Int), (∀ e, e ∈ l → e ∈ es) → Btw d D out → out b = D b → (v, b) ∈ l → l.foldl (relax d) out v = D v := by
  intro l
  induction l with
  | nil => intro out _ _ _ hm; simp at hm
  | cons e l ih =>
    intro out hl h hb hm
    rw [List.foldl_cons]
    have hB := btw_relax hD h e (hl e (List.mem_cons_self ..))
    have hF := fold_btw hD l (relax d out e) (fun x hx => hl x (List.mem_cons_of_mem _ hx)) hB
    rcases List.mem_cons.mp hm with rfl | hm
    · have h1 : relax d out (v, b) v = D v := by
        have := (h v).2
        unfold relax; rw [if_pos rfl]; simp only; rw [hb]; omega
      have h2 := hF.2 v
      have h3 := (hF.1 v).2
      omega
    · refine ih _ (fun x hx => hl x (List.mem_cons_of_mem _ hx)) hB ?_ hm
      have h2 := relax_up (d := d) (out := out) e b
      have h3 := (hB b).2
      omega
theorem rnd_step {d D : Nat → Int} {es : List (Nat × Nat)} (hD : IsSlow d es D) (r : Nat → Nat) (hr : ∀ e, e ∈ es → r e.2 < r e.1) {out : Nat → Int} (h : Btw d D out) (k : Nat) (hk : ∀ v, r v < k → out v = D v) :
    Btw d D (rnd d es out) ∧ ∀ v, r v < k + 1 → rnd d es out v = D v := by
  have hF := fold_btw hD es out (fun _ h => h) h
  refine ⟨hF.1, fun v hv => ?_⟩
  rcases hD.att v with ha | ⟨b, hb, ha⟩
  · have h1 := (hF.1 v).1
    have h2 := (hF.1 v).2
    unfold rnd; omega
  · exact fold_reach hD v b ha es out (fun _ h => h) h (hk b (by have : r b < r v := hr (v, b) hb; omega)) hb
def rnds (d : Nat → Int) (es : List (Nat × Nat)) : Nat → (Nat → Int)
  | 0 => d
  | k + 1 => rnd d es (rnds d es k)
theorem rnds_slow {d D : Nat → Int} {es : List (Nat × Nat)} (hD : IsSlow d es D) (r : Nat → Nat) (hr : ∀ e, e ∈ es → r e.2 < r e.1) : ∀ k, Btw d D (rnds d es k) ∧ ∀ v, r v < k + 1 → rnds d es k v = D v := by
  intro k
  induction k with
  | zero =>
    refine ⟨fun v => ⟨Int.le_refl _, hD.own v⟩, fun v hv => ?_⟩
    rcases hD.att v with h | ⟨b, hb, _⟩
    · exact h.symm
    · have : r b < r v := hr (v, b) hb; omega
  | succ k ih => exact rnd_step hD r hr ih.1 (k + 1) ih.2
end Go.Proofs.Ytojpibpjieanhaa.FlowMath
end
section
namespace Go.Proofs.Ytojpibpjieanhaa.X
open Go.RowKit Go.Proofs.YtojpibpjieanhaaW.PrintWords Go.Proofs.YtojpibpjieanhaaW.PrintLast Go.Proofs.YtojpibpjieanhaaW.PrintMore Go.Proofs.Ytojpibpjieanhaa.FlowMath
set_option linter.unusedVariables false
set_option linter.unusedSimpArgs false
def WireOk (n : Nat) (w : S55) : Prop := 0 ≤ w.f0 ∧ w.f0 < n ∧ 0 ≤ w.f1 ∧ w.f1 < n ∧ 0 ≤ w.f2 ∧ w.f2 ≤ 20
def Edge (ws : List S55) (a b : Nat) : Prop := ∃ w, w ∈ ws ∧ w.f2 = 0 ∧ w.f0 = (a : Int) ∧ w.f1 = (b : Int)
theorem Edge.lt {ws : List S55} {n : Nat} (hw : ∀ w, w ∈ ws → WireOk n w) {a b : Nat} (h : Edge ws a b) : a < n ∧ b < n := by
  obtain ⟨w, h1, h2, h3, h4⟩ := h
  obtain ⟨_, h5, _, h6, _⟩ := hw w h1
  omega
theorem rdT_at (l : List S55) (i : Nat) (h : i < l.length) : rd_T55 l (i : Int) = l[i] := by
  unfold rd_T55; simp [h]
structure Bfs (ws : List S55) (n v : Nat) (seen list : List Int) (i : Nat) : Prop where
  all : ∀ x, x ∈ list ↔ x = (v : Int) ∨ x ∈ seen
  rng : ∀ x, x ∈ seen → ∃ y : Nat, x = (y : Int) ∧ y < n ∧ Plus (Edge ws) v y
  done : ∀ (j : Nat) (hj : j < list.length), j < i → ∀ w, w ∈ ws → w.f2 = 0 → w.f0 = list[j] → w.f1 ≠ (v : Int) ∧ w.f1 ∈ seen
  le : i ≤ list.length
noncomputable def ringB (ws : List S55) (v : Nat) : Bool := open Classical in decide (Plus (Edge ws) v v)
theorem ringB_true {ws : List S55} {v : Nat} (h : Plus (Edge ws) v v) : ringB ws v = true := by unfold ringB; exact @decide_eq_true _ (Classical.propDecidable _) h
theorem ringB_false {ws : List S55} {v : Nat} (h : ¬ Plus (Edge ws) v v) : ringB ws v = false := by unfold ringB; exact @decide_eq_false _ (Classical.propDecidable _) h
noncomputable def unseen (n : Nat) (seen : List Int) : Nat := cnt (fun y => (y : Int) ∉ seen) n
theorem bfs_end {ws : List S55} {n v : Nat} {seen list : List Int} (h : Bfs ws n v seen list list.length) : ¬ Plus (Edge ws) v v := by
  have key : ∀ a c, Plus (Edge ws) a c → (a : Int) ∈ list → (c : Int) ≠ v ∧ (c : Int) ∈ seen := by
    intro a c hp
    induction hp with
    | one e =>
      intro ha
      obtain ⟨w, h1, h2, h3, h4⟩ := e
      obtain ⟨j, hj, hje⟩ := List.mem_iff_getElem.mp ha
      have := h.done j hj hj w h1 h2 (by rw [hje, h3])
      rw [h4] at this
      exact this
    | step e _ ih =>
      intro ha
      obtain ⟨w, h1, h2, h3, h4⟩ := e
      obtain ⟨j, hj, hje⟩ := List.mem_iff_getElem.mp ha
      have := h.done j hj hj w h1 h2 (by rw [hje, h3])
      rw [h4] at this
      exact ih ((h.all _).2 (.inr this.2))
  intro hp
  exact (key v v hp ((h.all _).2 (.inl rfl))).1 rfl
theorem bfs_in (ws : List S55) (d0 : List Int) (n v : Nat) (hv : v < n) (hn : n ≤ 8) (hm : ws.length ≤ 16) (hw : ∀ w, w ∈ ws → WireOk n w) (i K2 p : Nat) (hK : 100 < K2)
    (next : ∀ (seen list : List Int), Bfs ws n v seen list (i + 1) → (unseen n seen + seen.length ≤ n) → list.length = seen.length + 1 → list.length - (i + 1) + unseen n seen ≤ p → ∀ k, K2 < k → spec_l08Open.l0 k v seen list ((i : Int) + 1) d0 ws = some (ringB ws v)) :
    ∀ (d m : Nat) (seen list : List Int), m + d = ws.length → Bfs ws n v seen list i → i < list.length → (unseen n seen + seen.length ≤ n) → list.length = seen.length + 1 →
      (∀ (j : Nat) (hj : j < ws.length), j < m → ws[j].f2 = 0 → ∀ hi : i < list.length, ws[j].f0 = list[i] → ws[j].f1 ≠ (v : Int) ∧ ws[j].f1 ∈ seen) → list.length - (i + 1) + unseen n seen ≤ p →
      ∀ k, K2 + 2 * d + 1 < k → spec_l08Open.l1 k v seen list i m d0 ws = some (ringB ws v) := by
  intro d
  induction d with
  | zero =>
    intro m seen list hmd hb hi hu hll hp hpp k hk
    cases k with
    | zero => omega
    | succ k =>
      rw [spec_l08Open.l1, if_neg (by omega), w64 (by omega) (by omega)]
      refine next seen list ⟨hb.all, hb.rng, fun j hj hji w hws h2 h3 => ?_, by omega⟩ hu hll hpp k (by omega)
      by_cases e : j = i
      · subst e
        obtain ⟨q, hq, hqe⟩ := List.mem_iff_getElem.mp hws
        have := hp q hq (by omega) (by rw [hqe]; exact h2) hj (by rw [hqe]; exact h3)
        rw [hqe] at this
        exact this
      · exact hb.done j hj (by omega) w hws h2 h3
  | succ d ih =>
    intro m seen list hmd hb hi hu hll hp hpp k hk
    have hlt : m < ws.length := by omega
    obtain ⟨w, hwe⟩ : ∃ w, w = ws[m] := ⟨_, rfl⟩
    have hwm : w ∈ ws := hwe ▸ List.getElem_mem hlt
    obtain ⟨o1, o2, o3, o4, o5, o6⟩ := hw w hwm
    cases k with
    | zero => omega
    | succ k =>
    cases k with
    | zero => omega
    | succ k =>
      rw [spec_l08Open.l1, if_pos (by omega), if_pos (by omega), if_pos (by omega), if_pos (by omega), rdT_at ws m hlt, ← hwe, rd_at list i hi]
      -- a wire that isn't of this vertex, or has registers
      have skip : ¬ (w.f2 = 0 ∧ w.f0 = list[i]) → spec_l08Open.l1 k v seen list i ((m : Int) + 1) d0 ws = some (ringB ws v) := by
        intro hns
        have := ih (m + 1) seen list (by omega) hb hi hu hll (fun j hj hjm h2 hi' h3 => by
          by_cases e : j = m
          · subst e
            rw [← hwe] at h2 h3 ⊢
            exact absurd ⟨h2, h3⟩ hns
          · exact hp j hj (by omega) h2 hi' h3) hpp k (by omega)
        rw [Int.natCast_add, Int.natCast_one] at this
        exact this
      have hwr : Aside0 (wrap64 ((m : Int) + 1) = (m : Int) + 1) := ⟨w64 (by omega) (by omega)⟩
      by_cases e1 : w.f0 = list[i]
      · rw [if_pos e1]
        by_cases e2 : w.f2 > 0
        · rw [decide_eq_true e2, spec_l08Open.j2, if_pos rfl, hwr.out]
          exact skip (fun h => by omega)
        · rw [decide_eq_false e2, spec_l08Open.j2, if_neg (by decide)]
          have e2' : w.f2 = 0 := by omega
          obtain ⟨a, ha⟩ := Int.eq_ofNat_of_zero_le o1
          obtain ⟨b, hb'⟩ := Int.eq_ofNat_of_zero_le o3
          have hE : Edge ws a b := ⟨w, hwm, e2', ha, hb'⟩
          have hreach : a = v ∨ Plus (Edge ws) v a := by
            have hmem : list[i] ∈ list := List.getElem_mem hi
            rcases (hb.all _).1 hmem with h | h
            · left; omega
            · obtain ⟨y, hy, _, hp⟩ := hb.rng _ h
              right
              have : a = y := by omega
              rw [this]; exact hp
          have hpb : Plus (Edge ws) v b := by
            rcases hreach with h | h
            · subst h; exact .one hE
            · exact h.snoc hE
          by_cases e3 : w.f1 = (v : Int)
          · rw [if_pos e3]
            have : b = v := by omega
            subst this
            rw [ringB_true hpb]
          · rw [if_neg e3, has_eq seen w.f1 (by omega) k (by omega), Option.bind_some]
            by_cases e4 : w.f1 ∈ seen
            · rw [decide_eq_true e4, if_pos rfl, hwr.out]
              have := ih (m + 1) seen list (by omega) hb hi hu hll (fun j hj hjm h2 hi' h3 => by
                by_cases e : j = m
                · subst e
                  rw [← hwe]
                  exact ⟨e3, e4⟩
                · exact hp j hj (by omega) h2 hi' h3) hpp k (by omega)
              rw [Int.natCast_add, Int.natCast_one] at this
              exact this
            · obtain ⟨seen', hs1, hs2, hs3⟩ := put_eq seen w.f1 e4 (by omega) k (by omega)
              rw [decide_eq_false e4, if_neg (by decide), hs1, Option.bind_some, if_pos (by omega), hwr.out]
              have hul : unseen n seen' < unseen n seen := by
                refine cnt_lt n (fun y _ hy hys => hy ((hs3 _).2 (.inl hys))) b (by omega) (by rw [← hb']; exact e4) ?_
                intro h; exact h ((hs3 _).2 (.inr hb'.symm))
              have hget : ∀ (j : Nat) (hj : j < list.length) (hj' : j < (list ++ [w.f1]).length), (list ++ [w.f1])[j] = list[j] := fun j hj hj' => List.getElem_append_left hj
              have := ih (m + 1) seen' (list ++ [w.f1]) (by omega)
                ⟨fun x => by rw [List.mem_append, hb.all, hs3, List.mem_singleton, or_assoc], fun x hx => by
                    rcases (hs3 x).1 hx with h | h
                    · exact hb.rng x h
                    · exact ⟨b, by omega, by omega, hpb⟩,
                  fun j hj hji w' hws h2 h3 => by
                    have hjl : j < list.length := by omega
                    rw [hget j hjl hj] at h3
                    have := hb.done j hjl hji w' hws h2 h3
                    exact ⟨this.1, (hs3 _).2 (.inl this.2)⟩, by simp; omega⟩
                (by simp; omega) (by omega) (by simp; omega)
                (fun j hj hjm h2 hi' h3 => by
                  rw [hget i hi hi'] at h3
                  by_cases e : j = m
                  · subst e
                    rw [← hwe]
                    exact ⟨e3, (hs3 _).2 (.inr rfl)⟩
                  · have := hp j hj (by omega) h2 hi h3
                    exact ⟨this.1, (hs3 _).2 (.inl this.2)⟩) (by simp; omega) k (by omega)
              rw [Int.natCast_add, Int.natCast_one] at this
              exact this
      · rw [if_neg e1, spec_l08Open.j2, if_pos rfl, hwr.out]
        exact skip (fun h => e1 h.2)
theorem unseen_le (n : Nat) (seen : List Int) : unseen n seen ≤ n := cnt_le _ _
theorem bfs_out (ws : List S55) (d0 : List Int) (n v : Nat) (hv : v < n) (hn : n ≤ 8) (hm : ws.length ≤ 16) (hw : ∀ w, w ∈ ws → WireOk n w) :
    ∀ (p i : Nat) (seen list : List Int), list.length - i + unseen n seen ≤ p → Bfs ws n v seen list i → (unseen n seen + seen.length ≤ n) → list.length = seen.length + 1 →
      ∀ k, 200 + 50 * p < k → spec_l08Open.l0 k v seen list i d0 ws = some (ringB ws v) := by
  intro p
  induction p with
  | zero =>
    intro i seen list hp hb hu hll k hk
    cases k with
    | zero => omega
    | succ k =>
      have hle := hb.le
      rw [spec_l08Open.l0, if_neg (by omega)]
      have e : i = list.length := by omega
      subst e
      rw [ringB_false (bfs_end hb)]
  | succ p ih =>
    intro i seen list hp hb hu hll k hk
    cases k with
    | zero => omega
    | succ k =>
      have hle := hb.le
      rw [spec_l08Open.l0]
      by_cases hi : i < list.length
      · rw [if_pos (by omega)]
        exact bfs_in ws d0 n v hv hn hm hw i (200 + 50 * p) p (by omega) (fun seen' list' hb' hu' hll' hpp k' hk' => by
          have := ih (i + 1) seen' list' (by omega) hb' hu' hll' k' (by omega)
          rw [Int.natCast_add, Int.natCast_one] at this
          exact this) ws.length 0 seen list (by omega) hb hi hu hll (fun j hj hjm => by omega) (by omega) k (by omega)
      · rw [if_neg (by omega)]
        have e : i = list.length := by omega
        subst e
        rw [ringB_false (bfs_end hb)]
theorem open_eq (ws : List S55) (d0 : List Int) (n v : Nat) (hv : v < n) (hn : n ≤ 8) (hm : ws.length ≤ 16) (hw : ∀ w, w ∈ ws → WireOk n w) (k : Nat) (hk : 1000 < k) : spec_l08Open.f k d0 ws v = some (ringB ws v) := by
  unfold spec_l08Open.f
  have hu := unseen_le n []
  exact bfs_out ws d0 n v hv hn hm hw (1 + n) 0 [] [(v : Int)] (by simp; omega) ⟨by simp, by simp, fun j hj hji => by omega, by simp⟩ (by simp; omega) rfl k (by omega)
end Go.Proofs.Ytojpibpjieanhaa.X
end
section
-- Written by a program of this session out of the kit's print of the loaded functions: a plain function of a Go function, and its contract.
namespace Go.Proofs.Ytojpibpjieanhaa.X
open Go.RowKit Go.Proofs.YtojpibpjieanhaaW.PrintWords Go.Proofs.YtojpibpjieanhaaW.PrintLast Go.Proofs.YtojpibpjieanhaaW.PrintMore
attribute [local go_sem] max2_int min2_int max_two min_two max_three min_three max_four min_four   -- for this text's walks alone
set_option linter.unusedVariables false
set_option linter.unusedSimpArgs false
def impl_within.f (a0 : Int) (a1 : Int) (a2 : Int) : Option (Bool) := if a0 ≥ a1 then (some (decide (a0 ≤ a2))) else (some false)
set_option maxHeartbeats 8000000 in
set_option maxRecDepth 100000 in
theorem impl_within.calls (a0 : Int) (a1 : Int) (a2 : Int) (r : Bool) (w : World) (h : impl_within.f a0 a1 a2 = some r) :
  Calls Try.prog 47 #[.int .i64 a0, .int .i64 a1, .int .i64 a2] w fun e w' => e = .returned (.bool r) ∧ Drawn0 w w' := by
 have H : (if a0 ≥ a1 then (some (decide (a0 ≤ a2))) else (some false)) = some r := h
 clear h
 by_cases c4 : a0 ≥ a1
 ·rw [if_pos c4] at H
  have c4b0 : decide (a1 ≤ a0) = true := decide_eq_true c4
  clear c4
  obtain rfl := Option.some.inj H
  go_enter Try.func47, Try.ntmps47
  go_wp2
  go_ret
  exact ⟨by first | rfl | (simp; done) | (simp [*]; done), by repeat (first | exact Drawn0.refl _ | apply Drawn0.step)⟩
 ·rw [if_neg c4] at H
  have c4b0 : decide (a1 ≤ a0) = false := decide_eq_false c4
  clear c4
  obtain rfl := Option.some.inj H
  go_enter Try.func47, Try.ntmps47
  go_wp2
  go_ret
  exact ⟨by first | rfl | (simp; done) | (simp [*]; done), by repeat (first | exact Drawn0.refl _ | apply Drawn0.step)⟩
end Go.Proofs.Ytojpibpjieanhaa.X
end
section
-- Written by a program of this session out of the kit's print of the loaded functions: a plain function of a Go function, and its contract.
namespace Go.Proofs.Ytojpibpjieanhaa.X
open Go.RowKit Go.Proofs.YtojpibpjieanhaaW.PrintWords Go.Proofs.YtojpibpjieanhaaW.PrintLast Go.Proofs.YtojpibpjieanhaaW.PrintMore
attribute [local go_sem] max2_int min2_int max_two min_two max_three min_three max_four min_four   -- for this text's walks alone
set_option linter.unusedVariables false
set_option linter.unusedSimpArgs false
class C_slices_IndexFunc_int64_int64 where
 f : Int → Option Bool
section
variable [C_slices_IndexFunc_int64_int64]
def slices_IndexFunc_int64_int64.l0 : Nat → List Int → Int → Int → Option (Int)
 | 0, _, _, _ => none
 | k + 1, x0, x7, x8 => if x8 < x7 then (if 0 ≤ x8 then (if x8 < (x0.length : Int) then ((C_slices_IndexFunc_int64_int64.f (rd x0 x8)).bind fun t120 => (if t120 = true then (some x8) else (slices_IndexFunc_int64_int64.l0 k x0 x7 (wrap64 (x8 + 1))))) else (none)) else (none)) else (some (-1))
def slices_IndexFunc_int64_int64.f (k : Nat) (l0 : List Int) (a1 : Int) : Option (Int) := slices_IndexFunc_int64_int64.l0 k l0 (l0.length : Int) 0
set_option maxHeartbeats 8000000 in
set_option maxRecDepth 100000 in
theorem slices_IndexFunc_int64_int64.calls (k : Nat) (A0 : Option Addr) (c0 : Nat) (l0 : List Int) (a1 : Int) (r : Int) (cf : Nat) (cfn : Func) (caps : Array Value) (hcf : CloIs Try.prog cf cfn) (w : World) (hcl : ∀ x r W, C_slices_IndexFunc_int64_int64.f x = some r → Below w.heap.size w W → Calls Try.prog cf (#[.int .i64 x] ++ caps) W fun e w' => e = .returned (.bool r) ∧ Drawn0 W w') (hr0 : Kd.C (Kd.int .i64) w A0 l0.length l0) (hc0 : l0.length ≤ c0) (h : slices_IndexFunc_int64_int64.f k l0 a1 = some r) :
  Calls Try.prog 99 #[.slice A0 l0.length c0, .func (.func cf) #[] caps] w fun e w' => e = .returned (.int .i64 r) ∧ Drawn0 w w' := by
 have HCF := Aside0.mk hcf
 have HCL := Aside0.mk hcl
 clear hcf hcl
 have HR0 := Aside0.mk hr0
 have HC0 := Aside0.mk hc0
 clear hr0 hc0
 have H : (slices_IndexFunc_int64_int64.l0 k l0 (l0.length : Int) 0) = some r := h
 clear h
 have H' := Aside0.mk H
 clear H
 go_enter Try.func99, Try.ntmps99
 go_wp2
 go_loopg [8] k (fun kq v8 w' => ∃ (x8_1 : Int), v8 = .int .i64 x8_1 ∧ Aside0 (slices_IndexFunc_int64_int64.l0 kq l0 (l0.length : Int) x8_1 = some r) ∧ Aside0 (kq ≤ k) ∧ Drawn0 w w')
 case atStart => exact ⟨(0), (by first | rfl | (simp; done) | (simp [*]; done)), H', ⟨Nat.le_refl _⟩, by repeat (first | exact Drawn0.refl _ | apply Drawn0.step)⟩
 case round =>
  clear H'
  try clear p2
  obtain ⟨x8_1, rfl, HA, HK1, ⟨m1, rfl⟩⟩ := hrel
  cases gk with
  | zero => exact absurd HA.out (by simp [slices_IndexFunc_int64_int64.l0])
  | succ k1 =>
   have H := HA.out
   clear HA
   simp only [slices_IndexFunc_int64_int64.l0] at H
   by_cases c3 : x8_1 < (l0.length : Int)
   ·rw [if_pos c3] at H
    have c3b0 : decide (x8_1 < (l0.length : Int)) = true := decide_eq_true c3
    clear c3
    by_cases c4 : 0 ≤ x8_1
    ·rw [if_pos c4] at H
     have c4b0 : decide (0 ≤ x8_1) = true := decide_eq_true c4
     clear c4
     by_cases c5 : x8_1 < (l0.length : Int)
     ·rw [if_pos c5] at H
      have c5b0 : decide (x8_1 < (l0.length : Int)) = true := decide_eq_true c5
      clear c5
      replace H := Option.bind_eq_some_iff.mp H
      obtain ⟨t120, A60, H⟩ := H
      replace H : (if t120 = true then (some x8_1) else (slices_IndexFunc_int64_int64.l0 k1 l0 (l0.length : Int) (wrap64 (x8_1 + 1)))) = some r := H
      have A6 := Aside0.mk A60
      clear A60
      by_cases c7 : t120 = true
      ·subst c7
       have H1 : (some x8_1) = some r := by rw [if_pos rfl] at H; exact H
       clear H
       have H := H1
       clear H1
       obtain rfl := Option.some.inj H
       have p119 : 0 ≤ (x8_1 : Int) := of_decide_eq_true (by first | (with_reducible assumption) | assumption)
       have q119 : x8_1 < (l0.length : Int) := of_decide_eq_true (by first | (with_reducible assumption) | assumption)
       obtain ⟨ad119, e119, hx119_0⟩ := Kd.at_int HR0.out x8_1 p119 q119
       cases e119
       replace p119 := eq_true p119
       replace q119 := eq_true q119
       go_wp2_with (first | ((with_reducible refine gate_dst (N := 16) rfl ?_); refine goesV_ (some 16) rfl rfl HCF.out.hf HCF.out.hname HCF.out.hb #[.int .i64 (rd l0 x8_1)] rfl rfl (by (try simp only [List.map_toArray, List.map_cons, List.map_nil]); first | done | rfl | (simp only [List.length_drop, List.length_take]; rfl)) ?_; (refine (HCL.out (rd l0 x8_1) true _ A6.out (by repeat (first | (with_reducible first | exact HB.out | apply below_alloc | apply pw_below_drewN | apply below_drew1) | exact HB.out | exact Below.refl _ _))).mono ?_); rintro e w' ⟨rfl, ⟨nd, rfl⟩⟩; refine ⟨_, rfl, ?_⟩))
       go_ret
       exact ⟨by first | rfl | (simp; done) | (simp [*]; done), by repeat (first | exact Drawn0.refl _ | apply Drawn0.step)⟩
      ·replace c7 := Bool.eq_false_iff.mpr c7
       subst c7
       have H1 : (slices_IndexFunc_int64_int64.l0 k1 l0 (l0.length : Int) (wrap64 (x8_1 + 1))) = some r := by rw [if_neg (show ¬ (false = true) by decide)] at H; exact H
       clear H
       have H := H1
       clear H1
       have H' := Aside0.mk H
       clear H
       have p119 : 0 ≤ (x8_1 : Int) := of_decide_eq_true (by first | (with_reducible assumption) | assumption)
       have q119 : x8_1 < (l0.length : Int) := of_decide_eq_true (by first | (with_reducible assumption) | assumption)
       obtain ⟨ad119, e119, hx119_0⟩ := Kd.at_int HR0.out x8_1 p119 q119
       cases e119
       replace p119 := eq_true p119
       replace q119 := eq_true q119
       go_wp2_with (first | ((with_reducible refine gate_dst (N := 16) rfl ?_); refine goesV_ (some 16) rfl rfl HCF.out.hf HCF.out.hname HCF.out.hb #[.int .i64 (rd l0 x8_1)] rfl rfl (by (try simp only [List.map_toArray, List.map_cons, List.map_nil]); first | done | rfl | (simp only [List.length_drop, List.length_take]; rfl)) ?_; (refine (HCL.out (rd l0 x8_1) false _ A6.out (by repeat (first | (with_reducible first | exact HB.out | apply below_alloc | apply pw_below_drewN | apply below_drew1) | exact HB.out | exact Below.refl _ _))).mono ?_); rintro e w' ⟨rfl, ⟨nd, rfl⟩⟩; refine ⟨_, rfl, ?_⟩))
       go_roundg k1
       case measure => have := HK1.out; omega
       case rel => exact ⟨(wrap64 (x8_1 + 1)), (by first | rfl | (simp; done) | (simp [*]; done)), H', ⟨by have := HK1.out; omega⟩, by repeat (first | exact Drawn0.refl _ | apply Drawn0.step)⟩
     ·rw [if_neg c5] at H
      exact absurd H (by simp)
    ·rw [if_neg c4] at H
     exact absurd H (by simp)
   ·rw [if_neg c3] at H
    have c3b0 : decide (x8_1 < (l0.length : Int)) = false := decide_eq_false c3
    clear c3
    obtain rfl := Option.some.inj H
    go_wp2
    go_ret
    exact ⟨by first | rfl | (simp; done) | (simp [*]; done), by repeat (first | exact Drawn0.refl _ | apply Drawn0.step)⟩
end
end Go.Proofs.Ytojpibpjieanhaa.X
end
section
namespace Go.Proofs.Ytojpibpjieanhaa.X
open Go.RowKit Go.Proofs.YtojpibpjieanhaaW.PrintWords Go.Proofs.YtojpibpjieanhaaW.PrintLast Go.Proofs.YtojpibpjieanhaaW.PrintMore
set_option linter.unusedVariables false
set_option linter.unusedSimpArgs false
theorem drawn_trans {a b c : World} (h : Drawn0 a b) (k : Drawn0 b c) : Drawn0 a c := by
  obtain ⟨m, rfl⟩ := h
  obtain ⟨n, rfl⟩ := k
  exact ⟨m + n, by simp [World.drewN, Nat.add_assoc]⟩
end Go.Proofs.Ytojpibpjieanhaa.X
end
section
-- Written by a program of this session out of the kit's print of the loaded functions: a plain function of a Go function, and its contract.
namespace Go.Proofs.Ytojpibpjieanhaa.X
open Go.RowKit Go.Proofs.YtojpibpjieanhaaW.PrintWords Go.Proofs.YtojpibpjieanhaaW.PrintLast Go.Proofs.YtojpibpjieanhaaW.PrintMore
attribute [local go_sem] max2_int min2_int max_two min_two max_three min_three max_four min_four   -- for this text's walks alone
set_option linter.unusedVariables false
set_option linter.unusedSimpArgs false
def impl_isDelay.f (a0 : Int) : Option (Bool) := (impl_within.f a0 0 100).bind fun t904 => (some t904)
set_option maxHeartbeats 8000000 in
set_option maxRecDepth 100000 in
theorem impl_isDelay.calls (a0 : Int) (r : Bool) (w : World) (h : impl_isDelay.f a0 = some r) :
  Calls Try.prog 82 #[.int .i64 a0] w fun e w' => e = .returned (.bool r) ∧ Drawn0 w w' := by
 have H : ((impl_within.f a0 0 100).bind fun t904 => (some t904)) = some r := h
 clear h
 replace H := Option.bind_eq_some_iff.mp H
 obtain ⟨t904, A20, H⟩ := H
 replace H : (some t904) = some r := H
 have A2 := Aside0.mk A20
 clear A20
 obtain rfl := Option.some.inj H
 go_enter Try.func82, Try.ntmps82
 go_wp2_with (first | ((with_reducible refine gate_callee (f := 47) rfl ?_); refine goesL_ (some 4) rfl rfl Try.func47 (by kernel_rfl) rfl #[.int .i64 a0, .int .i64 0, .int .i64 100] rfl (by (try simp only [List.map_toArray, List.map_cons, List.map_nil]); first | done | rfl | (simp only [List.length_drop, List.length_take]; rfl)) ?_; (with_reducible refine (impl_within.calls a0 0 100 t904 _ A2.out).mono ?_); rintro e w' ⟨rfl, ⟨nd, rfl⟩⟩; refine ⟨_, rfl, ?_⟩))
 go_ret
 exact ⟨by first | rfl | (simp; done) | (simp [*]; done), by repeat (first | exact Drawn0.refl _ | apply Drawn0.step)⟩
end Go.Proofs.Ytojpibpjieanhaa.X
end
section
-- Written by a program of this session out of the kit's print of the loaded functions: a plain function of a Go function, and its contract.
namespace Go.Proofs.Ytojpibpjieanhaa.X
open Go.RowKit Go.Proofs.YtojpibpjieanhaaW.PrintWords Go.Proofs.YtojpibpjieanhaaW.PrintLast Go.Proofs.YtojpibpjieanhaaW.PrintMore
attribute [local go_sem] max2_int min2_int max_two min_two max_three min_three max_four min_four   -- for this text's walks alone
set_option linter.unusedVariables false
set_option linter.unusedSimpArgs false
class C_impl_Wire_102 where
 f : Int → Int → Int → Option Bool
section
variable [C_impl_Wire_102]
def impl_Wire_102.l0 : Nat → List (S55) → Int → Int → Option (Int)
 | 0, _, _, _ => none
 | k + 1, x0, x7, x8 => if x8 < x7 then (if 0 ≤ x8 then (if x8 < (x0.length : Int) then ((C_impl_Wire_102.f ((rd_T55 x0 x8).f0) ((rd_T55 x0 x8).f1) ((rd_T55 x0 x8).f2)).bind fun t244 => (if t244 = true then (some x8) else (impl_Wire_102.l0 k x0 x7 (wrap64 (x8 + 1))))) else (none)) else (none)) else (some (-1))
def impl_Wire_102.f (k : Nat) (l0 : List (S55)) (a1 : Int) : Option (Int) := impl_Wire_102.l0 k l0 (l0.length : Int) 0
set_option maxHeartbeats 8000000 in
set_option maxRecDepth 100000 in
theorem impl_Wire_102.calls (k : Nat) (A0 : Option Addr) (c0 : Nat) (l0 : List (S55)) (a1 : Int) (r : Int) (cf : Nat) (cfn : Func) (caps : Array Value) (hcf : CloIs Try.prog cf cfn) (w : World) (hcl : ∀ x0 x1 x2 r W, C_impl_Wire_102.f x0 x1 x2 = some r → Below w.heap.size w W → Calls Try.prog cf (#[.agg #[.int .i64 x0, .int .i64 x1, .int .i64 x2]] ++ caps) W fun e w' => e = .returned (.bool r) ∧ Below W.heap.size W w') (hr0 : Kd.C k55 w A0 l0.length l0) (hc0 : l0.length ≤ c0) (h : impl_Wire_102.f k l0 a1 = some r) :
  Calls Try.prog 102 #[.slice A0 l0.length c0, .func (.func cf) #[] caps] w fun e w' => e = .returned (.int .i64 r) ∧ Below w.heap.size w w' := by
 have HCF := Aside0.mk hcf
 have HCL := Aside0.mk hcl
 clear hcf hcl
 have hu55 := Try.underlying55
 have HR0 := Aside0.mk hr0
 have HC0 := Aside0.mk hc0
 clear hr0 hc0
 have HB := Aside0.mk (Below.refl w.heap.size w)
 have H : (impl_Wire_102.l0 k l0 (l0.length : Int) 0) = some r := h
 clear h
 have H' := Aside0.mk H
 clear H
 go_enter Try.func102, Try.ntmps102
 go_wp2
 go_loopg [8] k (fun kq v8 w' => ∃ (x8_1 : Int), v8 = .int .i64 x8_1 ∧ Aside0 (impl_Wire_102.l0 kq l0 (l0.length : Int) x8_1 = some r) ∧ Aside0 (kq ≤ k) ∧ Aside0 (Below w.heap.size w w'))
 case atStart => exact ⟨(0), (by first | rfl | (simp; done) | (simp [*]; done)), H', ⟨Nat.le_refl _⟩, ⟨by repeat (first | (with_reducible first | exact HB.out | apply below_alloc | apply pw_below_drewN | apply below_drew1) | exact HB.out)⟩⟩
 case round =>
  clear H'
  try clear c1
  try clear p2
  obtain ⟨x8_1, rfl, HA, HK1, HB⟩ := hrel
  cases gk with
  | zero => exact absurd HA.out (by simp [impl_Wire_102.l0])
  | succ k1 =>
   have H := HA.out
   clear HA
   simp only [impl_Wire_102.l0] at H
   by_cases c3 : x8_1 < (l0.length : Int)
   ·rw [if_pos c3] at H
    have c3b0 : decide (x8_1 < (l0.length : Int)) = true := decide_eq_true c3
    clear c3
    by_cases c4 : 0 ≤ x8_1
    ·rw [if_pos c4] at H
     have c4b0 : decide (0 ≤ x8_1) = true := decide_eq_true c4
     clear c4
     by_cases c5 : x8_1 < (l0.length : Int)
     ·rw [if_pos c5] at H
      have c5b0 : decide (x8_1 < (l0.length : Int)) = true := decide_eq_true c5
      clear c5
      replace H := Option.bind_eq_some_iff.mp H
      obtain ⟨t244, A60, H⟩ := H
      replace H : (if t244 = true then (some x8_1) else (impl_Wire_102.l0 k1 l0 (l0.length : Int) (wrap64 (x8_1 + 1)))) = some r := H
      have A6 := Aside0.mk A60
      clear A60
      by_cases c7 : t244 = true
      ·subst c7
       have H1 : (some x8_1) = some r := by rw [if_pos rfl] at H; exact H
       clear H
       have H := H1
       clear H1
       obtain rfl := Option.some.inj H
       have p243 : 0 ≤ (x8_1 : Int) := of_decide_eq_true (by first | (with_reducible assumption) | assumption)
       have q243 : x8_1 < (l0.length : Int) := of_decide_eq_true (by first | (with_reducible assumption) | assumption)
       obtain ⟨ad243, e243, hx243_0, hx243_1, hx243_2⟩ := at_T55 HR0.out x8_1 p243 q243
       cases e243
       replace hx243_0 := (HB.out.cell (World.block_lt_of_cell? w _ hx243_0)).trans hx243_0
       replace hx243_1 := (HB.out.cell (World.block_lt_of_cell? w _ hx243_1)).trans hx243_1
       replace hx243_2 := (HB.out.cell (World.block_lt_of_cell? w _ hx243_2)).trans hx243_2
       replace p243 := eq_true p243
       replace q243 := eq_true q243
       go_wp2_with (first | ((with_reducible refine gate_dst (N := 16) rfl ?_); refine goesV_ (some 16) rfl rfl HCF.out.hf HCF.out.hname HCF.out.hb #[.agg #[.int .i64 ((rd_T55 l0 x8_1).f0), .int .i64 ((rd_T55 l0 x8_1).f1), .int .i64 ((rd_T55 l0 x8_1).f2)]] rfl rfl (by (try simp only [List.map_toArray, List.map_cons, List.map_nil]); first | done | rfl | (simp only [List.length_drop, List.length_take]; rfl)) ?_; (refine (HCL.out ((rd_T55 l0 x8_1).f0) ((rd_T55 l0 x8_1).f1) ((rd_T55 l0 x8_1).f2) true _ A6.out (by repeat (first | (with_reducible first | exact HB.out | apply below_alloc | apply pw_below_drewN | apply below_drew1) | exact HB.out | exact Below.refl _ _))).mono ?_); rintro e w8 ⟨rfl, hb⟩; refine ⟨_, rfl, ?_⟩; have n0_ := Aside0.mk (below_step (by repeat (first | (with_reducible first | exact HB.out | apply below_alloc | apply pw_below_drewN | apply below_drew1) | exact HB.out)) hb); clear HB; have HB := n0_; clear n0_; (try clear hb); (try clear hb2); (try clear hk); (try clear hi)))
       go_ret
       exact ⟨by first | rfl | (simp [errW_none, errW_some] <;> rfl) | (simp [*, errW_none, errW_some] <;> rfl), by repeat (first | (with_reducible first | exact HB.out | apply below_alloc | apply pw_below_drewN | apply below_drew1) | exact HB.out)⟩
      ·replace c7 := Bool.eq_false_iff.mpr c7
       subst c7
       have H1 : (impl_Wire_102.l0 k1 l0 (l0.length : Int) (wrap64 (x8_1 + 1))) = some r := by rw [if_neg (show ¬ (false = true) by decide)] at H; exact H
       clear H
       have H := H1
       clear H1
       have H' := Aside0.mk H
       clear H
       have p243 : 0 ≤ (x8_1 : Int) := of_decide_eq_true (by first | (with_reducible assumption) | assumption)
       have q243 : x8_1 < (l0.length : Int) := of_decide_eq_true (by first | (with_reducible assumption) | assumption)
       obtain ⟨ad243, e243, hx243_0, hx243_1, hx243_2⟩ := at_T55 HR0.out x8_1 p243 q243
       cases e243
       replace hx243_0 := (HB.out.cell (World.block_lt_of_cell? w _ hx243_0)).trans hx243_0
       replace hx243_1 := (HB.out.cell (World.block_lt_of_cell? w _ hx243_1)).trans hx243_1
       replace hx243_2 := (HB.out.cell (World.block_lt_of_cell? w _ hx243_2)).trans hx243_2
       replace p243 := eq_true p243
       replace q243 := eq_true q243
       go_wp2_with (first | ((with_reducible refine gate_dst (N := 16) rfl ?_); refine goesV_ (some 16) rfl rfl HCF.out.hf HCF.out.hname HCF.out.hb #[.agg #[.int .i64 ((rd_T55 l0 x8_1).f0), .int .i64 ((rd_T55 l0 x8_1).f1), .int .i64 ((rd_T55 l0 x8_1).f2)]] rfl rfl (by (try simp only [List.map_toArray, List.map_cons, List.map_nil]); first | done | rfl | (simp only [List.length_drop, List.length_take]; rfl)) ?_; (refine (HCL.out ((rd_T55 l0 x8_1).f0) ((rd_T55 l0 x8_1).f1) ((rd_T55 l0 x8_1).f2) false _ A6.out (by repeat (first | (with_reducible first | exact HB.out | apply below_alloc | apply pw_below_drewN | apply below_drew1) | exact HB.out | exact Below.refl _ _))).mono ?_); rintro e w9 ⟨rfl, hb⟩; refine ⟨_, rfl, ?_⟩; have n0_ := Aside0.mk (below_step (by repeat (first | (with_reducible first | exact HB.out | apply below_alloc | apply pw_below_drewN | apply below_drew1) | exact HB.out)) hb); clear HB; have HB := n0_; clear n0_; (try clear hb); (try clear hb2); (try clear hk); (try clear hi)))
       go_roundg k1
       case measure => have := HK1.out; omega
       case rel => exact ⟨(wrap64 (x8_1 + 1)), (by first | rfl | (simp; done) | (simp [*]; done)), H', ⟨by have := HK1.out; omega⟩, ⟨by repeat (first | (with_reducible first | exact HB.out | apply below_alloc | apply pw_below_drewN | apply below_drew1) | exact HB.out)⟩⟩
     ·rw [if_neg c5] at H
      exact absurd H (by simp)
    ·rw [if_neg c4] at H
     exact absurd H (by simp)
   ·rw [if_neg c3] at H
    have c3b0 : decide (x8_1 < (l0.length : Int)) = false := decide_eq_false c3
    clear c3
    obtain rfl := Option.some.inj H
    go_wp2
    go_ret
    exact ⟨by first | rfl | (simp [errW_none, errW_some] <;> rfl) | (simp [*, errW_none, errW_some] <;> rfl), by repeat (first | (with_reducible first | exact HB.out | apply below_alloc | apply pw_below_drewN | apply below_drew1) | exact HB.out)⟩
end
end Go.Proofs.Ytojpibpjieanhaa.X
end
section
namespace Go.Proofs.Ytojpibpjieanhaa.X
open Go.RowKit Go.Proofs.YtojpibpjieanhaaW.PrintWords Go.Proofs.YtojpibpjieanhaaW.PrintLast Go.Proofs.YtojpibpjieanhaaW.PrintMore
set_option linter.unusedVariables false
set_option linter.unusedSimpArgs false
set_option maxHeartbeats 4000000 in
set_option maxRecDepth 100000 in
theorem has76 [C_slices_IndexFunc_int64_int64] (k : Nat) (A : Option Addr) (c : Nat) (l : List Int) (r : Int) (cf : Nat) (cfn : Func) (caps : Array Value) (hcf : CloIs Try.prog cf cfn) (w : World)
    (hcl : ∀ x r W, C_slices_IndexFunc_int64_int64.f x = some r → Below w.heap.size w W → Calls Try.prog cf (#[.int .i64 x] ++ caps) W fun e w' => e = .returned (.bool r) ∧ Drawn0 W w')
    (hr : Kd.C (Kd.int .i64) w A l.length l) (hc : l.length ≤ c) (h : slices_IndexFunc_int64_int64.f k l 0 = some r) :
    Calls Try.prog 76 #[.slice A l.length c, .func (.func cf) #[] caps] w fun e w' => e = .returned (.bool (decide (r ≥ 0))) ∧ Drawn0 w w' := by
  have H := Aside0.mk h
  have HR := Aside0.mk hr
  have HC := Aside0.mk hc
  have HF := Aside0.mk hcf
  have HL := Aside0.mk hcl
  clear h hr hc hcf hcl
  have HD := Aside0.mk (Drawn0.refl w)
  go_enter Try.func76, Try.ntmps76
  go_wp2_with (first
    | (go_at_call 99; refine (slices_IndexFunc_int64_int64.calls k A c l 0 r cf cfn caps HF.out _ HL.out HR.out HC.out H.out).mono ?_; rintro e wn ⟨rfl, hb⟩; have n0_ := Aside0.mk (drawn_trans HD.out hb); clear HD hb; have HD := n0_; clear n0_))
  go_ret
  exact ⟨rfl, HD.out⟩
set_option maxHeartbeats 4000000 in
set_option maxRecDepth 100000 in
theorem has83 [C_impl_Wire_102] (k : Nat) (A : Option Addr) (c : Nat) (l : List S55) (r : Int) (cf : Nat) (cfn : Func) (caps : Array Value) (hcf : CloIs Try.prog cf cfn) (w : World)
    (hcl : ∀ x0 x1 x2 r W, C_impl_Wire_102.f x0 x1 x2 = some r → Below w.heap.size w W → Calls Try.prog cf (#[.agg #[.int .i64 x0, .int .i64 x1, .int .i64 x2]] ++ caps) W fun e w' => e = .returned (.bool r) ∧ Below W.heap.size W w')
    (hr : Kd.C k55 w A l.length l) (hc : l.length ≤ c) (h : impl_Wire_102.f k l 0 = some r) :
    Calls Try.prog 83 #[.slice A l.length c, .func (.func cf) #[] caps] w fun e w' => e = .returned (.bool (decide (r ≥ 0))) ∧ Below w.heap.size w w' := by
  have H := Aside0.mk h
  have HR := Aside0.mk hr
  have HC := Aside0.mk hc
  have HF := Aside0.mk hcf
  have HL := Aside0.mk hcl
  clear h hr hc hcf hcl
  have HB := Aside0.mk (Below.refl w.heap.size w)
  go_enter Try.func83, Try.ntmps83
  go_wp2_with (first
    | (go_at_call 102; refine (impl_Wire_102.calls k A c l 0 r cf cfn caps HF.out _ HL.out HR.out HC.out H.out).mono ?_; rintro e wn ⟨rfl, hb⟩; have n0_ := Aside0.mk (below_step HB.out hb); clear HB hb; have HB := n0_; clear n0_))
  go_ret
  exact ⟨rfl, HB.out⟩
abbrev isDelC : C_slices_IndexFunc_int64_int64 := ⟨fun x => (impl_isDelay.f x).bind fun b => some (!b)⟩
set_option maxHeartbeats 4000000 in
set_option maxRecDepth 100000 in
theorem IsDelClo (x : Int) (b : Bool) (w : World) (h : impl_isDelay.f x = some b) : Calls Try.prog 81 #[.int .i64 x] w fun e w' => e = .returned (.bool !b) ∧ Drawn0 w w' := by
  have H := Aside0.mk h
  clear h
  have HD := Aside0.mk (Drawn0.refl w)
  go_enter Try.func81, Try.ntmps81
  go_wp2_with (first
    | (go_at_call 82; (with_reducible refine (impl_isDelay.calls x b _ H.out).mono ?_); rintro e wn ⟨rfl, hb⟩; have n0_ := Aside0.mk (drawn_trans HD.out hb); clear HD hb; have HD := n0_; clear n0_))
  go_ret
  exact ⟨rfl, HD.out⟩
theorem IsDelCl (w : World) : ∀ x r W, isDelC.f x = some r → Below w.heap.size w W → Calls Try.prog 81 (#[.int .i64 x] ++ #[]) W fun e w' => e = .returned (.bool r) ∧ Drawn0 W w' := by
  intro x r W hx hW
  obtain ⟨b, hb, hx⟩ := Option.bind_eq_some_iff.mp hx
  obtain rfl := Option.some.inj hx
  exact IsDelClo x b W hb
def badWire (n f t c : Int) : Bool := !(decide (0 ≤ f) && decide (f ≤ n - 1)) || (!(decide (0 ≤ t) && decide (t ≤ n - 1)) || !(decide (0 ≤ c) && decide (c ≤ 20)))
abbrev wireC (n : Int) : C_impl_Wire_102 := ⟨fun f t c => some (badWire n f t c)⟩
theorem within_w (a b c : Int) : impl_within.f a b c = some (decide (b ≤ a) && decide (a ≤ c)) := by
  unfold impl_within.f; by_cases h : a ≥ b <;> simp [h] <;> omega
set_option maxHeartbeats 4000000 in
set_option maxRecDepth 100000 in
theorem WireClo_1 (x0 x1 x2 n : Int) (g1 : Nat) (n0 : 1 ≤ n) (n8 : n ≤ 8) (w : World) (b1 : w.heap[g1]? = some (.cells #[.int .i64 n] 2 (0, 0))) (h1 : impl_within.f x0 0 (n - 1) = some false) :
    Calls Try.prog 84 #[.agg #[.int .i64 x0, .int .i64 x1, .int .i64 x2], .pointer (some ⟨g1, 0, none⟩)] w fun e w' => e = .returned (.bool true) ∧ Below w.heap.size w w' := by
  have Hb1 := Aside0.mk b1
  have Hh1 := Aside0.mk h1
  clear b1 h1
  have HB := Aside0.mk (Below.refl w.heap.size w)
  have BK1 := Hb1
  have e1 : IntKind.i64.wrap (n - 1) = n - 1 := IntWalk.i64_in _ ⟨by omega, by omega⟩
  go_enter Try.func84, Try.ntmps84
  go_wp2_with (first
    | ((with_reducible refine gate_dst (N := 2) rfl ?_); refine box_event ?hg (N := 2) ?hd (cs := #[.int .i64 x0, .int .i64 x1, .int .i64 x2]) (t := 55) ?hr ?_; (case hd => rfl); (case hg => rfl); (case hr => first | (go_simp; done) | (go_simp; rfl)); intro g2 hg wn hbox hb; have GE2 := Aside0.mk (by rw [hg]; exact below_size HB.out : w.heap.size ≤ g2); have hbx := hb; clear hg; have BK20 := Aside0.mk hbox; clear hbox; have n0_ := Aside0.mk (below_step HB.out hb); clear HB  hb; have HB := n0_; clear n0_ ; have BK2 := BK20; clear BK20; have c2_0 : wn.cell? ⟨g2, 0, none⟩ = some (.int .i64 x0) := (blk_cell BK2.out 0).trans rfl; have c2_1 : wn.cell? ⟨g2, 1, none⟩ = some (.int .i64 x1) := (blk_cell BK2.out 1).trans rfl; have c2_2 : wn.cell? ⟨g2, 2, none⟩ = some (.int .i64 x2) := (blk_cell BK2.out 2).trans rfl; have n1_ := Aside0.mk (blk_below BK1.out hbx); clear hbx BK1; have BK1 := n1_; clear n1_; have c1_0 : wn.cell? ⟨g1, 0, none⟩ = some (.int .i64 n) := (blk_cell BK1.out 0).trans rfl)
    | (go_at_call 47; (with_reducible refine (impl_within.calls x0 0 (n - 1) false _ Hh1.out).mono ?_); rintro e wn ⟨rfl, hb0⟩; have hb := to_below_d hb0; have n1_ := Aside0.mk (blk_below BK1.out (hb0.below)); clear hb0; have n0_ := Aside0.mk (below_step HB.out hb); have m2_ := Aside0.mk (blk_below BK2.out hb); clear HB BK2 hb; have HB := n0_; have BK2 := m2_; clear n0_ m2_; have c2_0 : wn.cell? ⟨g2, 0, none⟩ = some (.int .i64 x0) := (blk_cell BK2.out 0).trans rfl; have c2_1 : wn.cell? ⟨g2, 1, none⟩ = some (.int .i64 x1) := (blk_cell BK2.out 1).trans rfl; have c2_2 : wn.cell? ⟨g2, 2, none⟩ = some (.int .i64 x2) := (blk_cell BK2.out 2).trans rfl; clear BK1; have BK1 := n1_; clear n1_; have c1_0 : wn.cell? ⟨g1, 0, none⟩ = some (.int .i64 n) := (blk_cell BK1.out 0).trans rfl))
  go_ret
  exact ⟨rfl, HB.out⟩
set_option maxHeartbeats 4000000 in
set_option maxRecDepth 100000 in
theorem WireClo_2 (x0 x1 x2 n : Int) (g1 : Nat) (n0 : 1 ≤ n) (n8 : n ≤ 8) (w : World) (b1 : w.heap[g1]? = some (.cells #[.int .i64 n] 2 (0, 0))) (h1 : impl_within.f x0 0 (n - 1) = some true) (h2 : impl_within.f x1 0 (n - 1) = some false) :
    Calls Try.prog 84 #[.agg #[.int .i64 x0, .int .i64 x1, .int .i64 x2], .pointer (some ⟨g1, 0, none⟩)] w fun e w' => e = .returned (.bool true) ∧ Below w.heap.size w w' := by
  have Hb1 := Aside0.mk b1
  have Hh1 := Aside0.mk h1
  have Hh2 := Aside0.mk h2
  clear b1 h1 h2
  have HB := Aside0.mk (Below.refl w.heap.size w)
  have BK1 := Hb1
  have e1 : IntKind.i64.wrap (n - 1) = n - 1 := IntWalk.i64_in _ ⟨by omega, by omega⟩
  go_enter Try.func84, Try.ntmps84
  go_wp2_with (first
    | ((with_reducible refine gate_dst (N := 2) rfl ?_); refine box_event ?hg (N := 2) ?hd (cs := #[.int .i64 x0, .int .i64 x1, .int .i64 x2]) (t := 55) ?hr ?_; (case hd => rfl); (case hg => rfl); (case hr => first | (go_simp; done) | (go_simp; rfl)); intro g2 hg wn hbox hb; have GE2 := Aside0.mk (by rw [hg]; exact below_size HB.out : w.heap.size ≤ g2); have hbx := hb; clear hg; have BK20 := Aside0.mk hbox; clear hbox; have n0_ := Aside0.mk (below_step HB.out hb); clear HB  hb; have HB := n0_; clear n0_ ; have BK2 := BK20; clear BK20; have c2_0 : wn.cell? ⟨g2, 0, none⟩ = some (.int .i64 x0) := (blk_cell BK2.out 0).trans rfl; have c2_1 : wn.cell? ⟨g2, 1, none⟩ = some (.int .i64 x1) := (blk_cell BK2.out 1).trans rfl; have c2_2 : wn.cell? ⟨g2, 2, none⟩ = some (.int .i64 x2) := (blk_cell BK2.out 2).trans rfl; have n1_ := Aside0.mk (blk_below BK1.out hbx); clear hbx BK1; have BK1 := n1_; clear n1_; have c1_0 : wn.cell? ⟨g1, 0, none⟩ = some (.int .i64 n) := (blk_cell BK1.out 0).trans rfl)
    | (go_at_call 47; (with_reducible refine (impl_within.calls x0 0 (n - 1) true _ Hh1.out).mono ?_); rintro e wn ⟨rfl, hb0⟩; have hb := to_below_d hb0; have n1_ := Aside0.mk (blk_below BK1.out (hb0.below)); clear hb0; have n0_ := Aside0.mk (below_step HB.out hb); have m2_ := Aside0.mk (blk_below BK2.out hb); clear HB BK2 hb; have HB := n0_; have BK2 := m2_; clear n0_ m2_; have c2_0 : wn.cell? ⟨g2, 0, none⟩ = some (.int .i64 x0) := (blk_cell BK2.out 0).trans rfl; have c2_1 : wn.cell? ⟨g2, 1, none⟩ = some (.int .i64 x1) := (blk_cell BK2.out 1).trans rfl; have c2_2 : wn.cell? ⟨g2, 2, none⟩ = some (.int .i64 x2) := (blk_cell BK2.out 2).trans rfl; clear BK1; have BK1 := n1_; clear n1_; have c1_0 : wn.cell? ⟨g1, 0, none⟩ = some (.int .i64 n) := (blk_cell BK1.out 0).trans rfl)
    | (go_at_call 47; (with_reducible refine (impl_within.calls x1 0 (n - 1) false _ Hh2.out).mono ?_); rintro e wn ⟨rfl, hb0⟩; have hb := to_below_d hb0; have n1_ := Aside0.mk (blk_below BK1.out (hb0.below)); clear hb0; have n0_ := Aside0.mk (below_step HB.out hb); have m2_ := Aside0.mk (blk_below BK2.out hb); clear HB BK2 hb; have HB := n0_; have BK2 := m2_; clear n0_ m2_; have c2_0 : wn.cell? ⟨g2, 0, none⟩ = some (.int .i64 x0) := (blk_cell BK2.out 0).trans rfl; have c2_1 : wn.cell? ⟨g2, 1, none⟩ = some (.int .i64 x1) := (blk_cell BK2.out 1).trans rfl; have c2_2 : wn.cell? ⟨g2, 2, none⟩ = some (.int .i64 x2) := (blk_cell BK2.out 2).trans rfl; clear BK1; have BK1 := n1_; clear n1_; have c1_0 : wn.cell? ⟨g1, 0, none⟩ = some (.int .i64 n) := (blk_cell BK1.out 0).trans rfl))
  go_ret
  exact ⟨rfl, HB.out⟩
set_option maxHeartbeats 4000000 in
set_option maxRecDepth 100000 in
theorem WireClo_3 (x0 x1 x2 n : Int) (g1 : Nat) (n0 : 1 ≤ n) (n8 : n ≤ 8) (b : Bool) (w : World) (b1 : w.heap[g1]? = some (.cells #[.int .i64 n] 2 (0, 0))) (h1 : impl_within.f x0 0 (n - 1) = some true) (h2 : impl_within.f x1 0 (n - 1) = some true) (h3 : impl_within.f x2 0 20 = some b) :
    Calls Try.prog 84 #[.agg #[.int .i64 x0, .int .i64 x1, .int .i64 x2], .pointer (some ⟨g1, 0, none⟩)] w fun e w' => e = .returned (.bool (!b)) ∧ Below w.heap.size w w' := by
  have Hb1 := Aside0.mk b1
  have Hh1 := Aside0.mk h1
  have Hh2 := Aside0.mk h2
  have Hh3 := Aside0.mk h3
  clear b1 h1 h2 h3
  have HB := Aside0.mk (Below.refl w.heap.size w)
  have BK1 := Hb1
  have e1 : IntKind.i64.wrap (n - 1) = n - 1 := IntWalk.i64_in _ ⟨by omega, by omega⟩
  go_enter Try.func84, Try.ntmps84
  go_wp2_with (first
    | ((with_reducible refine gate_dst (N := 2) rfl ?_); refine box_event ?hg (N := 2) ?hd (cs := #[.int .i64 x0, .int .i64 x1, .int .i64 x2]) (t := 55) ?hr ?_; (case hd => rfl); (case hg => rfl); (case hr => first | (go_simp; done) | (go_simp; rfl)); intro g2 hg wn hbox hb; have GE2 := Aside0.mk (by rw [hg]; exact below_size HB.out : w.heap.size ≤ g2); have hbx := hb; clear hg; have BK20 := Aside0.mk hbox; clear hbox; have n0_ := Aside0.mk (below_step HB.out hb); clear HB  hb; have HB := n0_; clear n0_ ; have BK2 := BK20; clear BK20; have c2_0 : wn.cell? ⟨g2, 0, none⟩ = some (.int .i64 x0) := (blk_cell BK2.out 0).trans rfl; have c2_1 : wn.cell? ⟨g2, 1, none⟩ = some (.int .i64 x1) := (blk_cell BK2.out 1).trans rfl; have c2_2 : wn.cell? ⟨g2, 2, none⟩ = some (.int .i64 x2) := (blk_cell BK2.out 2).trans rfl; have n1_ := Aside0.mk (blk_below BK1.out hbx); clear hbx BK1; have BK1 := n1_; clear n1_; have c1_0 : wn.cell? ⟨g1, 0, none⟩ = some (.int .i64 n) := (blk_cell BK1.out 0).trans rfl)
    | (go_at_call 47; (with_reducible refine (impl_within.calls x0 0 (n - 1) true _ Hh1.out).mono ?_); rintro e wn ⟨rfl, hb0⟩; have hb := to_below_d hb0; have n1_ := Aside0.mk (blk_below BK1.out (hb0.below)); clear hb0; have n0_ := Aside0.mk (below_step HB.out hb); have m2_ := Aside0.mk (blk_below BK2.out hb); clear HB BK2 hb; have HB := n0_; have BK2 := m2_; clear n0_ m2_; have c2_0 : wn.cell? ⟨g2, 0, none⟩ = some (.int .i64 x0) := (blk_cell BK2.out 0).trans rfl; have c2_1 : wn.cell? ⟨g2, 1, none⟩ = some (.int .i64 x1) := (blk_cell BK2.out 1).trans rfl; have c2_2 : wn.cell? ⟨g2, 2, none⟩ = some (.int .i64 x2) := (blk_cell BK2.out 2).trans rfl; clear BK1; have BK1 := n1_; clear n1_; have c1_0 : wn.cell? ⟨g1, 0, none⟩ = some (.int .i64 n) := (blk_cell BK1.out 0).trans rfl)
    | (go_at_call 47; (with_reducible refine (impl_within.calls x1 0 (n - 1) true _ Hh2.out).mono ?_); rintro e wn ⟨rfl, hb0⟩; have hb := to_below_d hb0; have n1_ := Aside0.mk (blk_below BK1.out (hb0.below)); clear hb0; have n0_ := Aside0.mk (below_step HB.out hb); have m2_ := Aside0.mk (blk_below BK2.out hb); clear HB BK2 hb; have HB := n0_; have BK2 := m2_; clear n0_ m2_; have c2_0 : wn.cell? ⟨g2, 0, none⟩ = some (.int .i64 x0) := (blk_cell BK2.out 0).trans rfl; have c2_1 : wn.cell? ⟨g2, 1, none⟩ = some (.int .i64 x1) := (blk_cell BK2.out 1).trans rfl; have c2_2 : wn.cell? ⟨g2, 2, none⟩ = some (.int .i64 x2) := (blk_cell BK2.out 2).trans rfl; clear BK1; have BK1 := n1_; clear n1_; have c1_0 : wn.cell? ⟨g1, 0, none⟩ = some (.int .i64 n) := (blk_cell BK1.out 0).trans rfl)
    | (go_at_call 47; (with_reducible refine (impl_within.calls x2 0 20 b _ Hh3.out).mono ?_); rintro e wn ⟨rfl, hb0⟩; have hb := to_below_d hb0; have n1_ := Aside0.mk (blk_below BK1.out (hb0.below)); clear hb0; have n0_ := Aside0.mk (below_step HB.out hb); have m2_ := Aside0.mk (blk_below BK2.out hb); clear HB BK2 hb; have HB := n0_; have BK2 := m2_; clear n0_ m2_; have c2_0 : wn.cell? ⟨g2, 0, none⟩ = some (.int .i64 x0) := (blk_cell BK2.out 0).trans rfl; have c2_1 : wn.cell? ⟨g2, 1, none⟩ = some (.int .i64 x1) := (blk_cell BK2.out 1).trans rfl; have c2_2 : wn.cell? ⟨g2, 2, none⟩ = some (.int .i64 x2) := (blk_cell BK2.out 2).trans rfl; clear BK1; have BK1 := n1_; clear n1_; have c1_0 : wn.cell? ⟨g1, 0, none⟩ = some (.int .i64 n) := (blk_cell BK1.out 0).trans rfl))
  go_ret
  exact ⟨rfl, HB.out⟩
theorem WireCl (n : Int) (g1 : Nat) (w : World) (n0 : 1 ≤ n) (n8 : n ≤ 8) (h1 : w.heap[g1]? = some (.cells #[.int .i64 n] 2 (0, 0))) :
    ∀ x0 x1 x2 r W, (wireC n).f x0 x1 x2 = some r → Below w.heap.size w W → Calls Try.prog 84 (#[.agg #[.int .i64 x0, .int .i64 x1, .int .i64 x2]] ++ #[.pointer (some ⟨g1, 0, none⟩)]) W fun e w' => e = .returned (.bool r) ∧ Below W.heap.size W w' := by
  intro x0 x1 x2 r W hx hW
  obtain rfl := Option.some.inj hx
  have hg := blk_below h1 hW
  unfold badWire
  cases q1 : (decide (0 ≤ x0) && decide (x0 ≤ n - 1)) with
  | false => exact WireClo_1 x0 x1 x2 n g1 n0 n8 W hg (by rw [within_w, q1])
  | true =>
    cases q2 : (decide (0 ≤ x1) && decide (x1 ≤ n - 1)) with
    | false => exact WireClo_2 x0 x1 x2 n g1 n0 n8 W hg (by rw [within_w, q1]) (by rw [within_w, q2])
    | true => exact WireClo_3 x0 x1 x2 n g1 n0 n8 _ W hg (by rw [within_w, q1]) (by rw [within_w, q2]) (within_w _ _ _)
set_option maxHeartbeats 4000000 in
set_option maxRecDepth 100000 in
theorem isFlow_1 (k : Nat) (A0 : Option Addr) (c0 : Nat) (l0 : List Int) (A1 : Option Addr) (c1 : Nat) (l1 : List S55) (w : World) (h1 : impl_within.f (l0.length : Int) 1 8 = some false) :
    Calls Try.prog 53 #[.agg #[.slice A0 l0.length c0, .slice A1 l1.length c1]] w fun e w' => e = .returned (.bool false) ∧ Below w.heap.size w w' := by
  have Hh1 := Aside0.mk h1
  clear h1
  have HB := Aside0.mk (Below.refl w.heap.size w)
  go_enter Try.func53, Try.ntmps53
  go_wp2_with (first
    | ((with_reducible refine gate_dst (N := 1) rfl ?_); refine box_event ?hg (N := 1) ?hd (cs := #[.slice A0 l0.length c0, .slice A1 l1.length c1]) (t := 36) ?hr ?_; (case hd => rfl); (case hg => rfl); (case hr => first | (go_simp; done) | (go_simp; rfl)); intro g1 hg wn hbox hb; have GE1 := Aside0.mk (by rw [hg]; exact below_size HB.out : w.heap.size ≤ g1); clear hg; have BK10 := Aside0.mk hbox; clear hbox; have n0_ := Aside0.mk (below_step HB.out hb); clear HB  hb; have HB := n0_; clear n0_ ; have BK1 := BK10; clear BK10; have c1_0 : wn.cell? ⟨g1, 0, none⟩ = some (.slice A0 l0.length c0) := (blk_cell BK1.out 0).trans rfl; have c1_1 : wn.cell? ⟨g1, 1, none⟩ = some (.slice A1 l1.length c1) := (blk_cell BK1.out 1).trans rfl)
    | ((with_reducible refine gate_dst (N := 3) rfl ?_); refine box_event ?hg (N := 3) ?hd (cs := #[.int .i64 0]) (t := 2) ?hr ?_; (case hd => rfl); (case hg => rfl); (case hr => first | (go_simp; done) | (go_simp; rfl)); intro g3 hg wn hbox hb; have GE3 := Aside0.mk (by rw [hg]; exact below_size HB.out : w.heap.size ≤ g3); have NE1_3 := Aside0.mk (show g1 ≠ g3 by have := blk_lt BK1.out; omega); clear hg; have BK30 := Aside0.mk hbox; clear hbox; have n0_ := Aside0.mk (below_step HB.out hb); have m1_ := Aside0.mk (blk_below BK1.out hb); clear HB BK1 hb; have HB := n0_; have BK1 := m1_; clear n0_ m1_; have c1_0 : wn.cell? ⟨g1, 0, none⟩ = some (.slice A0 l0.length c0) := (blk_cell BK1.out 0).trans rfl; have c1_1 : wn.cell? ⟨g1, 1, none⟩ = some (.slice A1 l1.length c1) := (blk_cell BK1.out 1).trans rfl; have BK3 := BK30; clear BK30; have c3_0 : wn.cell? ⟨g3, 0, none⟩ = some (.int .i64 0) := (blk_cell BK3.out 0).trans rfl; have z3_0 := blk_frozen BK3.out 0; have c1s0 : ∀ v, (wn.setCell ⟨g3, 0, none⟩ v).cell? ⟨g1, 0, none⟩ = some (.slice A0 l0.length c0) := fun v => (blk_cell (blk_far BK1.out (p := ⟨g3, 0, none⟩) NE1_3.out v) 0).trans rfl; have c1s1 : ∀ v, (wn.setCell ⟨g3, 0, none⟩ v).cell? ⟨g1, 1, none⟩ = some (.slice A1 l1.length c1) := fun v => (blk_cell (blk_far BK1.out (p := ⟨g3, 0, none⟩) NE1_3.out v) 1).trans rfl)
    | (go_at_call 47; have m1_ := Aside0.mk (blk_far BK1.out (p := ⟨g3, 0, none⟩) NE1_3.out (.int .i64 (l0.length : Int))); have m3_ := Aside0.mk (blk_put BK3.out 0 (.int .i64 (l0.length : Int)) (cs' := #[.int .i64 (l0.length : Int)]) rfl); have n0_ := Aside0.mk (below_set (j := 0) (v := .int .i64 (l0.length : Int)) HB.out GE3.out); clear HB BK1 BK3; have HB := n0_; have BK1 := m1_; have BK3 := m3_; clear n0_ m1_ m3_; (with_reducible refine (impl_within.calls (l0.length : Int) 1 8 false _ Hh1.out).mono ?_); rintro e wn ⟨rfl, hb0⟩; (first | have hb := to_below_d hb0 | have hb := to_below_b hb0); clear hb0; have n0_ := Aside0.mk (below_step HB.out hb); have m1_ := Aside0.mk (blk_below BK1.out hb); have m3_ := Aside0.mk (blk_below BK3.out hb); clear HB BK1 BK3 hb; have HB := n0_; have BK1 := m1_; have BK3 := m3_; clear n0_ m1_ m3_; have c1_0 : wn.cell? ⟨g1, 0, none⟩ = some (.slice A0 l0.length c0) := (blk_cell BK1.out 0).trans rfl; have c1_1 : wn.cell? ⟨g1, 1, none⟩ = some (.slice A1 l1.length c1) := (blk_cell BK1.out 1).trans rfl; have c3_0 : wn.cell? ⟨g3, 0, none⟩ = some (.int .i64 (l0.length : Int)) := (blk_cell BK3.out 0).trans rfl))
  go_ret
  exact ⟨rfl, HB.out⟩
set_option maxHeartbeats 4000000 in
set_option maxRecDepth 100000 in
theorem isFlow_2 (k : Nat) (A0 : Option Addr) (c0 : Nat) (l0 : List Int) (A1 : Option Addr) (c1 : Nat) (l1 : List S55)(f1 : decide (16 < l1.length) = true) (f2 : decide ((16 : Int) < (l1.length : Int)) = true) (w : World) (h1 : impl_within.f (l0.length : Int) 1 8 = some true) :
    Calls Try.prog 53 #[.agg #[.slice A0 l0.length c0, .slice A1 l1.length c1]] w fun e w' => e = .returned (.bool false) ∧ Below w.heap.size w w' := by
  have Hh1 := Aside0.mk h1
  clear h1
  have HB := Aside0.mk (Below.refl w.heap.size w)
  go_enter Try.func53, Try.ntmps53
  go_wp2_with (first
    | ((with_reducible refine gate_dst (N := 1) rfl ?_); refine box_event ?hg (N := 1) ?hd (cs := #[.slice A0 l0.length c0, .slice A1 l1.length c1]) (t := 36) ?hr ?_; (case hd => rfl); (case hg => rfl); (case hr => first | (go_simp; done) | (go_simp; rfl)); intro g1 hg wn hbox hb; have GE1 := Aside0.mk (by rw [hg]; exact below_size HB.out : w.heap.size ≤ g1); clear hg; have BK10 := Aside0.mk hbox; clear hbox; have n0_ := Aside0.mk (below_step HB.out hb); clear HB  hb; have HB := n0_; clear n0_ ; have BK1 := BK10; clear BK10; have c1_0 : wn.cell? ⟨g1, 0, none⟩ = some (.slice A0 l0.length c0) := (blk_cell BK1.out 0).trans rfl; have c1_1 : wn.cell? ⟨g1, 1, none⟩ = some (.slice A1 l1.length c1) := (blk_cell BK1.out 1).trans rfl)
    | ((with_reducible refine gate_dst (N := 3) rfl ?_); refine box_event ?hg (N := 3) ?hd (cs := #[.int .i64 0]) (t := 2) ?hr ?_; (case hd => rfl); (case hg => rfl); (case hr => first | (go_simp; done) | (go_simp; rfl)); intro g3 hg wn hbox hb; have GE3 := Aside0.mk (by rw [hg]; exact below_size HB.out : w.heap.size ≤ g3); have NE1_3 := Aside0.mk (show g1 ≠ g3 by have := blk_lt BK1.out; omega); clear hg; have BK30 := Aside0.mk hbox; clear hbox; have n0_ := Aside0.mk (below_step HB.out hb); have m1_ := Aside0.mk (blk_below BK1.out hb); clear HB BK1 hb; have HB := n0_; have BK1 := m1_; clear n0_ m1_; have c1_0 : wn.cell? ⟨g1, 0, none⟩ = some (.slice A0 l0.length c0) := (blk_cell BK1.out 0).trans rfl; have c1_1 : wn.cell? ⟨g1, 1, none⟩ = some (.slice A1 l1.length c1) := (blk_cell BK1.out 1).trans rfl; have BK3 := BK30; clear BK30; have c3_0 : wn.cell? ⟨g3, 0, none⟩ = some (.int .i64 0) := (blk_cell BK3.out 0).trans rfl; have z3_0 := blk_frozen BK3.out 0; have c1s0 : ∀ v, (wn.setCell ⟨g3, 0, none⟩ v).cell? ⟨g1, 0, none⟩ = some (.slice A0 l0.length c0) := fun v => (blk_cell (blk_far BK1.out (p := ⟨g3, 0, none⟩) NE1_3.out v) 0).trans rfl; have c1s1 : ∀ v, (wn.setCell ⟨g3, 0, none⟩ v).cell? ⟨g1, 1, none⟩ = some (.slice A1 l1.length c1) := fun v => (blk_cell (blk_far BK1.out (p := ⟨g3, 0, none⟩) NE1_3.out v) 1).trans rfl)
    | (go_at_call 47; have m1_ := Aside0.mk (blk_far BK1.out (p := ⟨g3, 0, none⟩) NE1_3.out (.int .i64 (l0.length : Int))); have m3_ := Aside0.mk (blk_put BK3.out 0 (.int .i64 (l0.length : Int)) (cs' := #[.int .i64 (l0.length : Int)]) rfl); have n0_ := Aside0.mk (below_set (j := 0) (v := .int .i64 (l0.length : Int)) HB.out GE3.out); clear HB BK1 BK3; have HB := n0_; have BK1 := m1_; have BK3 := m3_; clear n0_ m1_ m3_; (with_reducible refine (impl_within.calls (l0.length : Int) 1 8 true _ Hh1.out).mono ?_); rintro e wn ⟨rfl, hb0⟩; (first | have hb := to_below_d hb0 | have hb := to_below_b hb0); clear hb0; have n0_ := Aside0.mk (below_step HB.out hb); have m1_ := Aside0.mk (blk_below BK1.out hb); have m3_ := Aside0.mk (blk_below BK3.out hb); clear HB BK1 BK3 hb; have HB := n0_; have BK1 := m1_; have BK3 := m3_; clear n0_ m1_ m3_; have c1_0 : wn.cell? ⟨g1, 0, none⟩ = some (.slice A0 l0.length c0) := (blk_cell BK1.out 0).trans rfl; have c1_1 : wn.cell? ⟨g1, 1, none⟩ = some (.slice A1 l1.length c1) := (blk_cell BK1.out 1).trans rfl; have c3_0 : wn.cell? ⟨g3, 0, none⟩ = some (.int .i64 (l0.length : Int)) := (blk_cell BK3.out 0).trans rfl))
  go_ret
  exact ⟨rfl, HB.out⟩
set_option maxHeartbeats 4000000 in
set_option maxRecDepth 100000 in
theorem isFlow_3 (k : Nat) (A0 : Option Addr) (c0 : Nat) (l0 : List Int) (A1 : Option Addr) (c1 : Nat) (l1 : List S55) (i : Int) (f1 : decide (16 < l1.length) = false) (f2 : decide ((16 : Int) < (l1.length : Int)) = false) (w : World) (hr0 : Kd.C (Kd.int .i64) w A0 l0.length l0) (hc0 : l0.length ≤ c0) (hr1 : Kd.C k55 w A1 l1.length l1) (hc1 : l1.length ≤ c1) (h1 : impl_within.f (l0.length : Int) 1 8 = some true) (hi : @slices_IndexFunc_int64_int64.f isDelC k l0 0 = some i) (hp : decide (i ≥ 0) = true) :
    Calls Try.prog 53 #[.agg #[.slice A0 l0.length c0, .slice A1 l1.length c1]] w fun e w' => e = .returned (.bool false) ∧ Below w.heap.size w w' := by
  have Hhr0 := Aside0.mk hr0
  have Hhc0 := Aside0.mk hc0
  have Hhr1 := Aside0.mk hr1
  have Hhc1 := Aside0.mk hc1
  have Hh1 := Aside0.mk h1
  have Hhi := Aside0.mk hi
  have Hhp := Aside0.mk hp
  clear hr0 hc0 hr1 hc1 h1 hi hp
  have HB := Aside0.mk (Below.refl w.heap.size w)
  have F3 := Hhp
  go_enter Try.func53, Try.ntmps53
  go_wp2_with (first
    | ((with_reducible refine gate_dst (N := 1) rfl ?_); refine box_event ?hg (N := 1) ?hd (cs := #[.slice A0 l0.length c0, .slice A1 l1.length c1]) (t := 36) ?hr ?_; (case hd => rfl); (case hg => rfl); (case hr => first | (go_simp; done) | (go_simp; rfl)); intro g1 hg wn hbox hb; have GE1 := Aside0.mk (by rw [hg]; exact below_size HB.out : w.heap.size ≤ g1); clear hg; have BK10 := Aside0.mk hbox; clear hbox; have n0_ := Aside0.mk (below_step HB.out hb); clear HB  hb; have HB := n0_; clear n0_ ; have BK1 := BK10; clear BK10; have c1_0 : wn.cell? ⟨g1, 0, none⟩ = some (.slice A0 l0.length c0) := (blk_cell BK1.out 0).trans rfl; have c1_1 : wn.cell? ⟨g1, 1, none⟩ = some (.slice A1 l1.length c1) := (blk_cell BK1.out 1).trans rfl)
    | ((with_reducible refine gate_dst (N := 3) rfl ?_); refine box_event ?hg (N := 3) ?hd (cs := #[.int .i64 0]) (t := 2) ?hr ?_; (case hd => rfl); (case hg => rfl); (case hr => first | (go_simp; done) | (go_simp; rfl)); intro g3 hg wn hbox hb; have GE3 := Aside0.mk (by rw [hg]; exact below_size HB.out : w.heap.size ≤ g3); have NE1_3 := Aside0.mk (show g1 ≠ g3 by have := blk_lt BK1.out; omega); clear hg; have BK30 := Aside0.mk hbox; clear hbox; have n0_ := Aside0.mk (below_step HB.out hb); have m1_ := Aside0.mk (blk_below BK1.out hb); clear HB BK1 hb; have HB := n0_; have BK1 := m1_; clear n0_ m1_; have c1_0 : wn.cell? ⟨g1, 0, none⟩ = some (.slice A0 l0.length c0) := (blk_cell BK1.out 0).trans rfl; have c1_1 : wn.cell? ⟨g1, 1, none⟩ = some (.slice A1 l1.length c1) := (blk_cell BK1.out 1).trans rfl; have BK3 := BK30; clear BK30; have c3_0 : wn.cell? ⟨g3, 0, none⟩ = some (.int .i64 0) := (blk_cell BK3.out 0).trans rfl; have z3_0 := blk_frozen BK3.out 0; have c1s0 : ∀ v, (wn.setCell ⟨g3, 0, none⟩ v).cell? ⟨g1, 0, none⟩ = some (.slice A0 l0.length c0) := fun v => (blk_cell (blk_far BK1.out (p := ⟨g3, 0, none⟩) NE1_3.out v) 0).trans rfl; have c1s1 : ∀ v, (wn.setCell ⟨g3, 0, none⟩ v).cell? ⟨g1, 1, none⟩ = some (.slice A1 l1.length c1) := fun v => (blk_cell (blk_far BK1.out (p := ⟨g3, 0, none⟩) NE1_3.out v) 1).trans rfl)
    | (go_at_call 47; have m1_ := Aside0.mk (blk_far BK1.out (p := ⟨g3, 0, none⟩) NE1_3.out (.int .i64 (l0.length : Int))); have m3_ := Aside0.mk (blk_put BK3.out 0 (.int .i64 (l0.length : Int)) (cs' := #[.int .i64 (l0.length : Int)]) rfl); have n0_ := Aside0.mk (below_set (j := 0) (v := .int .i64 (l0.length : Int)) HB.out GE3.out); clear HB BK1 BK3; have HB := n0_; have BK1 := m1_; have BK3 := m3_; clear n0_ m1_ m3_; (with_reducible refine (impl_within.calls (l0.length : Int) 1 8 true _ Hh1.out).mono ?_); rintro e wn ⟨rfl, hb0⟩; (first | have hb := to_below_d hb0 | have hb := to_below_b hb0); clear hb0; have n0_ := Aside0.mk (below_step HB.out hb); have m1_ := Aside0.mk (blk_below BK1.out hb); have m3_ := Aside0.mk (blk_below BK3.out hb); clear HB BK1 BK3 hb; have HB := n0_; have BK1 := m1_; have BK3 := m3_; clear n0_ m1_ m3_; have c1_0 : wn.cell? ⟨g1, 0, none⟩ = some (.slice A0 l0.length c0) := (blk_cell BK1.out 0).trans rfl; have c1_1 : wn.cell? ⟨g1, 1, none⟩ = some (.slice A1 l1.length c1) := (blk_cell BK1.out 1).trans rfl; have c3_0 : wn.cell? ⟨g3, 0, none⟩ = some (.int .i64 (l0.length : Int)) := (blk_cell BK3.out 0).trans rfl)
    | (go_at_call 76; refine (@has76 isDelC k A0 c0 l0 i 81 Try.f81 #[] ⟨Try.func81, rfl, by kernel_rfl⟩ _ (IsDelCl _) (Kd.C_below Hhr0.out HB.out) Hhc0.out Hhi.out).mono ?_; rintro e wn ⟨he, hb0⟩; rw [F3.out] at he; subst he; have hb := to_below_d hb0; clear hb0; have n0_ := Aside0.mk (below_step HB.out hb); have m1_ := Aside0.mk (blk_below BK1.out hb); have m3_ := Aside0.mk (blk_below BK3.out hb); clear HB BK1 BK3 hb; have HB := n0_; have BK1 := m1_; have BK3 := m3_; clear n0_ m1_ m3_; have c1_0 : wn.cell? ⟨g1, 0, none⟩ = some (.slice A0 l0.length c0) := (blk_cell BK1.out 0).trans rfl; have c1_1 : wn.cell? ⟨g1, 1, none⟩ = some (.slice A1 l1.length c1) := (blk_cell BK1.out 1).trans rfl; have c3_0 : wn.cell? ⟨g3, 0, none⟩ = some (.int .i64 (l0.length : Int)) := (blk_cell BK3.out 0).trans rfl))
  go_ret
  exact ⟨rfl, HB.out⟩
set_option maxHeartbeats 4000000 in
set_option maxRecDepth 100000 in
theorem isFlow_4 (k : Nat) (A0 : Option Addr) (c0 : Nat) (l0 : List Int) (A1 : Option Addr) (c1 : Nat) (l1 : List S55) (i j : Int) (f1 : decide (16 < l1.length) = false) (f2 : decide ((16 : Int) < (l1.length : Int)) = false) (w : World) (hr0 : Kd.C (Kd.int .i64) w A0 l0.length l0) (hc0 : l0.length ≤ c0) (hr1 : Kd.C k55 w A1 l1.length l1) (hc1 : l1.length ≤ c1) (h1 : impl_within.f (l0.length : Int) 1 8 = some true) (hi : @slices_IndexFunc_int64_int64.f isDelC k l0 0 = some i) (hp : decide (i ≥ 0) = false) (hj : @impl_Wire_102.f (wireC l0.length) k l1 0 = some j) (n0 : 1 ≤ (l0.length : Int)) (n8 : (l0.length : Int) ≤ 8) :
    Calls Try.prog 53 #[.agg #[.slice A0 l0.length c0, .slice A1 l1.length c1]] w fun e w' => e = .returned (.bool (!decide (j ≥ 0))) ∧ Below w.heap.size w w' := by
  have Hhr0 := Aside0.mk hr0
  have Hhc0 := Aside0.mk hc0
  have Hhr1 := Aside0.mk hr1
  have Hhc1 := Aside0.mk hc1
  have Hh1 := Aside0.mk h1
  have Hhi := Aside0.mk hi
  have Hhp := Aside0.mk hp
  have Hhj := Aside0.mk hj
  have Hn0 := Aside0.mk n0
  have Hn8 := Aside0.mk n8
  clear hr0 hc0 hr1 hc1 h1 hi hp hj n0 n8
  have HB := Aside0.mk (Below.refl w.heap.size w)
  have F3 := Hhp
  go_enter Try.func53, Try.ntmps53
  go_wp2_with (first
    | ((with_reducible refine gate_dst (N := 1) rfl ?_); refine box_event ?hg (N := 1) ?hd (cs := #[.slice A0 l0.length c0, .slice A1 l1.length c1]) (t := 36) ?hr ?_; (case hd => rfl); (case hg => rfl); (case hr => first | (go_simp; done) | (go_simp; rfl)); intro g1 hg wn hbox hb; have GE1 := Aside0.mk (by rw [hg]; exact below_size HB.out : w.heap.size ≤ g1); clear hg; have BK10 := Aside0.mk hbox; clear hbox; have n0_ := Aside0.mk (below_step HB.out hb); clear HB  hb; have HB := n0_; clear n0_ ; have BK1 := BK10; clear BK10; have c1_0 : wn.cell? ⟨g1, 0, none⟩ = some (.slice A0 l0.length c0) := (blk_cell BK1.out 0).trans rfl; have c1_1 : wn.cell? ⟨g1, 1, none⟩ = some (.slice A1 l1.length c1) := (blk_cell BK1.out 1).trans rfl)
    | ((with_reducible refine gate_dst (N := 3) rfl ?_); refine box_event ?hg (N := 3) ?hd (cs := #[.int .i64 0]) (t := 2) ?hr ?_; (case hd => rfl); (case hg => rfl); (case hr => first | (go_simp; done) | (go_simp; rfl)); intro g3 hg wn hbox hb; have GE3 := Aside0.mk (by rw [hg]; exact below_size HB.out : w.heap.size ≤ g3); have NE1_3 := Aside0.mk (show g1 ≠ g3 by have := blk_lt BK1.out; omega); clear hg; have BK30 := Aside0.mk hbox; clear hbox; have n0_ := Aside0.mk (below_step HB.out hb); have m1_ := Aside0.mk (blk_below BK1.out hb); clear HB BK1 hb; have HB := n0_; have BK1 := m1_; clear n0_ m1_; have c1_0 : wn.cell? ⟨g1, 0, none⟩ = some (.slice A0 l0.length c0) := (blk_cell BK1.out 0).trans rfl; have c1_1 : wn.cell? ⟨g1, 1, none⟩ = some (.slice A1 l1.length c1) := (blk_cell BK1.out 1).trans rfl; have BK3 := BK30; clear BK30; have c3_0 : wn.cell? ⟨g3, 0, none⟩ = some (.int .i64 0) := (blk_cell BK3.out 0).trans rfl; have z3_0 := blk_frozen BK3.out 0; have c1s0 : ∀ v, (wn.setCell ⟨g3, 0, none⟩ v).cell? ⟨g1, 0, none⟩ = some (.slice A0 l0.length c0) := fun v => (blk_cell (blk_far BK1.out (p := ⟨g3, 0, none⟩) NE1_3.out v) 0).trans rfl; have c1s1 : ∀ v, (wn.setCell ⟨g3, 0, none⟩ v).cell? ⟨g1, 1, none⟩ = some (.slice A1 l1.length c1) := fun v => (blk_cell (blk_far BK1.out (p := ⟨g3, 0, none⟩) NE1_3.out v) 1).trans rfl)
    | (go_at_call 47; have m1_ := Aside0.mk (blk_far BK1.out (p := ⟨g3, 0, none⟩) NE1_3.out (.int .i64 (l0.length : Int))); have m3_ := Aside0.mk (blk_put BK3.out 0 (.int .i64 (l0.length : Int)) (cs' := #[.int .i64 (l0.length : Int)]) rfl); have n0_ := Aside0.mk (below_set (j := 0) (v := .int .i64 (l0.length : Int)) HB.out GE3.out); clear HB BK1 BK3; have HB := n0_; have BK1 := m1_; have BK3 := m3_; clear n0_ m1_ m3_; (with_reducible refine (impl_within.calls (l0.length : Int) 1 8 true _ Hh1.out).mono ?_); rintro e wn ⟨rfl, hb0⟩; (first | have hb := to_below_d hb0 | have hb := to_below_b hb0); clear hb0; have n0_ := Aside0.mk (below_step HB.out hb); have m1_ := Aside0.mk (blk_below BK1.out hb); have m3_ := Aside0.mk (blk_below BK3.out hb); clear HB BK1 BK3 hb; have HB := n0_; have BK1 := m1_; have BK3 := m3_; clear n0_ m1_ m3_; have c1_0 : wn.cell? ⟨g1, 0, none⟩ = some (.slice A0 l0.length c0) := (blk_cell BK1.out 0).trans rfl; have c1_1 : wn.cell? ⟨g1, 1, none⟩ = some (.slice A1 l1.length c1) := (blk_cell BK1.out 1).trans rfl; have c3_0 : wn.cell? ⟨g3, 0, none⟩ = some (.int .i64 (l0.length : Int)) := (blk_cell BK3.out 0).trans rfl)
    | (go_at_call 76; refine (@has76 isDelC k A0 c0 l0 i 81 Try.f81 #[] ⟨Try.func81, rfl, by kernel_rfl⟩ _ (IsDelCl _) (Kd.C_below Hhr0.out HB.out) Hhc0.out Hhi.out).mono ?_; rintro e wn ⟨he, hb0⟩; rw [F3.out] at he; subst he; have hb := to_below_d hb0; clear hb0; have n0_ := Aside0.mk (below_step HB.out hb); have m1_ := Aside0.mk (blk_below BK1.out hb); have m3_ := Aside0.mk (blk_below BK3.out hb); clear HB BK1 BK3 hb; have HB := n0_; have BK1 := m1_; have BK3 := m3_; clear n0_ m1_ m3_; have c1_0 : wn.cell? ⟨g1, 0, none⟩ = some (.slice A0 l0.length c0) := (blk_cell BK1.out 0).trans rfl; have c1_1 : wn.cell? ⟨g1, 1, none⟩ = some (.slice A1 l1.length c1) := (blk_cell BK1.out 1).trans rfl; have c3_0 : wn.cell? ⟨g3, 0, none⟩ = some (.int .i64 (l0.length : Int)) := (blk_cell BK3.out 0).trans rfl)
    | (go_at_call 83; refine (@has83 (wireC l0.length) k A1 c1 l1 j 84 Try.f84 #[.pointer (some ⟨g3, 0, none⟩)] ⟨Try.func84, rfl, by kernel_rfl⟩ _ (WireCl l0.length g3 _ Hn0.out Hn8.out BK3.out) (Kd.C_below Hhr1.out HB.out) Hhc1.out Hhj.out).mono ?_; rintro e wn ⟨rfl, hb⟩; have n0_ := Aside0.mk (below_step HB.out hb); have m1_ := Aside0.mk (blk_below BK1.out hb); have m3_ := Aside0.mk (blk_below BK3.out hb); clear HB BK1 BK3 hb; have HB := n0_; have BK1 := m1_; have BK3 := m3_; clear n0_ m1_ m3_; have c1_0 : wn.cell? ⟨g1, 0, none⟩ = some (.slice A0 l0.length c0) := (blk_cell BK1.out 0).trans rfl; have c1_1 : wn.cell? ⟨g1, 1, none⟩ = some (.slice A1 l1.length c1) := (blk_cell BK1.out 1).trans rfl; have c3_0 : wn.cell? ⟨g3, 0, none⟩ = some (.int .i64 (l0.length : Int)) := (blk_cell BK3.out 0).trans rfl))
  go_ret
  exact ⟨rfl, HB.out⟩
def impl_isFlow.f (k : Nat) (l0 : List Int) (l1 : List S55) : Option Bool :=
  if 1 ≤ (l0.length : Int) ∧ (l0.length : Int) ≤ 8 then (if 16 < l1.length then some false else (@slices_IndexFunc_int64_int64.f isDelC k l0 0).bind fun i => if i ≥ 0 then some false else (@impl_Wire_102.f (wireC l0.length) k l1 0).bind fun j => some (!decide (j ≥ 0))) else some false
theorem impl_isFlow.calls (k : Nat) (A0_0 : Option Addr) (c0_0 : Nat) (l0_0 : List Int) (A0_1 : Option Addr) (c0_1 : Nat) (l0_1 : List (S55)) (r : Bool) (w : World) (hr0_0 : Kd.C (Kd.int .i64) w A0_0 l0_0.length l0_0) (hc0_0 : l0_0.length ≤ c0_0) (hr0_1 : Kd.C k55 w A0_1 l0_1.length l0_1) (hc0_1 : l0_1.length ≤ c0_1) (h : impl_isFlow.f k l0_0 l0_1 = some r) :
    Calls Try.prog 53 #[.agg #[.slice A0_0 l0_0.length c0_0, .slice A0_1 l0_1.length c0_1]] w fun e w' => e = .returned (.bool r) ∧ Below w.heap.size w w' := by
  unfold impl_isFlow.f at h
  by_cases hz : 1 ≤ (l0_0.length : Int) ∧ (l0_0.length : Int) ≤ 8
  · rw [if_pos hz] at h
    have hw : impl_within.f (l0_0.length : Int) 1 8 = some true := by rw [within_w]; simp; omega
    by_cases hm : 16 < l0_1.length
    · rw [if_pos hm] at h
      obtain rfl := Option.some.inj h
      exact isFlow_2 k A0_0 c0_0 l0_0 A0_1 c0_1 l0_1 (decide_eq_true hm) (decide_eq_true (by omega)) w hw
    · rw [if_neg hm] at h
      obtain ⟨i, hi, h⟩ := Option.bind_eq_some_iff.mp h
      by_cases hp : i ≥ 0
      · rw [if_pos hp] at h
        obtain rfl := Option.some.inj h
        exact isFlow_3 k A0_0 c0_0 l0_0 A0_1 c0_1 l0_1 i (decide_eq_false hm) (decide_eq_false (by omega)) w hr0_0 hc0_0 hr0_1 hc0_1 hw hi (decide_eq_true hp)
      · rw [if_neg hp] at h
        obtain ⟨j, hj, h⟩ := Option.bind_eq_some_iff.mp h
        obtain rfl := Option.some.inj h
        exact isFlow_4 k A0_0 c0_0 l0_0 A0_1 c0_1 l0_1 i j (decide_eq_false hm) (decide_eq_false (by omega)) w hr0_0 hc0_0 hr0_1 hc0_1 hw hi (decide_eq_false hp) hj hz.1 hz.2
  · rw [if_neg hz] at h
    have hw : impl_within.f (l0_0.length : Int) 1 8 = some false := by rw [within_w]; simp; omega
    obtain rfl := Option.some.inj h
    exact isFlow_1 k A0_0 c0_0 l0_0 A0_1 c0_1 l0_1 w hw
end Go.Proofs.Ytojpibpjieanhaa.X
end
