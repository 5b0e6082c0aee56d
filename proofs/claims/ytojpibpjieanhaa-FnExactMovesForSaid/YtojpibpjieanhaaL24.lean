/- My own texts of this seat and its words, merged: COpen, CFewI, XRaise, Xp47, Xp99, XAreMoves, Xp82, Xp102, XIsFlow, Xp103, Xp86, XOpenClo. Conditions: as each lemma says. -/
import Derived.Test.YtojpibpjieanhaaL22
import Derived.Test.YtojpibpjieanhaaL21
import Derived.Test.YtojpibpjieanhaaL23
import Derived.RegionTactic
import Derived.BigRegion
import Derived.Deep.RegionLaw
import Derived.StillTailTactics
section
/- The reference's search for a ring without registers through a vertex. Conditions: as each lemma says. -/
namespace Go.Proofs.Ytojpibpjieanhaa.X
open Go.RowKit Go.Proofs.YtojpibpjieanhaaW.PrintWords Go.Proofs.YtojpibpjieanhaaW.PrintLast Go.Proofs.YtojpibpjieanhaaW.PrintMore Go.Proofs.Ytojpibpjieanhaa.FlowMath
set_option linter.unusedVariables false
set_option linter.unusedSimpArgs false
/-- The wires' form. -/
def WireOk (n : Nat) (w : S55) : Prop := 0 ≤ w.f0 ∧ w.f0 < n ∧ 0 ≤ w.f1 ∧ w.f1 < n ∧ 0 ≤ w.f2 ∧ w.f2 ≤ 20
/-- A wire without registers. -/
def Edge (ws : List S55) (a b : Nat) : Prop := ∃ w, w ∈ ws ∧ w.f2 = 0 ∧ w.f0 = (a : Int) ∧ w.f1 = (b : Int)
theorem Edge.lt {ws : List S55} {n : Nat} (hw : ∀ w, w ∈ ws → WireOk n w) {a b : Nat} (h : Edge ws a b) : a < n ∧ b < n := by
  obtain ⟨w, h1, h2, h3, h4⟩ := h
  obtain ⟨_, h5, _, h6, _⟩ := hw w h1
  omega
theorem rdT_at (l : List S55) (i : Nat) (h : i < l.length) : rd_T55 l (i : Int) = l[i] := by
  unfold rd_T55; simp [h]
/-- What the search has found. -/
structure Bfs (ws : List S55) (n v : Nat) (seen list : List Int) (i : Nat) : Prop where
  all : ∀ x, x ∈ list ↔ x = (v : Int) ∨ x ∈ seen
  rng : ∀ x, x ∈ seen → ∃ y : Nat, x = (y : Int) ∧ y < n ∧ Plus (Edge ws) v y
  done : ∀ (j : Nat) (hj : j < list.length), j < i → ∀ w, w ∈ ws → w.f2 = 0 → w.f0 = list[j] → w.f1 ≠ (v : Int) ∧ w.f1 ∈ seen
  le : i ≤ list.length
noncomputable def ringB (ws : List S55) (v : Nat) : Bool := open Classical in decide (Plus (Edge ws) v v)
theorem ringB_true {ws : List S55} {v : Nat} (h : Plus (Edge ws) v v) : ringB ws v = true := by unfold ringB; exact @decide_eq_true _ (Classical.propDecidable _) h
theorem ringB_false {ws : List S55} {v : Nat} (h : ¬ Plus (Edge ws) v v) : ringB ws v = false := by unfold ringB; exact @decide_eq_false _ (Classical.propDecidable _) h
noncomputable def unseen (n : Nat) (seen : List Int) : Nat := cnt (fun y => (y : Int) ∉ seen) n
theorem bfs_end {ws : List S55} {n v : Nat} {seen list : List Int} (h : Bfs ws n v seen list list.length) : ¬ Plus (Edge ws) v v := by
  have key : ∀ a c, Plus (Edge ws) a c → (a : Int) ∈ list → (c : Int) ≠ v ∧ (c : Int) ∈ seen := by
    intro a c hp
    induction hp with
    | one e =>
      intro ha
      obtain ⟨w, h1, h2, h3, h4⟩ := e
      obtain ⟨j, hj, hje⟩ := List.mem_iff_getElem.mp ha
      have := h.done j hj hj w h1 h2 (by rw [hje, h3])
      rw [h4] at this
      exact this
    | step e _ ih =>
      intro ha
      obtain ⟨w, h1, h2, h3, h4⟩ := e
      obtain ⟨j, hj, hje⟩ := List.mem_iff_getElem.mp ha
      have := h.done j hj hj w h1 h2 (by rw [hje, h3])
      rw [h4] at this
      exact ih ((h.all _).2 (.inr this.2))
  intro hp
  exact (key v v hp ((h.all _).2 (.inl rfl))).1 rfl
/-- The wires of one vertex: those ahead of m are done. -/
theorem bfs_in (ws : List S55) (d0 : List Int) (n v : Nat) (hv : v < n) (hn : n ≤ 8) (hm : ws.length ≤ 16) (hw : ∀ w, w ∈ ws → WireOk n w) (i K2 p : Nat) (hK : 100 < K2)
    (next : ∀ (seen list : List Int), Bfs ws n v seen list (i + 1) → (unseen n seen + seen.length ≤ n) → list.length = seen.length + 1 → list.length - (i + 1) + unseen n seen ≤ p → ∀ k, K2 < k → spec_l08Open.l0 k v seen list ((i : Int) + 1) d0 ws = some (ringB ws v)) :
    ∀ (d m : Nat) (seen list : List Int), m + d = ws.length → Bfs ws n v seen list i → i < list.length → (unseen n seen + seen.length ≤ n) → list.length = seen.length + 1 →
      (∀ (j : Nat) (hj : j < ws.length), j < m → ws[j].f2 = 0 → ∀ hi : i < list.length, ws[j].f0 = list[i] → ws[j].f1 ≠ (v : Int) ∧ ws[j].f1 ∈ seen) → list.length - (i + 1) + unseen n seen ≤ p →
      ∀ k, K2 + 2 * d + 1 < k → spec_l08Open.l1 k v seen list i m d0 ws = some (ringB ws v) := by
  intro d
  induction d with
  | zero =>
    intro m seen list hmd hb hi hu hll hp hpp k hk
    cases k with
    | zero => omega
    | succ k =>
      rw [spec_l08Open.l1, if_neg (by omega), w64 (by omega) (by omega)]
      refine next seen list ⟨hb.all, hb.rng, fun j hj hji w hws h2 h3 => ?_, by omega⟩ hu hll hpp k (by omega)
      by_cases e : j = i
      · subst e
        obtain ⟨q, hq, hqe⟩ := List.mem_iff_getElem.mp hws
        have := hp q hq (by omega) (by rw [hqe]; exact h2) hj (by rw [hqe]; exact h3)
        rw [hqe] at this
        exact this
      · exact hb.done j hj (by omega) w hws h2 h3
  | succ d ih =>
    intro m seen list hmd hb hi hu hll hp hpp k hk
    have hlt : m < ws.length := by omega
    obtain ⟨w, hwe⟩ : ∃ w, w = ws[m] := ⟨_, rfl⟩
    have hwm : w ∈ ws := hwe ▸ List.getElem_mem hlt
    obtain ⟨o1, o2, o3, o4, o5, o6⟩ := hw w hwm
    cases k with
    | zero => omega
    | succ k =>
    cases k with
    | zero => omega
    | succ k =>
      rw [spec_l08Open.l1, if_pos (by omega), if_pos (by omega), if_pos (by omega), if_pos (by omega), rdT_at ws m hlt, ← hwe, rd_at list i hi]
      -- a wire that isn't of this vertex, or has registers
      have skip : ¬ (w.f2 = 0 ∧ w.f0 = list[i]) → spec_l08Open.l1 k v seen list i ((m : Int) + 1) d0 ws = some (ringB ws v) := by
        intro hns
        have := ih (m + 1) seen list (by omega) hb hi hu hll (fun j hj hjm h2 hi' h3 => by
          by_cases e : j = m
          · subst e
            rw [← hwe] at h2 h3 ⊢
            exact absurd ⟨h2, h3⟩ hns
          · exact hp j hj (by omega) h2 hi' h3) hpp k (by omega)
        rw [Int.natCast_add, Int.natCast_one] at this
        exact this
      have hwr : Aside0 (wrap64 ((m : Int) + 1) = (m : Int) + 1) := ⟨w64 (by omega) (by omega)⟩
      by_cases e1 : w.f0 = list[i]
      · rw [if_pos e1]
        by_cases e2 : w.f2 > 0
        · rw [decide_eq_true e2, spec_l08Open.j2, if_pos rfl, hwr.out]
          exact skip (fun h => by omega)
        · rw [decide_eq_false e2, spec_l08Open.j2, if_neg (by decide)]
          have e2' : w.f2 = 0 := by omega
          obtain ⟨a, ha⟩ := Int.eq_ofNat_of_zero_le o1
          obtain ⟨b, hb'⟩ := Int.eq_ofNat_of_zero_le o3
          have hE : Edge ws a b := ⟨w, hwm, e2', ha, hb'⟩
          have hreach : a = v ∨ Plus (Edge ws) v a := by
            have hmem : list[i] ∈ list := List.getElem_mem hi
            rcases (hb.all _).1 hmem with h | h
            · left; omega
            · obtain ⟨y, hy, _, hp⟩ := hb.rng _ h
              right
              have : a = y := by omega
              rw [this]; exact hp
          have hpb : Plus (Edge ws) v b := by
            rcases hreach with h | h
            · subst h; exact .one hE
            · exact h.snoc hE
          by_cases e3 : w.f1 = (v : Int)
          · rw [if_pos e3]
            have : b = v := by omega
            subst this
            rw [ringB_true hpb]
          · rw [if_neg e3, has_eq seen w.f1 (by omega) k (by omega), Option.bind_some]
            by_cases e4 : w.f1 ∈ seen
            · rw [decide_eq_true e4, if_pos rfl, hwr.out]
              have := ih (m + 1) seen list (by omega) hb hi hu hll (fun j hj hjm h2 hi' h3 => by
                by_cases e : j = m
                · subst e
                  rw [← hwe]
                  exact ⟨e3, e4⟩
                · exact hp j hj (by omega) h2 hi' h3) hpp k (by omega)
              rw [Int.natCast_add, Int.natCast_one] at this
              exact this
            · obtain ⟨seen', hs1, hs2, hs3⟩ := put_eq seen w.f1 e4 (by omega) k (by omega)
              rw [decide_eq_false e4, if_neg (by decide), hs1, Option.bind_some, if_pos (by omega), hwr.out]
              have hul : unseen n seen' < unseen n seen := by
                refine cnt_lt n (fun y _ hy hys => hy ((hs3 _).2 (.inl hys))) b (by omega) (by rw [← hb']; exact e4) ?_
                intro h; exact h ((hs3 _).2 (.inr hb'.symm))
              have hget : ∀ (j : Nat) (hj : j < list.length) (hj' : j < (list ++ [w.f1]).length), (list ++ [w.f1])[j] = list[j] := fun j hj hj' => List.getElem_append_left hj
              have := ih (m + 1) seen' (list ++ [w.f1]) (by omega)
                ⟨fun x => by rw [List.mem_append, hb.all, hs3, List.mem_singleton, or_assoc], fun x hx => by
                    rcases (hs3 x).1 hx with h | h
                    · exact hb.rng x h
                    · exact ⟨b, by omega, by omega, hpb⟩,
                  fun j hj hji w' hws h2 h3 => by
                    have hjl : j < list.length := by omega
                    rw [hget j hjl hj] at h3
                    have := hb.done j hjl hji w' hws h2 h3
                    exact ⟨this.1, (hs3 _).2 (.inl this.2)⟩, by simp; omega⟩
                (by simp; omega) (by omega) (by simp; omega)
                (fun j hj hjm h2 hi' h3 => by
                  rw [hget i hi hi'] at h3
                  by_cases e : j = m
                  · subst e
                    rw [← hwe]
                    exact ⟨e3, (hs3 _).2 (.inr rfl)⟩
                  · have := hp j hj (by omega) h2 hi h3
                    exact ⟨this.1, (hs3 _).2 (.inl this.2)⟩) (by simp; omega) k (by omega)
              rw [Int.natCast_add, Int.natCast_one] at this
              exact this
      · rw [if_neg e1, spec_l08Open.j2, if_pos rfl, hwr.out]
        exact skip (fun h => e1 h.2)
theorem unseen_le (n : Nat) (seen : List Int) : unseen n seen ≤ n := cnt_le _ _
theorem bfs_out (ws : List S55) (d0 : List Int) (n v : Nat) (hv : v < n) (hn : n ≤ 8) (hm : ws.length ≤ 16) (hw : ∀ w, w ∈ ws → WireOk n w) :
    ∀ (p i : Nat) (seen list : List Int), list.length - i + unseen n seen ≤ p → Bfs ws n v seen list i → (unseen n seen + seen.length ≤ n) → list.length = seen.length + 1 →
      ∀ k, 200 + 50 * p < k → spec_l08Open.l0 k v seen list i d0 ws = some (ringB ws v) := by
  intro p
  induction p with
  | zero =>
    intro i seen list hp hb hu hll k hk
    cases k with
    | zero => omega
    | succ k =>
      have hle := hb.le
      rw [spec_l08Open.l0, if_neg (by omega)]
      have e : i = list.length := by omega
      subst e
      rw [ringB_false (bfs_end hb)]
  | succ p ih =>
    intro i seen list hp hb hu hll k hk
    cases k with
    | zero => omega
    | succ k =>
      have hle := hb.le
      rw [spec_l08Open.l0]
      by_cases hi : i < list.length
      · rw [if_pos (by omega)]
        exact bfs_in ws d0 n v hv hn hm hw i (200 + 50 * p) p (by omega) (fun seen' list' hb' hu' hll' hpp k' hk' => by
          have := ih (i + 1) seen' list' (by omega) hb' hu' hll' k' (by omega)
          rw [Int.natCast_add, Int.natCast_one] at this
          exact this) ws.length 0 seen list (by omega) hb hi hu hll (fun j hj hjm => by omega) (by omega) k (by omega)
      · rw [if_neg (by omega)]
        have e : i = list.length := by omega
        subst e
        rw [ringB_false (bfs_end hb)]
theorem open_eq (ws : List S55) (d0 : List Int) (n v : Nat) (hv : v < n) (hn : n ≤ 8) (hm : ws.length ≤ 16) (hw : ∀ w, w ∈ ws → WireOk n w) (k : Nat) (hk : 1000 < k) : spec_l08Open.f k d0 ws v = some (ringB ws v) := by
  unfold spec_l08Open.f
  have hu := unseen_le n []
  exact bfs_out ws d0 n v hv hn hm hw (1 + n) 0 [] [(v : Int)] (by simp; omega) ⟨by simp, by simp, fun j hj hji => by omega, by simp⟩ (by simp; omega) rfl k (by omega)
end Go.Proofs.Ytojpibpjieanhaa.X
end
section
/- The program's table of the fewest registers: it is sound and full. Plain; conditions: as each lemma says. -/
namespace Go.Proofs.Ytojpibpjieanhaa.FewMath
open Go.RowKit Go.Proofs.YtojpibpjieanhaaW.PrintWords Go.Proofs.YtojpibpjieanhaaW.PrintLast Go.Proofs.YtojpibpjieanhaaW.PrintMore
open Go.Proofs.Ytojpibpjieanhaa.X Go.Proofs.Ytojpibpjieanhaa.FlowMath
set_option linter.unusedVariables false
set_option linter.unusedSimpArgs false
set_option linter.unusedSectionVars false
def dl (x : List Int) : Nat → Int := fun v => x.getD v 0
theorem rd_dl (x : List Int) (i : Int) : rd x i = dl x i.toNat := rfl
/-- The wires. -/
def Wi (ws : List S55) (u v : Nat) (c : Int) : Prop := ∃ w, w ∈ ws ∧ w.f0 = (u : Int) ∧ w.f1 = (v : Int) ∧ w.f2 = c
abbrev Back (E : Nat → Nat → Int → Prop) : Nat → Nat → Int → Prop := fun u v c => E v u c
/-- What is known of a flow. -/
structure Fl (d : List Int) (ws : List S55) (n : Nat) : Prop where
  len : d.length = n
  n1 : 1 ≤ n
  n8 : n ≤ 8
  m16 : ws.length ≤ 16
  wok : ∀ w, w ∈ ws → WireOk n w
  del : ∀ v, 0 ≤ dl d v ∧ dl d v ≤ 100
  ac : ∀ v, ¬ Plus (Go.Proofs.Ytojpibpjieanhaa.X.Edge ws) v v
variable {d : List Int} {ws : List S55} {n : Nat}
theorem plus_mono {E E' : Nat → Nat → Prop} (h : ∀ a b, E a b → E' a b) {a b : Nat} (k : Plus E a b) : Plus E' a b := by
  induction k with
  | one e => exact .one (h _ _ e)
  | step e _ ih => exact .step (h _ _ e) ih
theorem plus_rev {E : Nat → Nat → Prop} {a b : Nat} (k : Plus (fun u v => E v u) a b) : Plus E b a := by
  induction k with
  | one e => exact .one e
  | step e _ ih => exact ih.snoc e
theorem Fl.net (h : Fl d ws n) : Net (Wi ws) (dl d) n where
  n8 := h.n8
  lt := by
    rintro u v c ⟨w, h1, h2, h3, h4⟩
    have := h.wok w h1
    unfold WireOk at this
    omega
  del := h.del
  ac := fun v hv => h.ac v (plus_mono (fun a b ⟨w, h1, h2, h3, h4⟩ => ⟨w, h1, h4, h2, h3⟩) hv)
theorem Fl.netB (h : Fl d ws n) : Net (Back (Wi ws)) (dl d) n where
  n8 := h.n8
  lt := fun u v c hc => by have := h.net.lt _ _ _ hc; omega
  del := h.del
  ac := fun v hv => h.net.ac v (plus_rev hv)
theorem Wi.of {ws : List S55} {n : Nat} {w : S55} (hw : w ∈ ws) (ho : WireOk n w) : Wi ws w.f0.toNat w.f1.toNat w.f2 := by
  unfold WireOk at ho
  exact ⟨w, hw, by omega, by omega, rfl⟩
/-! ### The program -/
abbrev P2 : Type := Nat × Nat
def evW (d : List Int) (n : Nat) (w : S55) : List (Ev P2) := Ev.base (w.f0.toNat, w.f1.toNat) w.f2 (dl d w.f0.toNat + dl d w.f1.toNat) :: (List.range n).map fun j => Ev.link (w.f1.toNat, j) (w.f0.toNat, j) w.f2 (dl d w.f0.toNat)
def evI (d : List Int) (n : Nat) (ws : List S55) : List (Ev P2) := ws.flatMap (evW d n)
theorem evW_len (w : S55) : (evW d n w).length = n + 1 := by simp [evW]
theorem evI_len : ∀ ws : List S55, (evI d n ws).length = ws.length * (n + 1)
  | [] => by simp [evI]
  | w :: ws => by
    have := evI_len ws
    unfold evI at this ⊢
    rw [List.flatMap_cons, List.length_append, this, evW_len, List.length_cons, Nat.succ_mul, Nat.add_comm]
def WI (d : List Int) (ws : List S55) (m : Nat) (p : P2) (x : Int) : Prop := T (Back (Wi ws)) (dl d) p.2 m p.1 x
theorem mem_evI {e : Ev P2} : e ∈ evI d n ws ↔ ∃ w, w ∈ ws ∧ (e = Ev.base (w.f0.toNat, w.f1.toNat) w.f2 (dl d w.f0.toNat + dl d w.f1.toNat) ∨ ∃ j, j < n ∧ e = Ev.link (w.f1.toNat, j) (w.f0.toNat, j) w.f2 (dl d w.f0.toNat)) := by
  unfold evI evW
  simp only [List.mem_flatMap, List.mem_cons, List.mem_map, List.mem_range]
  constructor
  · rintro ⟨w, h1, h2 | ⟨j, h2, h3⟩⟩
    · exact ⟨w, h1, .inl h2⟩
    · exact ⟨w, h1, .inr ⟨j, h2, h3.symm⟩⟩
  · rintro ⟨w, h1, h2 | ⟨j, h2, h3⟩⟩
    · exact ⟨w, h1, .inl h2⟩
    · exact ⟨w, h1, .inr ⟨j, h2, h3.symm⟩⟩
theorem T.src {E : Nat → Nat → Int → Prop} {dd : Nat → Int} {a m v : Nat} {x : Int} (hN : Net E dd n) (h : T E dd a m v x) : a < n := by
  induction h with
  | one h => exact (hN.lt _ _ _ h).1
  | snoc _ _ ih => exact ih
theorem Fl.waysI (h : Fl d ws n) : Ways (WI d ws) (evI d n ws) n where
  n8 := h.n8
  few := by
    rw [evI_len]
    have h1 := h.m16
    have h2 := h.n8
    have : ws.length * (n + 1) ≤ 16 * 9 := Nat.mul_le_mul h1 (by omega)
    omega
  ok := by
    intro e he
    obtain ⟨w, h1, h2 | ⟨j, hj, h2⟩⟩ := mem_evI.1 he
    · subst h2
      have := h.wok w h1
      unfold WireOk at this
      have a1 := h.del w.f0.toNat
      have a2 := h.del w.f1.toNat
      unfold Ev.ok
      simp only
      omega
    · subst h2
      have := h.wok w h1
      unfold WireOk at this
      have a1 := h.del w.f0.toNat
      unfold Ev.ok
      simp only
      omega
  base := by
    intro v c e he
    obtain ⟨w, h1, h2 | ⟨j, hj, h2⟩⟩ := mem_evI.1 he
    · injection h2 with e1 e2 e3
      subst e1 e2 e3
      exact (T.one (E := Back (Wi ws)) (d := dl d) (Wi.of h1 (h.wok w h1))).eqv (by omega)
    · cases h2
  link := by
    intro u v c e m x he hw
    obtain ⟨w, h1, h2 | ⟨j, hj, h2⟩⟩ := mem_evI.1 he
    · cases h2
    · injection h2 with e1 e2 e3 e4
      subst e1 e2 e3 e4
      exact T.snoc (E := Back (Wi ws)) (d := dl d) hw (Wi.of h1 (h.wok w h1))
  back := by
    rintro m ⟨i, j⟩ x hw
    cases hw with
    | @snoc _ u _ x' c h1 hE =>
      have hj : j < n := T.src h.netB h1
      obtain ⟨w, w1, w2, w3, w4⟩ := hE
      refine ⟨(u, j), x', c, dl d i, h1, mem_evI.2 ⟨w, w1, .inr ⟨j, hj, ?_⟩⟩, rfl⟩
      have e1 : w.f1.toNat = u := by omega
      have e2 : w.f0.toNat = i := by omega
      rw [e1, e2, w4]
  pos := fun m v x hw => T.pos hw
  short := fun m v x hw => FewMath.short h.netB m v.1 x hw
theorem Fl.base1 (h : Fl d ws n) {t : Nat} (h1 : 1 ≤ t) (ht : t + (evI d n ws).length ≤ 9000) {s : (P2 → Bt) × Bool} (hb : ∀ u, Bd t (s.1 u)) : ∀ v x, WI d ws 1 v x → hit ((run (evI d n ws) s).1 v) x := by
  rintro ⟨i, j⟩ x hw
  cases hw with
  | @one _ c hE =>
    obtain ⟨w, w1, w2, w3, w4⟩ := hE
    have e1 : w.f1.toNat = j := by simp only at w3; omega
    have e2 : w.f0.toNat = i := by simp only at w2; omega
    have he : Ev.base (i, j) c (dl d i + dl d j) ∈ evI d n ws := mem_evI.2 ⟨w, w1, .inl (by rw [e1, e2, w4])⟩
    refine run_new (evI d n ws) t s h1 ht h.waysI.ok hb _ he _ ⟨rfl, ?_⟩
    unfold Ev.cand key
    simp only
    omega
  | snoc h _ => exact absurd (T.pos h) (by omega)
/-! The program's rounds are the events. -/
def U (s : MB) : (P2 → Bt) × Bool := (fun p => s.1 p.1 p.2, s.2)
theorem putS_U (s : MB) (i j : Nat) (x : Bt) : U (putS s i j x) = (rlx (U s).1 (i, j) x, (U s).2 || btr x ((U s).1 (i, j))) := by
  unfold U putS
  refine Prod.ext ?_ rfl
  funext p
  obtain ⟨a, b⟩ := p
  show putM s.1 i j x a b = rlx (fun p : P2 => s.1 p.1 p.2) (i, j) x (a, b)
  unfold putM rlx pick upd
  by_cases hb : btr x (s.1 i j) = true
  · simp only [if_pos hb]
    by_cases e : a = i ∧ b = j
    · obtain ⟨rfl, rfl⟩ := e; simp
    · rw [if_neg e, if_neg (by simpa using e)]
  · simp only [if_neg hb]
    by_cases e : a = i ∧ b = j
    · obtain ⟨rfl, rfl⟩ := e; simp
    · rw [if_neg (by simpa using e)]
theorem base_eq (h : Fl d ws n) {w : S55} (hw : w ∈ ws) (s : MB) : U (putS s w.f0.toNat w.f1.toNat (yB d w)) = step1 (U s) (Ev.base (w.f0.toNat, w.f1.toNat) w.f2 (dl d w.f0.toNat + dl d w.f1.toNat)) := by
  have a1 := h.del w.f0.toNat
  have a2 := h.del w.f1.toNat
  have : yB d w = ⟨w.f2, dl d w.f0.toNat + dl d w.f1.toNat, true⟩ := by
    unfold yB
    rw [rd_dl, rd_dl, w64 (by omega) (by omega)]
  rw [putS_U, this]; rfl
theorem toStep_eq (h : Fl d ws n) {w : S55} (hw : w ∈ ws) {s : MB} {t : Nat} (ht : t ≤ 9000) (hb : ∀ u, Bd t ((U s).1 u)) (j : Nat) : U (toStep d w s j) = step1 (U s) (Ev.link (w.f1.toNat, j) (w.f0.toNat, j) w.f2 (dl d w.f0.toNat)) := by
  unfold toStep
  have hbb := hb (w.f1.toNat, j)
  by_cases hf : (s.1 w.f1.toNat j).f = true
  · have hx := hbb hf
    have ho := h.wok w hw
    unfold WireOk at ho
    have a1 := h.del w.f0.toNat
    have hx' : 0 ≤ (s.1 w.f1.toNat j).r ∧ (s.1 w.f1.toNat j).r ≤ 20 * t ∧ 0 ≤ (s.1 w.f1.toNat j).d ∧ (s.1 w.f1.toNat j).d ≤ 100 * t := hx
    have : yT d w (s.1 w.f1.toNat j) = ext ((U s).1 (w.f1.toNat, j)) w.f2 (dl d w.f0.toNat) := by
      unfold yT ext
      rw [rd_dl, w64 (by omega) (by omega), w64 (by omega) (by omega)]
      show _ = (⟨_, _, (s.1 w.f1.toNat j).f⟩ : Bt)
      rw [hf]; rfl
    rw [if_pos hf, putS_U, this]; rfl
  · have hc : (Ev.cand (U s).1 (Ev.link (w.f1.toNat, j) (w.f0.toNat, j) w.f2 (dl d w.f0.toNat))).f = false := by
      show (s.1 w.f1.toNat j).f = false
      simpa using hf
    rw [if_neg hf]
    unfold step1
    rw [rlx_same (btr_none hc), btr_none hc, Bool.or_false]
theorem ok_sub (h : Fl d ws n) {w : S55} (hw : w ∈ ws) : ∀ e, e ∈ evW d n w → e.ok := fun e he => h.waysI.ok e (List.mem_flatMap.2 ⟨w, hw, he⟩)
theorem run_app {N : Type} [DecidableEq N] (a b : List (Ev N)) (s : (N → Bt) × Bool) : run (a ++ b) s = run b (run a s) := List.foldl_append ..
theorem toN_eq (h : Fl d ws n) {w : S55} (hw : w ∈ ws) {s : MB} {t : Nat} (h1 : 1 ≤ t) (ht : t + n ≤ 9000) (hb : ∀ u, Bd t ((U s).1 u)) : ∀ j, j ≤ n → U (toN d w s j) = run ((List.range j).map fun j => Ev.link (w.f1.toNat, j) (w.f0.toNat, j) w.f2 (dl d w.f0.toNat)) (U s)
  | 0, _ => rfl
  | j + 1, hj => by
    have ih := toN_eq h hw h1 ht hb j (by omega)
    rw [List.range_succ, List.map_append, run_app, ← ih, toN]
    refine toStep_eq h hw (t := t + j) (by omega) ?_ j
    rw [ih]
    have := run_bd ((List.range j).map fun j => Ev.link (w.f1.toNat, j) (w.f0.toNat, j) w.f2 (dl d w.f0.toNat)) t (U s) h1 (fun e he => by
      obtain ⟨i, hi, rfl⟩ := List.mem_map.1 he
      refine ok_sub h hw _ (List.mem_cons_of_mem _ (List.mem_map.2 ⟨i, ?_, rfl⟩))
      rw [List.mem_range] at hi ⊢; omega) hb
    rwa [List.length_map, List.length_range] at this
theorem wireStep_eq (h : Fl d ws n) {w : S55} (hw : w ∈ ws) {s : MB} {t : Nat} (h1 : 1 ≤ t) (ht : t + (n + 1) ≤ 9000) (hb : ∀ u, Bd t ((U s).1 u)) : U (wireStep d n w s) = run (evW d n w) (U s) := by
  unfold wireStep evW
  have e0 := base_eq h hw s
  rw [toN_eq h hw (t := t + 1) (by omega) (by omega) (by
    rw [e0]
    exact run_bd [Ev.base (w.f0.toNat, w.f1.toNat) w.f2 (dl d w.f0.toNat + dl d w.f1.toNat)] t (U s) h1 (fun e he => by
      rw [List.mem_singleton] at he; subst he
      exact ok_sub h hw _ (List.mem_cons_self ..)) hb) n (Nat.le_refl _), e0]
  rfl
theorem wireN_eq (h : Fl d ws n) {s : MB} {t : Nat} (h1 : 1 ≤ t) (ht : t + ws.length * (n + 1) ≤ 9000) (hb : ∀ u, Bd t ((U s).1 u)) : ∀ j, j ≤ ws.length → U (wireN d ws n s j) = run (evI d n (ws.take j)) (U s)
  | 0, _ => rfl
  | j + 1, hj => by
    have ih := wireN_eq h h1 ht hb j (by omega)
    have hlt : j < ws.length := by omega
    have hm : (j + 1) * (n + 1) ≤ ws.length * (n + 1) := Nat.mul_le_mul_right _ hj
    rw [Nat.succ_mul] at hm
    have hl : (evI d n (ws.take j)).length = j * (n + 1) := by rw [evI_len, List.length_take, Nat.min_eq_left (by omega)]
    rw [wireN, rdT_at ws j hlt, wireStep_eq h (List.getElem_mem hlt) (t := t + j * (n + 1)) (by omega) (by omega) (by
      rw [ih, ← hl]
      refine run_bd _ t (U s) h1 (fun e he => ?_) hb
      obtain ⟨w, hw, he⟩ := List.mem_flatMap.1 he
      exact ok_sub h (List.mem_of_mem_take hw) e he), ih, List.take_add_one, List.getElem?_eq_getElem hlt, Option.toList_some]
    unfold evI
    rw [List.flatMap_append, run_app, List.flatMap_cons, List.flatMap_nil, List.append_nil]
theorem roundM_eq (h : Fl d ws n) {M : Nat → Nat → Bt} {t : Nat} (h1 : 1 ≤ t) (ht : t + (evI d n ws).length ≤ 9000) (hb : ∀ u, Bd t ((U (M, false)).1 u)) : U (roundM d ws n M) = run (evI d n ws) (U (M, false)) := by
  unfold roundM
  rw [evI_len] at ht
  rw [wireN_eq h h1 ht hb _ (Nat.le_refl _), List.take_length]
theorem impl_all (h : Fl d ws n) : ∀ (e i k : Nat) (M : Nat → Nat → Bt), i + e = n → e + 1 < k → (∀ u, Bd (2 + i * 200) ((U (M, false)).1 u)) → Sound (WI d ws) (U (M, false)).1 → Nil (U (M, false)).1 → Prog (WI d ws) i (U (M, false)).1 →
    ∃ M', allF d ws n k M = some M' ∧ (∀ u, Bd 9000 ((U (M', false)).1 u)) ∧ Sound (WI d ws) (U (M', false)).1 ∧ Nil (U (M', false)).1 ∧ Full (WI d ws) (U (M', false)).1 := by
  intro e
  induction e with
  | zero =>
    intro i k M hi hk hb hs hn hp
    cases k with
    | zero => omega
    | succ k =>
      have h8 := h.n8
      have hfew := h.waysI.few
      have hi2 : i = n := by omega
      subst hi2
      have ht : 2 + i * 200 + (evI d i ws).length ≤ 9000 := by omega
      have hR := roundM_eq h (t := 2 + i * 200) (by omega) ht hb
      have hf := prog_full h.waysI hp
      rw [full_still h.waysI (t := 2 + i * 200) (by omega) (by omega) hb hs hf] at hR
      have e2 : (roundM d ws i M).2 = false := congrArg Prod.snd hR
      have e1 : (roundM d ws i M).1 = M := by
        funext a b
        exact congrFun (congrArg Prod.fst hR) (a, b)
      refine ⟨M, ?_, fun u => (hb u).up (by omega), hs, hn, hf⟩
      rw [allF, if_neg (by rw [e2]; decide), e1]
  | succ e ih =>
    intro i k M hi hk hb hs hn hp
    cases k with
    | zero => omega
    | succ k =>
      have h8 := h.n8
      have hfew := h.waysI.few
      have ht : 2 + i * 200 + (evI d n ws).length ≤ 9000 := by omega
      have hR := roundM_eq h (t := 2 + i * 200) (by omega) ht hb
      have hb2 := run_bd (evI d n ws) (2 + i * 200) (U (M, false)) (by omega) h.waysI.ok hb
      have h0 := h.base1 (t := 2 + i * 200) (by omega) ht hb
      cases hc : (roundM d ws n M).2 with
      | true =>
        have eU : (U ((roundM d ws n M).1, false)).1 = (run (evI d n ws) (U (M, false))).1 := by rw [← hR]; rfl
        obtain ⟨M', g0, g⟩ := ih (i + 1) k (roundM d ws n M).1 (by omega) (by omega) (by rw [eU]; exact fun u => (hb2 u).up (by omega)) (by rw [eU]; exact run_sound h.waysI _ _ (fun _ h => h) hs) (by rw [eU]; exact run_nil _ _ hn) (by rw [eU]; exact prog_next h.waysI (t := 2 + i * 200) (by omega) ht hb hp h0)
        exact ⟨M', by rw [allF, if_pos hc]; exact g0, g⟩
      | false =>
        have e2 : (run (evI d n ws) (U (M, false))).2 = false := by rw [← hR]; exact hc
        have e3 := (run_flag _ _ e2).2.1
        rw [e3] at hR h0
        have e1 : (roundM d ws n M).1 = M := by
          funext a b
          exact congrFun (congrArg Prod.fst hR) (a, b)
        exact ⟨M, by rw [allF, if_neg (by rw [hc]; decide), e1], fun u => (hb u).up (by omega), hs, hn, fixed_full h.waysI (t := 2 + i * 200) (by omega) (by omega) hb h0 e2⟩
theorem impl_few (h : Fl d ws n) (k : Nat) (hk : 100 < k) : ∃ M', impl_Flow_allBetween.f k d ws = some (rowsS n M') ∧ (∀ u, Bd 9000 ((U (M', false)).1 u)) ∧ Sound (WI d ws) (U (M', false)).1 ∧ Nil (U (M', false)).1 ∧ Full (WI d ws) (U (M', false)).1 := by
  have h8 := h.n8
  have h1 := h.n1
  have hl := h.len
  have hm := h.m16
  obtain ⟨M', g0, g⟩ := impl_all h n 0 k (fun _ _ => zB) (by omega) (by omega) (fun u hf => absurd hf (by simp [U, zB])) (fun u hf => absurd hf (by simp [U, zB])) (fun u _ => rfl) (fun m v x hm hw => absurd (T.pos hw) (by omega))
  refine ⟨M', ?_, g⟩
  unfold impl_Flow_allBetween.f
  have hin : ∀ w ∈ ws, WireIn d.length w := by
    intro w hw
    have ho := h.wok w hw
    unfold WireOk at ho
    unfold WireIn
    omega
  rw [if_pos ⟨by omega, by omega, by omega, hin⟩, hl, g0]
  rfl
end Go.Proofs.Ytojpibpjieanhaa.FewMath
end
section
/- The closure that raises a move. Conditions: as the lemma says. -/
namespace Go.Proofs.Ytojpibpjieanhaa.X
open Go.RowKit Go.Proofs.YtojpibpjieanhaaW.PrintWords Go.Proofs.YtojpibpjieanhaaW.PrintLast Go.Proofs.YtojpibpjieanhaaW.PrintMore
set_option linter.unusedVariables false
set_option linter.unusedSimpArgs false
/-- The moves, and whether one was raised. -/
abbrev MC : Type := List Int × Bool
def raiseS (s : MC) (i : Nat) (x : Int) : MC := if rd s.1 (i : Int) < x then (s.1.set i x, true) else s
/-- What the boxes hold. -/
structure MvW (B n : Nat) (w : World) (g8 g9 gm cm : Nat) (s : MC) : Prop where
  b8 : w.heap[g8]? = some (.cells #[.slice (some ⟨gm, 0, none⟩) n cm] 22 (0, 0))
  R : Kd.R (Kd.int .i64) 2 w B (fun _ => True) (.slice (some ⟨gm, 0, none⟩) n cm) s.1
  b9 : w.heap[g9]? = some (.cells #[.bool s.2] 4 (0, 0))
  h8 : B ≤ g8
  h9 : B ≤ g9
variable {B n : Nat} {w : World} {g8 g9 gm cm : Nat} {s : MC}
theorem MvW.move (h : MvW B n w g8 g9 gm cm s) {w1 : World} (hb : Below w.heap.size w w1) : MvW B n w1 g8 g9 gm cm s :=
  ⟨blk_below h.b8 hb, Kd.R_below h.R hb, blk_below h.b9 hb, h.h8, h.h9⟩
theorem MvW.drew (h : MvW B n w g8 g9 gm cm s) : MvW B n w.drew g8 g9 gm cm s := h.move (below_drew1 (Below.refl _ _))
theorem MvW.rng (h : MvW B n w g8 g9 gm cm s) : B ≤ gm ∧ gm < w.heap.size := ⟨Kd.R_base h.R gm (by simp [Value.ownBlock]), Kd.R_lt h.R gm (by simp [Value.ownBlock])⟩
theorem MvW.typ (h : MvW B n w g8 g9 gm cm s) : ∃ cells, w.heap[gm]? = some (.cells cells 2 (0, 0)) := Kd.R_typed h.R gm (by simp [Value.ownBlock])
theorem MvW.len (h : MvW B n w g8 g9 gm cm s) : n = s.1.length := (Kd.R_reads' h.R).1
theorem MvW.c8 (h : MvW B n w g8 g9 gm cm s) : w.cell? ⟨g8, 0, none⟩ = some (.slice (some ⟨gm, 0, none⟩) n cm) := (blk_cell h.b8 0).trans rfl
theorem MvW.cel (h : MvW B n w g8 g9 gm cm s) (i : Nat) (hi : i < n) : w.cell? ⟨gm, i, none⟩ = some (.int .i64 (rd s.1 (i : Int))) ∧ w.frozen? ⟨gm, i, none⟩ = false := by
  have := Kd.R_celln 0 h.R (i : Int) (by omega) (by omega)
  rw [Int.toNat_natCast] at this
  exact this
theorem MvW.put (h : MvW B n w g8 g9 gm cm s) (i : Nat) (x : Int) : MvW B n (w.setCell ⟨gm, i, none⟩ (.int .i64 x)) g8 g9 gm cm (s.1.set i x, s.2) := by
  obtain ⟨cells, q⟩ := h.typ
  have := Kd.R_putn h.R (i : Int) x
  rw [Int.toNat_natCast] at this
  exact ⟨blk_far h.b8 (p := ⟨gm, i, none⟩) (blk_ne h.b8 q (by decide)) _, this, blk_far h.b9 (p := ⟨gm, i, none⟩) (blk_ne h.b9 q (by decide)) _, h.h8, h.h9⟩
theorem MvW.flag (h : MvW B n w g8 g9 gm cm s) (c : Bool) : MvW B n (w.setCell ⟨g9, 0, none⟩ (.bool c)) g8 g9 gm cm (s.1, c) :=
  ⟨blk_far h.b8 (p := ⟨g9, 0, none⟩) (blk_ne h.b8 h.b9 (by decide)) _, Kd.R_mono (Kd.R_far (p := ⟨g9, 0, none⟩) (Kd.R_types h.R h.b9 (by decide)) (fun _ hk => hk.2) _) (fun _ _ => trivial), blk_put h.b9 0 _ rfl, h.h8, h.h9⟩
/-- A block of another type, written or made. -/
theorem MvW.far (h : MvW B n w g8 g9 gm cm s) {g : Nat} {cs : Array Value} {t : TypeId} (hg : w.heap[g]? = some (.cells cs t (0, 0))) (h1 : 22 ≠ t) (h2 : 2 ≠ t) (h3 : 4 ≠ t) (j : Nat) (u : Value) : MvW B n (w.setCell ⟨g, j, none⟩ u) g8 g9 gm cm s :=
  ⟨blk_far h.b8 (p := ⟨g, j, none⟩) (blk_ne h.b8 hg h1) _, Kd.R_mono (Kd.R_far (p := ⟨g, j, none⟩) (Kd.R_types h.R hg (by intro q hq; have : q = 2 := by simpa [Kd.int, Kd.scalar] using hq
                                                                                                                          subst this; exact h2)) (fun _ hk => hk.2) _) (fun _ _ => trivial), blk_far h.b9 (p := ⟨g, j, none⟩) (blk_ne h.b9 hg h3) _, h.h8, h.h9⟩
def RaiseW (B n : Nat) (w : World) (g8 g9 gm cm : Nat) (s : MC) (w' : World) : Prop := MvW B n w' g8 g9 gm cm s ∧ Below B w w' ∧ Kept w w' (fun k => k = gm ∨ k = g9)
set_option maxHeartbeats 4000000 in
set_option maxRecDepth 100000 in
theorem RaiseClo (i : Nat) (x : Int) (hi : i < n) (hn : n ≤ 1000000) (h : MvW B n w g8 g9 gm cm s) :
    Calls Try.prog 98 #[.int .i64 (i : Int), .int .i64 x, .pointer (some ⟨g8, 0, none⟩), .pointer (some ⟨g9, 0, none⟩)] w fun e w' => e = .returned (.tuple #[]) ∧ RaiseW B n w g8 g9 gm cm (raiseS s i x) w' := by
  have HH := Aside0.mk h
  have p0 : (0 ≤ (i : Int)) = True := eq_true (by omega)
  have p1 : ((i : Int) < (n : Int)) = True := eq_true (by omega)
  have c8 := h.c8
  obtain ⟨cmi, zmi⟩ := h.cel i hi
  clear h
  cases hv : decide (rd s.1 (i : Int) < x) with
  | false =>
    have HV : Aside0 (raiseS s i x = s) := ⟨by unfold raiseS; rw [if_neg (of_decide_eq_false hv)]⟩
    go_enter Try.func98, Try.ntmps98
    go_wp2
    (first | (refine bodyPost_end (results_none rfl _ _ _) rfl ?_) | (refine bodyPost_ret (results_none rfl _ _ _) rfl ?_))
    rw [HV.out]
    exact ⟨rfl, HH.out, Below.refl _ _, Kept.refl _ _⟩
  | true =>
    have HV : Aside0 (raiseS s i x = (s.1.set i x, true)) := ⟨by unfold raiseS; rw [if_pos (of_decide_eq_true hv)]⟩
    have HP := Aside0.mk (HH.out.put i x)
    have z9 : ∀ v, (w.setCell ⟨gm, i, none⟩ v).frozen? ⟨g9, 0, none⟩ = false := fun v => by obtain ⟨cells, q⟩ := HH.out.typ; exact blk_frozen (blk_far HH.out.b9 (p := ⟨gm, i, none⟩) (blk_ne HH.out.b9 q (by decide)) v) 0
    have c9 : ∀ v, (w.setCell ⟨gm, i, none⟩ v).cell? ⟨g9, 0, none⟩ = some (.bool s.2) := fun v => by obtain ⟨cells, q⟩ := HH.out.typ; exact (blk_cell (blk_far HH.out.b9 (p := ⟨gm, i, none⟩) (blk_ne HH.out.b9 q (by decide)) v) 0).trans rfl
    have HF := Aside0.mk (HP.out.flag true)
    go_enter Try.func98, Try.ntmps98
    go_wp2
    (first | (refine bodyPost_end (results_none rfl _ _ _) rfl ?_) | (refine bodyPost_ret (results_none rfl _ _ _) rfl ?_))
    rw [HV.out]
    have hr := HH.out.rng
    exact ⟨rfl, HF.out, ((Below.refl _ _).setCell (p := ⟨gm, i, none⟩) hr.1 _).setCell (p := ⟨g9, 0, none⟩) HH.out.h9 _, Kept.setCell (p := ⟨g9, 0, none⟩) (Kept.setCell (p := ⟨gm, i, none⟩) (Kept.refl _ _) (.inl (.inl rfl)) _) (.inl (.inr rfl)) _⟩
end Go.Proofs.Ytojpibpjieanhaa.X
end
section
-- Written by a program of this session out of the kit's print of the loaded functions: a plain function of a Go function, and its contract.
namespace Go.Proofs.Ytojpibpjieanhaa.X
open Go.RowKit Go.Proofs.YtojpibpjieanhaaW.PrintWords Go.Proofs.YtojpibpjieanhaaW.PrintLast Go.Proofs.YtojpibpjieanhaaW.PrintMore
attribute [local go_sem] max2_int min2_int max_two min_two max_three min_three max_four min_four   -- for this text's walks alone
set_option linter.unusedVariables false
set_option linter.unusedSimpArgs false
/-! ### impl_within: function 47 -/
def impl_within.f (a0 : Int) (a1 : Int) (a2 : Int) : Option (Bool) := if a0 ≥ a1 then (some (decide (a0 ≤ a2))) else (some false)
set_option maxHeartbeats 8000000 in
set_option maxRecDepth 100000 in
theorem impl_within.calls (a0 : Int) (a1 : Int) (a2 : Int) (r : Bool) (w : World) (h : impl_within.f a0 a1 a2 = some r) :
    Calls Try.prog 47 #[.int .i64 a0, .int .i64 a1, .int .i64 a2] w fun e w' => e = .returned (.bool r) ∧ Drawn0 w w' := by
  have H : (if a0 ≥ a1 then (some (decide (a0 ≤ a2))) else (some false)) = some r := h
  clear h
  by_cases c4 : a0 ≥ a1
  · rw [if_pos c4] at H
    have c4b0 : decide (a1 ≤ a0) = true := decide_eq_true c4
    clear c4
    obtain rfl := Option.some.inj H
    go_enter Try.func47, Try.ntmps47
    go_wp2
    go_ret
    exact ⟨by first | rfl | (simp; done) | (simp [*]; done), by repeat (first | exact Drawn0.refl _ | apply Drawn0.step)⟩
  · rw [if_neg c4] at H
    have c4b0 : decide (a1 ≤ a0) = false := decide_eq_false c4
    clear c4
    obtain rfl := Option.some.inj H
    go_enter Try.func47, Try.ntmps47
    go_wp2
    go_ret
    exact ⟨by first | rfl | (simp; done) | (simp [*]; done), by repeat (first | exact Drawn0.refl _ | apply Drawn0.step)⟩
end Go.Proofs.Ytojpibpjieanhaa.X
end
section
-- Written by a program of this session out of the kit's print of the loaded functions: a plain function of a Go function, and its contract.
namespace Go.Proofs.Ytojpibpjieanhaa.X
open Go.RowKit Go.Proofs.YtojpibpjieanhaaW.PrintWords Go.Proofs.YtojpibpjieanhaaW.PrintLast Go.Proofs.YtojpibpjieanhaaW.PrintMore
attribute [local go_sem] max2_int min2_int max_two min_two max_three min_three max_four min_four   -- for this text's walks alone
set_option linter.unusedVariables false
set_option linter.unusedSimpArgs false
class C_slices_IndexFunc_int64_int64 where
  f : Int → Option Bool
section
variable [C_slices_IndexFunc_int64_int64]
/-! ### slices_IndexFunc_int64_int64: function 99 -/
def slices_IndexFunc_int64_int64.l0 : Nat → List Int → Int → Int → Option (Int)
  | 0, _, _, _ => none
  | k + 1, x0, x7, x8 => if x8 < x7 then (if 0 ≤ x8 then (if x8 < (x0.length : Int) then ((C_slices_IndexFunc_int64_int64.f (rd x0 x8)).bind fun t120 => (if t120 = true then (some x8) else (slices_IndexFunc_int64_int64.l0 k x0 x7 (wrap64 (x8 + 1))))) else (none)) else (none)) else (some (-1))
def slices_IndexFunc_int64_int64.f (k : Nat) (l0 : List Int) (a1 : Int) : Option (Int) := slices_IndexFunc_int64_int64.l0 k l0 (l0.length : Int) 0
theorem slices_IndexFunc_int64_int64.mono_l : ∀ k, (∀ y0 y1 y2, LeO (slices_IndexFunc_int64_int64.l0 k y0 y1 y2) (slices_IndexFunc_int64_int64.l0 (k + 1) y0 y1 y2))
  | 0 => fun _ _ _ r h => by simp [slices_IndexFunc_int64_int64.l0] at h
  | k + 1 => by
    have ih0 := slices_IndexFunc_int64_int64.mono_l k
    · intro y0 y1 y2
      unfold slices_IndexFunc_int64_int64.l0
      repeat' first
      | (with_reducible exact ih0 _ _ _)
      | (with_reducible exact LeO.refl _)
      | (with_reducible exact LeO.none _)
      | (with_reducible refine LeO.ite ?_ ?_)
      | (with_reducible refine LeO.bind ?_ (fun _ => ?_))
      | exact ih0 _ _ _
      | exact LeO.none _
      | refine LeO.ite ?_ ?_
      | refine LeO.bind ?_ (fun _ => ?_)
theorem slices_IndexFunc_int64_int64.mono : ∀ a0 a1 k, LeO (slices_IndexFunc_int64_int64.f k a0 a1) (slices_IndexFunc_int64_int64.f (k + 1) a0 a1) := by
  intro a0 a1 k
  have ih0 := slices_IndexFunc_int64_int64.mono_l k
  unfold slices_IndexFunc_int64_int64.f
  repeat' first
      | (with_reducible exact ih0 _ _ _)
      | (with_reducible exact LeO.refl _)
      | (with_reducible exact LeO.none _)
      | (with_reducible refine LeO.ite ?_ ?_)
      | (with_reducible refine LeO.bind ?_ (fun _ => ?_))
      | exact ih0 _ _ _
      | exact LeO.none _
      | refine LeO.ite ?_ ?_
      | refine LeO.bind ?_ (fun _ => ?_)
set_option maxHeartbeats 8000000 in
set_option maxRecDepth 100000 in
theorem slices_IndexFunc_int64_int64.calls (k : Nat) (A0 : Option Addr) (c0 : Nat) (l0 : List Int) (a1 : Int) (r : Int) (cf : Nat) (cfn : Func) (caps : Array Value) (hcf : CloIs Try.prog cf cfn) (w : World) (hcl : ∀ x r W, C_slices_IndexFunc_int64_int64.f x = some r → Below w.heap.size w W → Calls Try.prog cf (#[.int .i64 x] ++ caps) W fun e w' => e = .returned (.bool r) ∧ Drawn0 W w') (hr0 : Kd.C (Kd.int .i64) w A0 l0.length l0) (hc0 : l0.length ≤ c0) (h : slices_IndexFunc_int64_int64.f k l0 a1 = some r) :
    Calls Try.prog 99 #[.slice A0 l0.length c0, .func (.func cf) #[] caps] w fun e w' => e = .returned (.int .i64 r) ∧ Drawn0 w w' := by
  have HCF := Aside0.mk hcf
  have HCL := Aside0.mk hcl
  clear hcf hcl
  have HR0 := Aside0.mk hr0
  have HC0 := Aside0.mk hc0
  clear hr0 hc0
  have H : (slices_IndexFunc_int64_int64.l0 k l0 (l0.length : Int) 0) = some r := h
  clear h
  have H' := Aside0.mk H
  clear H
  go_enter Try.func99, Try.ntmps99
  go_wp2
  go_loopg [8] k (fun kq v8 w' => ∃ (x8_1 : Int), v8 = .int .i64 x8_1 ∧ Aside0 (slices_IndexFunc_int64_int64.l0 kq l0 (l0.length : Int) x8_1 = some r) ∧ Aside0 (kq ≤ k) ∧ Drawn0 w w')
  case atStart => exact ⟨(0), (by first | rfl | (simp; done) | (simp [*]; done)), H', ⟨Nat.le_refl _⟩, by repeat (first | exact Drawn0.refl _ | apply Drawn0.step)⟩
  case round =>
    clear H'
    try clear p2
    obtain ⟨x8_1, rfl, HA, HK1, ⟨m1, rfl⟩⟩ := hrel
    cases gk with
    | zero => exact absurd HA.out (by simp [slices_IndexFunc_int64_int64.l0])
    | succ k1 =>
      have H := HA.out
      clear HA
      simp only [slices_IndexFunc_int64_int64.l0] at H
      by_cases c3 : x8_1 < (l0.length : Int)
      · rw [if_pos c3] at H
        have c3b0 : decide (x8_1 < (l0.length : Int)) = true := decide_eq_true c3
        clear c3
        by_cases c4 : 0 ≤ x8_1
        · rw [if_pos c4] at H
          have c4b0 : decide (0 ≤ x8_1) = true := decide_eq_true c4
          clear c4
          by_cases c5 : x8_1 < (l0.length : Int)
          · rw [if_pos c5] at H
            have c5b0 : decide (x8_1 < (l0.length : Int)) = true := decide_eq_true c5
            clear c5
            replace H := Option.bind_eq_some_iff.mp H
            obtain ⟨t120, A60, H⟩ := H
            replace H : (if t120 = true then (some x8_1) else (slices_IndexFunc_int64_int64.l0 k1 l0 (l0.length : Int) (wrap64 (x8_1 + 1)))) = some r := H
            have A6 := Aside0.mk A60
            clear A60
            by_cases c7 : t120 = true
            · subst c7
              have H1 : (some x8_1) = some r := by rw [if_pos rfl] at H; exact H
              clear H
              have H := H1
              clear H1
              obtain rfl := Option.some.inj H
              have p119 : 0 ≤ (x8_1 : Int) := of_decide_eq_true (by first | (with_reducible assumption) | assumption)
              have q119 : x8_1 < (l0.length : Int) := of_decide_eq_true (by first | (with_reducible assumption) | assumption)
              obtain ⟨ad119, e119, hx119_0⟩ := Kd.at_int HR0.out x8_1 p119 q119
              cases e119
              replace p119 := eq_true p119
              replace q119 := eq_true q119
              go_wp2_with (first | ((with_reducible refine gate_dst (N := 16) rfl ?_); refine goesV_ (some 16) rfl rfl HCF.out.hf HCF.out.hname HCF.out.hb #[.int .i64 (rd l0 x8_1)] rfl rfl (by (try simp only [List.map_toArray, List.map_cons, List.map_nil]); first | done | rfl | (simp only [List.length_drop, List.length_take]; rfl)) ?_; (refine (HCL.out (rd l0 x8_1) true _ A6.out (by repeat (first | (with_reducible first | exact HB.out | apply below_alloc | apply pw_below_drewN | apply below_drew1) | exact HB.out | exact Below.refl _ _))).mono ?_); rintro e w' ⟨rfl, ⟨nd, rfl⟩⟩; refine ⟨_, rfl, ?_⟩))
              go_ret
              exact ⟨by first | rfl | (simp; done) | (simp [*]; done), by repeat (first | exact Drawn0.refl _ | apply Drawn0.step)⟩
            · replace c7 := Bool.eq_false_iff.mpr c7
              subst c7
              have H1 : (slices_IndexFunc_int64_int64.l0 k1 l0 (l0.length : Int) (wrap64 (x8_1 + 1))) = some r := by rw [if_neg (show ¬ (false = true) by decide)] at H; exact H
              clear H
              have H := H1
              clear H1
              have H' := Aside0.mk H
              clear H
              have p119 : 0 ≤ (x8_1 : Int) := of_decide_eq_true (by first | (with_reducible assumption) | assumption)
              have q119 : x8_1 < (l0.length : Int) := of_decide_eq_true (by first | (with_reducible assumption) | assumption)
              obtain ⟨ad119, e119, hx119_0⟩ := Kd.at_int HR0.out x8_1 p119 q119
              cases e119
              replace p119 := eq_true p119
              replace q119 := eq_true q119
              go_wp2_with (first | ((with_reducible refine gate_dst (N := 16) rfl ?_); refine goesV_ (some 16) rfl rfl HCF.out.hf HCF.out.hname HCF.out.hb #[.int .i64 (rd l0 x8_1)] rfl rfl (by (try simp only [List.map_toArray, List.map_cons, List.map_nil]); first | done | rfl | (simp only [List.length_drop, List.length_take]; rfl)) ?_; (refine (HCL.out (rd l0 x8_1) false _ A6.out (by repeat (first | (with_reducible first | exact HB.out | apply below_alloc | apply pw_below_drewN | apply below_drew1) | exact HB.out | exact Below.refl _ _))).mono ?_); rintro e w' ⟨rfl, ⟨nd, rfl⟩⟩; refine ⟨_, rfl, ?_⟩))
              go_roundg k1
              case measure => have := HK1.out; omega
              case rel => exact ⟨(wrap64 (x8_1 + 1)), (by first | rfl | (simp; done) | (simp [*]; done)), H', ⟨by have := HK1.out; omega⟩, by repeat (first | exact Drawn0.refl _ | apply Drawn0.step)⟩
          · rw [if_neg c5] at H
            exact absurd H (by simp)
        · rw [if_neg c4] at H
          exact absurd H (by simp)
      · rw [if_neg c3] at H
        have c3b0 : decide (x8_1 < (l0.length : Int)) = false := decide_eq_false c3
        clear c3
        obtain rfl := Option.some.inj H
        go_wp2
        go_ret
        exact ⟨by first | rfl | (simp; done) | (simp [*]; done), by repeat (first | exact Drawn0.refl _ | apply Drawn0.step)⟩
end
end Go.Proofs.Ytojpibpjieanhaa.X
end
section
/- The program's areMoves over the library's search with a closure: what it answers. Conditions: none. -/
namespace Go.Proofs.Ytojpibpjieanhaa.X
open Go.RowKit Go.Proofs.YtojpibpjieanhaaW.PrintWords Go.Proofs.YtojpibpjieanhaaW.PrintLast Go.Proofs.YtojpibpjieanhaaW.PrintMore
set_option linter.unusedVariables false
set_option linter.unusedSimpArgs false
theorem drawn_trans {a b c : World} (h : Drawn0 a b) (k : Drawn0 b c) : Drawn0 a c := by
  obtain ⟨m, rfl⟩ := h
  obtain ⟨n, rfl⟩ := k
  exact ⟨m + n, by simp [World.drewN, Nat.add_assoc]⟩
abbrev areC : C_slices_IndexFunc_int64_int64 := ⟨fun x => some (!decide (-20 ≤ x ∧ x ≤ 20))⟩
set_option maxHeartbeats 4000000 in
set_option maxRecDepth 100000 in
theorem AreClo0 (x : Int) (b : Bool) (w : World) (h : impl_within.f x (-20) 20 = some b) : Calls Try.prog 77 #[.int .i64 x] w fun e w' => e = .returned (.bool !b) ∧ Drawn0 w w' := by
  have H := Aside0.mk h
  clear h
  have HD := Aside0.mk (Drawn0.refl w)
  go_enter Try.func77, Try.ntmps77
  go_wp2_with (first
    | (go_at_call 47; (with_reducible refine (impl_within.calls x (-20) 20 _ _ H.out).mono ?_); rintro e wn ⟨rfl, hb⟩; have n0_ := Aside0.mk (drawn_trans HD.out hb); clear HD hb; have HD := n0_; clear n0_))
  go_ret
  exact ⟨rfl, HD.out⟩
theorem AreClo (x : Int) (w : World) : Calls Try.prog 77 #[.int .i64 x] w fun e w' => e = .returned (.bool (!decide (-20 ≤ x ∧ x ≤ 20))) ∧ Drawn0 w w' :=
  AreClo0 x _ w (by unfold impl_within.f; by_cases h : x ≥ -20 <;> simp [h] <;> omega)
set_option maxHeartbeats 4000000 in
set_option maxRecDepth 100000 in
theorem AreHas (k : Nat) (A : Option Addr) (c : Nat) (l : List Int) (r : Int) (w : World) (hr : Kd.C (Kd.int .i64) w A l.length l) (hc : l.length ≤ c) (h : @slices_IndexFunc_int64_int64.f areC k l 0 = some r) :
    Calls Try.prog 76 #[.slice A l.length c, .func (.func 77) #[] #[]] w fun e w' => e = .returned (.bool (decide (r ≥ 0))) ∧ Drawn0 w w' := by
  have H := Aside0.mk h
  have HR := Aside0.mk hr
  have HC := Aside0.mk hc
  clear h hr hc
  have HD := Aside0.mk (Drawn0.refl w)
  go_enter Try.func76, Try.ntmps76
  go_wp2_with (first
    | (go_at_call 99; refine (@slices_IndexFunc_int64_int64.calls areC k A c l 0 r 77 Try.f77 #[] ⟨Try.func77, rfl, by kernel_rfl⟩ _ ?hcl HR.out HC.out H.out).mono ?_; (case hcl => exact fun x r W hx _ => by obtain rfl := Option.some.inj hx; exact AreClo x W); rintro e wn ⟨rfl, hb⟩; have n0_ := Aside0.mk (drawn_trans HD.out hb); clear HD hb; have HD := n0_; clear n0_))
  go_ret
  exact ⟨rfl, HD.out⟩
def impl_areMoves.f (k : Nat) (l : List Int) : Option Bool := (@slices_IndexFunc_int64_int64.f areC k l 0).bind fun i => some (!decide (i ≥ 0))
theorem impl_areMoves.mono : ∀ l k, LeO (impl_areMoves.f k l) (impl_areMoves.f (k + 1) l) := by
  intro l k
  unfold impl_areMoves.f
  exact LeO.bind (@slices_IndexFunc_int64_int64.mono areC l 0 k) (fun _ => LeO.refl _)
set_option maxHeartbeats 4000000 in
set_option maxRecDepth 100000 in
theorem impl_areMoves.calls (k : Nat) (A : Option Addr) (c : Nat) (l : List Int) (r : Bool) (w : World) (hr : Kd.C (Kd.int .i64) w A l.length l) (hc : l.length ≤ c) (h : impl_areMoves.f k l = some r) :
    Calls Try.prog 48 #[.slice A l.length c] w fun e w' => e = .returned (.bool r) ∧ Drawn0 w w' := by
  unfold impl_areMoves.f at h
  obtain ⟨i, hi, h⟩ := Option.bind_eq_some_iff.mp h
  obtain rfl := Option.some.inj h
  have H := Aside0.mk hi
  have HR := Aside0.mk hr
  have HC := Aside0.mk hc
  clear h hr hc hi
  have HD := Aside0.mk (Drawn0.refl w)
  go_enter Try.func48, Try.ntmps48
  go_wp2_with (first
    | (go_at_call 76; (with_reducible refine (AreHas k A c l i _ HR.out HC.out H.out).mono ?_); rintro e wn ⟨rfl, hb⟩; have n0_ := Aside0.mk (drawn_trans HD.out hb); clear HD hb; have HD := n0_; clear n0_))
  go_ret
  exact ⟨rfl, HD.out⟩
end Go.Proofs.Ytojpibpjieanhaa.X
end
section
-- Written by a program of this session out of the kit's print of the loaded functions: a plain function of a Go function, and its contract.
namespace Go.Proofs.Ytojpibpjieanhaa.X
open Go.RowKit Go.Proofs.YtojpibpjieanhaaW.PrintWords Go.Proofs.YtojpibpjieanhaaW.PrintLast Go.Proofs.YtojpibpjieanhaaW.PrintMore
attribute [local go_sem] max2_int min2_int max_two min_two max_three min_three max_four min_four   -- for this text's walks alone
set_option linter.unusedVariables false
set_option linter.unusedSimpArgs false
/-! ### impl_isDelay: function 82 -/
def impl_isDelay.f (a0 : Int) : Option (Bool) := (impl_within.f a0 0 100).bind fun t806 => (some t806)
set_option maxHeartbeats 8000000 in
set_option maxRecDepth 100000 in
theorem impl_isDelay.calls (a0 : Int) (r : Bool) (w : World) (h : impl_isDelay.f a0 = some r) :
    Calls Try.prog 82 #[.int .i64 a0] w fun e w' => e = .returned (.bool r) ∧ Drawn0 w w' := by
  have H : ((impl_within.f a0 0 100).bind fun t806 => (some t806)) = some r := h
  clear h
  replace H := Option.bind_eq_some_iff.mp H
  obtain ⟨t806, A20, H⟩ := H
  replace H : (some t806) = some r := H
  have A2 := Aside0.mk A20
  clear A20
  obtain rfl := Option.some.inj H
  go_enter Try.func82, Try.ntmps82
  go_wp2_with (first | ((with_reducible refine gate_callee (f := 47) rfl ?_); refine goesL_ (some 4) rfl rfl Try.func47 (by kernel_rfl) rfl #[.int .i64 a0, .int .i64 0, .int .i64 100] rfl (by (try simp only [List.map_toArray, List.map_cons, List.map_nil]); first | done | rfl | (simp only [List.length_drop, List.length_take]; rfl)) ?_; (with_reducible refine (impl_within.calls a0 0 100 t806 _ A2.out).mono ?_); rintro e w' ⟨rfl, ⟨nd, rfl⟩⟩; refine ⟨_, rfl, ?_⟩))
  go_ret
  exact ⟨by first | rfl | (simp; done) | (simp [*]; done), by repeat (first | exact Drawn0.refl _ | apply Drawn0.step)⟩
end Go.Proofs.Ytojpibpjieanhaa.X
end
section
-- Written by a program of this session out of the kit's print of the loaded functions: a plain function of a Go function, and its contract.
namespace Go.Proofs.Ytojpibpjieanhaa.X
open Go.RowKit Go.Proofs.YtojpibpjieanhaaW.PrintWords Go.Proofs.YtojpibpjieanhaaW.PrintLast Go.Proofs.YtojpibpjieanhaaW.PrintMore
attribute [local go_sem] max2_int min2_int max_two min_two max_three min_three max_four min_four   -- for this text's walks alone
set_option linter.unusedVariables false
set_option linter.unusedSimpArgs false
class C_impl_Wire_102 where
  f : Int → Int → Int → Option Bool
section
variable [C_impl_Wire_102]
/-! ### impl_Wire_102: function 102 -/
def impl_Wire_102.l0 : Nat → List (S55) → Int → Int → Option (Int)
  | 0, _, _, _ => none
  | k + 1, x0, x7, x8 => if x8 < x7 then (if 0 ≤ x8 then (if x8 < (x0.length : Int) then ((C_impl_Wire_102.f ((rd_T55 x0 x8).f0) ((rd_T55 x0 x8).f1) ((rd_T55 x0 x8).f2)).bind fun t244 => (if t244 = true then (some x8) else (impl_Wire_102.l0 k x0 x7 (wrap64 (x8 + 1))))) else (none)) else (none)) else (some (-1))
def impl_Wire_102.f (k : Nat) (l0 : List (S55)) (a1 : Int) : Option (Int) := impl_Wire_102.l0 k l0 (l0.length : Int) 0
theorem impl_Wire_102.mono_l : ∀ k, (∀ y0 y1 y2, LeO (impl_Wire_102.l0 k y0 y1 y2) (impl_Wire_102.l0 (k + 1) y0 y1 y2))
  | 0 => fun _ _ _ r h => by simp [impl_Wire_102.l0] at h
  | k + 1 => by
    have ih0 := impl_Wire_102.mono_l k
    · intro y0 y1 y2
      unfold impl_Wire_102.l0
      repeat' first
      | (with_reducible exact ih0 _ _ _)
      | (with_reducible exact LeO.refl _)
      | (with_reducible exact LeO.none _)
      | (with_reducible refine LeO.ite ?_ ?_)
      | (with_reducible refine LeO.bind ?_ (fun _ => ?_))
      | exact ih0 _ _ _
      | exact LeO.none _
      | refine LeO.ite ?_ ?_
      | refine LeO.bind ?_ (fun _ => ?_)
theorem impl_Wire_102.mono : ∀ a0 a1 k, LeO (impl_Wire_102.f k a0 a1) (impl_Wire_102.f (k + 1) a0 a1) := by
  intro a0 a1 k
  have ih0 := impl_Wire_102.mono_l k
  unfold impl_Wire_102.f
  repeat' first
      | (with_reducible exact ih0 _ _ _)
      | (with_reducible exact LeO.refl _)
      | (with_reducible exact LeO.none _)
      | (with_reducible refine LeO.ite ?_ ?_)
      | (with_reducible refine LeO.bind ?_ (fun _ => ?_))
      | exact ih0 _ _ _
      | exact LeO.none _
      | refine LeO.ite ?_ ?_
      | refine LeO.bind ?_ (fun _ => ?_)
set_option maxHeartbeats 8000000 in
set_option maxRecDepth 100000 in
theorem impl_Wire_102.calls (k : Nat) (A0 : Option Addr) (c0 : Nat) (l0 : List (S55)) (a1 : Int) (r : Int) (cf : Nat) (cfn : Func) (caps : Array Value) (hcf : CloIs Try.prog cf cfn) (w : World) (hcl : ∀ x0 x1 x2 r W, C_impl_Wire_102.f x0 x1 x2 = some r → Below w.heap.size w W → Calls Try.prog cf (#[.agg #[.int .i64 x0, .int .i64 x1, .int .i64 x2]] ++ caps) W fun e w' => e = .returned (.bool r) ∧ Below W.heap.size W w') (hr0 : Kd.C k55 w A0 l0.length l0) (hc0 : l0.length ≤ c0) (h : impl_Wire_102.f k l0 a1 = some r) :
    Calls Try.prog 102 #[.slice A0 l0.length c0, .func (.func cf) #[] caps] w fun e w' => e = .returned (.int .i64 r) ∧ Below w.heap.size w w' := by
  have HCF := Aside0.mk hcf
  have HCL := Aside0.mk hcl
  clear hcf hcl
  have hu55 := Try.underlying55
  have HR0 := Aside0.mk hr0
  have HC0 := Aside0.mk hc0
  clear hr0 hc0
  have HB := Aside0.mk (Below.refl w.heap.size w)
  have H : (impl_Wire_102.l0 k l0 (l0.length : Int) 0) = some r := h
  clear h
  have H' := Aside0.mk H
  clear H
  go_enter Try.func102, Try.ntmps102
  go_wp2
  go_loopg [8] k (fun kq v8 w' => ∃ (x8_1 : Int), v8 = .int .i64 x8_1 ∧ Aside0 (impl_Wire_102.l0 kq l0 (l0.length : Int) x8_1 = some r) ∧ Aside0 (kq ≤ k) ∧ Aside0 (Below w.heap.size w w'))
  case atStart => exact ⟨(0), (by first | rfl | (simp; done) | (simp [*]; done)), H', ⟨Nat.le_refl _⟩, ⟨by repeat (first | (with_reducible first | exact HB.out | apply below_alloc | apply pw_below_drewN | apply below_drew1) | exact HB.out)⟩⟩
  case round =>
    clear H'
    try clear c1
    try clear p2
    obtain ⟨x8_1, rfl, HA, HK1, HB⟩ := hrel
    cases gk with
    | zero => exact absurd HA.out (by simp [impl_Wire_102.l0])
    | succ k1 =>
      have H := HA.out
      clear HA
      simp only [impl_Wire_102.l0] at H
      by_cases c3 : x8_1 < (l0.length : Int)
      · rw [if_pos c3] at H
        have c3b0 : decide (x8_1 < (l0.length : Int)) = true := decide_eq_true c3
        clear c3
        by_cases c4 : 0 ≤ x8_1
        · rw [if_pos c4] at H
          have c4b0 : decide (0 ≤ x8_1) = true := decide_eq_true c4
          clear c4
          by_cases c5 : x8_1 < (l0.length : Int)
          · rw [if_pos c5] at H
            have c5b0 : decide (x8_1 < (l0.length : Int)) = true := decide_eq_true c5
            clear c5
            replace H := Option.bind_eq_some_iff.mp H
            obtain ⟨t244, A60, H⟩ := H
            replace H : (if t244 = true then (some x8_1) else (impl_Wire_102.l0 k1 l0 (l0.length : Int) (wrap64 (x8_1 + 1)))) = some r := H
            have A6 := Aside0.mk A60
            clear A60
            by_cases c7 : t244 = true
            · subst c7
              have H1 : (some x8_1) = some r := by rw [if_pos rfl] at H; exact H
              clear H
              have H := H1
              clear H1
              obtain rfl := Option.some.inj H
              have p243 : 0 ≤ (x8_1 : Int) := of_decide_eq_true (by first | (with_reducible assumption) | assumption)
              have q243 : x8_1 < (l0.length : Int) := of_decide_eq_true (by first | (with_reducible assumption) | assumption)
              obtain ⟨ad243, e243, hx243_0, hx243_1, hx243_2⟩ := at_T55 HR0.out x8_1 p243 q243
              cases e243
              replace hx243_0 := (HB.out.cell (World.block_lt_of_cell? w _ hx243_0)).trans hx243_0
              replace hx243_1 := (HB.out.cell (World.block_lt_of_cell? w _ hx243_1)).trans hx243_1
              replace hx243_2 := (HB.out.cell (World.block_lt_of_cell? w _ hx243_2)).trans hx243_2
              replace p243 := eq_true p243
              replace q243 := eq_true q243
              go_wp2_with (first | ((with_reducible refine gate_dst (N := 16) rfl ?_); refine goesV_ (some 16) rfl rfl HCF.out.hf HCF.out.hname HCF.out.hb #[.agg #[.int .i64 ((rd_T55 l0 x8_1).f0), .int .i64 ((rd_T55 l0 x8_1).f1), .int .i64 ((rd_T55 l0 x8_1).f2)]] rfl rfl (by (try simp only [List.map_toArray, List.map_cons, List.map_nil]); first | done | rfl | (simp only [List.length_drop, List.length_take]; rfl)) ?_; (refine (HCL.out ((rd_T55 l0 x8_1).f0) ((rd_T55 l0 x8_1).f1) ((rd_T55 l0 x8_1).f2) true _ A6.out (by repeat (first | (with_reducible first | exact HB.out | apply below_alloc | apply pw_below_drewN | apply below_drew1) | exact HB.out | exact Below.refl _ _))).mono ?_); rintro e w8 ⟨rfl, hb⟩; refine ⟨_, rfl, ?_⟩; have n0_ := Aside0.mk (below_step (by repeat (first | (with_reducible first | exact HB.out | apply below_alloc | apply pw_below_drewN | apply below_drew1) | exact HB.out)) hb); clear HB; have HB := n0_; clear n0_; (try clear hb); (try clear hb2); (try clear hk); (try clear hi)))
              go_ret
              exact ⟨by first | rfl | (simp [errW_none, errW_some] <;> rfl) | (simp [*, errW_none, errW_some] <;> rfl), by repeat (first | (with_reducible first | exact HB.out | apply below_alloc | apply pw_below_drewN | apply below_drew1) | exact HB.out)⟩
            · replace c7 := Bool.eq_false_iff.mpr c7
              subst c7
              have H1 : (impl_Wire_102.l0 k1 l0 (l0.length : Int) (wrap64 (x8_1 + 1))) = some r := by rw [if_neg (show ¬ (false = true) by decide)] at H; exact H
              clear H
              have H := H1
              clear H1
              have H' := Aside0.mk H
              clear H
              have p243 : 0 ≤ (x8_1 : Int) := of_decide_eq_true (by first | (with_reducible assumption) | assumption)
              have q243 : x8_1 < (l0.length : Int) := of_decide_eq_true (by first | (with_reducible assumption) | assumption)
              obtain ⟨ad243, e243, hx243_0, hx243_1, hx243_2⟩ := at_T55 HR0.out x8_1 p243 q243
              cases e243
              replace hx243_0 := (HB.out.cell (World.block_lt_of_cell? w _ hx243_0)).trans hx243_0
              replace hx243_1 := (HB.out.cell (World.block_lt_of_cell? w _ hx243_1)).trans hx243_1
              replace hx243_2 := (HB.out.cell (World.block_lt_of_cell? w _ hx243_2)).trans hx243_2
              replace p243 := eq_true p243
              replace q243 := eq_true q243
              go_wp2_with (first | ((with_reducible refine gate_dst (N := 16) rfl ?_); refine goesV_ (some 16) rfl rfl HCF.out.hf HCF.out.hname HCF.out.hb #[.agg #[.int .i64 ((rd_T55 l0 x8_1).f0), .int .i64 ((rd_T55 l0 x8_1).f1), .int .i64 ((rd_T55 l0 x8_1).f2)]] rfl rfl (by (try simp only [List.map_toArray, List.map_cons, List.map_nil]); first | done | rfl | (simp only [List.length_drop, List.length_take]; rfl)) ?_; (refine (HCL.out ((rd_T55 l0 x8_1).f0) ((rd_T55 l0 x8_1).f1) ((rd_T55 l0 x8_1).f2) false _ A6.out (by repeat (first | (with_reducible first | exact HB.out | apply below_alloc | apply pw_below_drewN | apply below_drew1) | exact HB.out | exact Below.refl _ _))).mono ?_); rintro e w9 ⟨rfl, hb⟩; refine ⟨_, rfl, ?_⟩; have n0_ := Aside0.mk (below_step (by repeat (first | (with_reducible first | exact HB.out | apply below_alloc | apply pw_below_drewN | apply below_drew1) | exact HB.out)) hb); clear HB; have HB := n0_; clear n0_; (try clear hb); (try clear hb2); (try clear hk); (try clear hi)))
              go_roundg k1
              case measure => have := HK1.out; omega
              case rel => exact ⟨(wrap64 (x8_1 + 1)), (by first | rfl | (simp; done) | (simp [*]; done)), H', ⟨by have := HK1.out; omega⟩, ⟨by repeat (first | (with_reducible first | exact HB.out | apply below_alloc | apply pw_below_drewN | apply below_drew1) | exact HB.out)⟩⟩
          · rw [if_neg c5] at H
            exact absurd H (by simp)
        · rw [if_neg c4] at H
          exact absurd H (by simp)
      · rw [if_neg c3] at H
        have c3b0 : decide (x8_1 < (l0.length : Int)) = false := decide_eq_false c3
        clear c3
        obtain rfl := Option.some.inj H
        go_wp2
        go_ret
        exact ⟨by first | rfl | (simp [errW_none, errW_some] <;> rfl) | (simp [*, errW_none, errW_some] <;> rfl), by repeat (first | (with_reducible first | exact HB.out | apply below_alloc | apply pw_below_drewN | apply below_drew1) | exact HB.out)⟩
end
end Go.Proofs.Ytojpibpjieanhaa.X
end
section
/- The program's isFlow: what it answers. Conditions: none. -/
namespace Go.Proofs.Ytojpibpjieanhaa.X
open Go.RowKit Go.Proofs.YtojpibpjieanhaaW.PrintWords Go.Proofs.YtojpibpjieanhaaW.PrintLast Go.Proofs.YtojpibpjieanhaaW.PrintMore
set_option linter.unusedVariables false
set_option linter.unusedSimpArgs false
set_option maxHeartbeats 4000000 in
set_option maxRecDepth 100000 in
/-- The library's search over whole numbers, with a quiet closure. -/
theorem has76 [C_slices_IndexFunc_int64_int64] (k : Nat) (A : Option Addr) (c : Nat) (l : List Int) (r : Int) (cf : Nat) (cfn : Func) (caps : Array Value) (hcf : CloIs Try.prog cf cfn) (w : World)
    (hcl : ∀ x r W, C_slices_IndexFunc_int64_int64.f x = some r → Below w.heap.size w W → Calls Try.prog cf (#[.int .i64 x] ++ caps) W fun e w' => e = .returned (.bool r) ∧ Drawn0 W w')
    (hr : Kd.C (Kd.int .i64) w A l.length l) (hc : l.length ≤ c) (h : slices_IndexFunc_int64_int64.f k l 0 = some r) :
    Calls Try.prog 76 #[.slice A l.length c, .func (.func cf) #[] caps] w fun e w' => e = .returned (.bool (decide (r ≥ 0))) ∧ Drawn0 w w' := by
  have H := Aside0.mk h
  have HR := Aside0.mk hr
  have HC := Aside0.mk hc
  have HF := Aside0.mk hcf
  have HL := Aside0.mk hcl
  clear h hr hc hcf hcl
  have HD := Aside0.mk (Drawn0.refl w)
  go_enter Try.func76, Try.ntmps76
  go_wp2_with (first
    | (go_at_call 99; refine (slices_IndexFunc_int64_int64.calls k A c l 0 r cf cfn caps HF.out _ HL.out HR.out HC.out H.out).mono ?_; rintro e wn ⟨rfl, hb⟩; have n0_ := Aside0.mk (drawn_trans HD.out hb); clear HD hb; have HD := n0_; clear n0_))
  go_ret
  exact ⟨rfl, HD.out⟩
set_option maxHeartbeats 4000000 in
set_option maxRecDepth 100000 in
/-- .. over wires, with a closure that may make memory. -/
theorem has83 [C_impl_Wire_102] (k : Nat) (A : Option Addr) (c : Nat) (l : List S55) (r : Int) (cf : Nat) (cfn : Func) (caps : Array Value) (hcf : CloIs Try.prog cf cfn) (w : World)
    (hcl : ∀ x0 x1 x2 r W, C_impl_Wire_102.f x0 x1 x2 = some r → Below w.heap.size w W → Calls Try.prog cf (#[.agg #[.int .i64 x0, .int .i64 x1, .int .i64 x2]] ++ caps) W fun e w' => e = .returned (.bool r) ∧ Below W.heap.size W w')
    (hr : Kd.C k55 w A l.length l) (hc : l.length ≤ c) (h : impl_Wire_102.f k l 0 = some r) :
    Calls Try.prog 83 #[.slice A l.length c, .func (.func cf) #[] caps] w fun e w' => e = .returned (.bool (decide (r ≥ 0))) ∧ Below w.heap.size w w' := by
  have H := Aside0.mk h
  have HR := Aside0.mk hr
  have HC := Aside0.mk hc
  have HF := Aside0.mk hcf
  have HL := Aside0.mk hcl
  clear h hr hc hcf hcl
  have HB := Aside0.mk (Below.refl w.heap.size w)
  go_enter Try.func83, Try.ntmps83
  go_wp2_with (first
    | (go_at_call 102; refine (impl_Wire_102.calls k A c l 0 r cf cfn caps HF.out _ HL.out HR.out HC.out H.out).mono ?_; rintro e wn ⟨rfl, hb⟩; have n0_ := Aside0.mk (below_step HB.out hb); clear HB hb; have HB := n0_; clear n0_))
  go_ret
  exact ⟨rfl, HB.out⟩
abbrev isDelC : C_slices_IndexFunc_int64_int64 := ⟨fun x => (impl_isDelay.f x).bind fun b => some (!b)⟩
set_option maxHeartbeats 4000000 in
set_option maxRecDepth 100000 in
theorem IsDelClo (x : Int) (b : Bool) (w : World) (h : impl_isDelay.f x = some b) : Calls Try.prog 81 #[.int .i64 x] w fun e w' => e = .returned (.bool !b) ∧ Drawn0 w w' := by
  have H := Aside0.mk h
  clear h
  have HD := Aside0.mk (Drawn0.refl w)
  go_enter Try.func81, Try.ntmps81
  go_wp2_with (first
    | (go_at_call 82; (with_reducible refine (impl_isDelay.calls x b _ H.out).mono ?_); rintro e wn ⟨rfl, hb⟩; have n0_ := Aside0.mk (drawn_trans HD.out hb); clear HD hb; have HD := n0_; clear n0_))
  go_ret
  exact ⟨rfl, HD.out⟩
theorem IsDelCl (w : World) : ∀ x r W, isDelC.f x = some r → Below w.heap.size w W → Calls Try.prog 81 (#[.int .i64 x] ++ #[]) W fun e w' => e = .returned (.bool r) ∧ Drawn0 W w' := by
  intro x r W hx hW
  obtain ⟨b, hb, hx⟩ := Option.bind_eq_some_iff.mp hx
  obtain rfl := Option.some.inj hx
  exact IsDelClo x b W hb
/-- What isFlow asks of a wire: yes if it is none. -/
def badWire (n f t c : Int) : Bool := !(decide (0 ≤ f) && decide (f ≤ n - 1)) || (!(decide (0 ≤ t) && decide (t ≤ n - 1)) || !(decide (0 ≤ c) && decide (c ≤ 20)))
abbrev wireC (n : Int) : C_impl_Wire_102 := ⟨fun f t c => some (badWire n f t c)⟩
theorem within_w (a b c : Int) : impl_within.f a b c = some (decide (b ≤ a) && decide (a ≤ c)) := by
  unfold impl_within.f; by_cases h : a ≥ b <;> simp [h] <;> omega
set_option maxHeartbeats 4000000 in
set_option maxRecDepth 100000 in
theorem WireClo_1 (x0 x1 x2 n : Int) (g1 : Nat) (n0 : 1 ≤ n) (n8 : n ≤ 8) (w : World) (b1 : w.heap[g1]? = some (.cells #[.int .i64 n] 2 (0, 0))) (h1 : impl_within.f x0 0 (n - 1) = some false) :
    Calls Try.prog 84 #[.agg #[.int .i64 x0, .int .i64 x1, .int .i64 x2], .pointer (some ⟨g1, 0, none⟩)] w fun e w' => e = .returned (.bool true) ∧ Below w.heap.size w w' := by
  have Hb1 := Aside0.mk b1
  have Hh1 := Aside0.mk h1
  clear b1 h1
  have HB := Aside0.mk (Below.refl w.heap.size w)
  have BK1 := Hb1
  have e1 : IntKind.i64.wrap (n - 1) = n - 1 := IntWalk.i64_in _ ⟨by omega, by omega⟩
  go_enter Try.func84, Try.ntmps84
  go_wp2_with (first
    | ((with_reducible refine gate_dst (N := 2) rfl ?_); refine box_event ?hg (N := 2) ?hd (cs := #[.int .i64 x0, .int .i64 x1, .int .i64 x2]) (t := 55) ?hr ?_; (case hd => rfl); (case hg => rfl); (case hr => first | (go_simp; done) | (go_simp; rfl)); intro g2 hg wn hbox hb; have GE2 := Aside0.mk (by rw [hg]; exact below_size HB.out : w.heap.size ≤ g2); have hbx := hb; clear hg; have BK20 := Aside0.mk hbox; clear hbox; have n0_ := Aside0.mk (below_step HB.out hb); clear HB  hb; have HB := n0_; clear n0_ ; have BK2 := BK20; clear BK20; have c2_0 : wn.cell? ⟨g2, 0, none⟩ = some (.int .i64 x0) := (blk_cell BK2.out 0).trans rfl; have c2_1 : wn.cell? ⟨g2, 1, none⟩ = some (.int .i64 x1) := (blk_cell BK2.out 1).trans rfl; have c2_2 : wn.cell? ⟨g2, 2, none⟩ = some (.int .i64 x2) := (blk_cell BK2.out 2).trans rfl; have n1_ := Aside0.mk (blk_below BK1.out hbx); clear hbx BK1; have BK1 := n1_; clear n1_; have c1_0 : wn.cell? ⟨g1, 0, none⟩ = some (.int .i64 n) := (blk_cell BK1.out 0).trans rfl)
    | (go_at_call 47; (with_reducible refine (impl_within.calls x0 0 (n - 1) false _ Hh1.out).mono ?_); rintro e wn ⟨rfl, hb0⟩; have hb := to_below_d hb0; have n1_ := Aside0.mk (blk_below BK1.out (hb0.below)); clear hb0; have n0_ := Aside0.mk (below_step HB.out hb); have m2_ := Aside0.mk (blk_below BK2.out hb); clear HB BK2 hb; have HB := n0_; have BK2 := m2_; clear n0_ m2_; have c2_0 : wn.cell? ⟨g2, 0, none⟩ = some (.int .i64 x0) := (blk_cell BK2.out 0).trans rfl; have c2_1 : wn.cell? ⟨g2, 1, none⟩ = some (.int .i64 x1) := (blk_cell BK2.out 1).trans rfl; have c2_2 : wn.cell? ⟨g2, 2, none⟩ = some (.int .i64 x2) := (blk_cell BK2.out 2).trans rfl; clear BK1; have BK1 := n1_; clear n1_; have c1_0 : wn.cell? ⟨g1, 0, none⟩ = some (.int .i64 n) := (blk_cell BK1.out 0).trans rfl))
  go_ret
  exact ⟨rfl, HB.out⟩
set_option maxHeartbeats 4000000 in
set_option maxRecDepth 100000 in
theorem WireClo_2 (x0 x1 x2 n : Int) (g1 : Nat) (n0 : 1 ≤ n) (n8 : n ≤ 8) (w : World) (b1 : w.heap[g1]? = some (.cells #[.int .i64 n] 2 (0, 0))) (h1 : impl_within.f x0 0 (n - 1) = some true) (h2 : impl_within.f x1 0 (n - 1) = some false) :
    Calls Try.prog 84 #[.agg #[.int .i64 x0, .int .i64 x1, .int .i64 x2], .pointer (some ⟨g1, 0, none⟩)] w fun e w' => e = .returned (.bool true) ∧ Below w.heap.size w w' := by
  have Hb1 := Aside0.mk b1
  have Hh1 := Aside0.mk h1
  have Hh2 := Aside0.mk h2
  clear b1 h1 h2
  have HB := Aside0.mk (Below.refl w.heap.size w)
  have BK1 := Hb1
  have e1 : IntKind.i64.wrap (n - 1) = n - 1 := IntWalk.i64_in _ ⟨by omega, by omega⟩
  go_enter Try.func84, Try.ntmps84
  go_wp2_with (first
    | ((with_reducible refine gate_dst (N := 2) rfl ?_); refine box_event ?hg (N := 2) ?hd (cs := #[.int .i64 x0, .int .i64 x1, .int .i64 x2]) (t := 55) ?hr ?_; (case hd => rfl); (case hg => rfl); (case hr => first | (go_simp; done) | (go_simp; rfl)); intro g2 hg wn hbox hb; have GE2 := Aside0.mk (by rw [hg]; exact below_size HB.out : w.heap.size ≤ g2); have hbx := hb; clear hg; have BK20 := Aside0.mk hbox; clear hbox; have n0_ := Aside0.mk (below_step HB.out hb); clear HB  hb; have HB := n0_; clear n0_ ; have BK2 := BK20; clear BK20; have c2_0 : wn.cell? ⟨g2, 0, none⟩ = some (.int .i64 x0) := (blk_cell BK2.out 0).trans rfl; have c2_1 : wn.cell? ⟨g2, 1, none⟩ = some (.int .i64 x1) := (blk_cell BK2.out 1).trans rfl; have c2_2 : wn.cell? ⟨g2, 2, none⟩ = some (.int .i64 x2) := (blk_cell BK2.out 2).trans rfl; have n1_ := Aside0.mk (blk_below BK1.out hbx); clear hbx BK1; have BK1 := n1_; clear n1_; have c1_0 : wn.cell? ⟨g1, 0, none⟩ = some (.int .i64 n) := (blk_cell BK1.out 0).trans rfl)
    | (go_at_call 47; (with_reducible refine (impl_within.calls x0 0 (n - 1) true _ Hh1.out).mono ?_); rintro e wn ⟨rfl, hb0⟩; have hb := to_below_d hb0; have n1_ := Aside0.mk (blk_below BK1.out (hb0.below)); clear hb0; have n0_ := Aside0.mk (below_step HB.out hb); have m2_ := Aside0.mk (blk_below BK2.out hb); clear HB BK2 hb; have HB := n0_; have BK2 := m2_; clear n0_ m2_; have c2_0 : wn.cell? ⟨g2, 0, none⟩ = some (.int .i64 x0) := (blk_cell BK2.out 0).trans rfl; have c2_1 : wn.cell? ⟨g2, 1, none⟩ = some (.int .i64 x1) := (blk_cell BK2.out 1).trans rfl; have c2_2 : wn.cell? ⟨g2, 2, none⟩ = some (.int .i64 x2) := (blk_cell BK2.out 2).trans rfl; clear BK1; have BK1 := n1_; clear n1_; have c1_0 : wn.cell? ⟨g1, 0, none⟩ = some (.int .i64 n) := (blk_cell BK1.out 0).trans rfl)
    | (go_at_call 47; (with_reducible refine (impl_within.calls x1 0 (n - 1) false _ Hh2.out).mono ?_); rintro e wn ⟨rfl, hb0⟩; have hb := to_below_d hb0; have n1_ := Aside0.mk (blk_below BK1.out (hb0.below)); clear hb0; have n0_ := Aside0.mk (below_step HB.out hb); have m2_ := Aside0.mk (blk_below BK2.out hb); clear HB BK2 hb; have HB := n0_; have BK2 := m2_; clear n0_ m2_; have c2_0 : wn.cell? ⟨g2, 0, none⟩ = some (.int .i64 x0) := (blk_cell BK2.out 0).trans rfl; have c2_1 : wn.cell? ⟨g2, 1, none⟩ = some (.int .i64 x1) := (blk_cell BK2.out 1).trans rfl; have c2_2 : wn.cell? ⟨g2, 2, none⟩ = some (.int .i64 x2) := (blk_cell BK2.out 2).trans rfl; clear BK1; have BK1 := n1_; clear n1_; have c1_0 : wn.cell? ⟨g1, 0, none⟩ = some (.int .i64 n) := (blk_cell BK1.out 0).trans rfl))
  go_ret
  exact ⟨rfl, HB.out⟩
set_option maxHeartbeats 4000000 in
set_option maxRecDepth 100000 in
theorem WireClo_3 (x0 x1 x2 n : Int) (g1 : Nat) (n0 : 1 ≤ n) (n8 : n ≤ 8) (b : Bool) (w : World) (b1 : w.heap[g1]? = some (.cells #[.int .i64 n] 2 (0, 0))) (h1 : impl_within.f x0 0 (n - 1) = some true) (h2 : impl_within.f x1 0 (n - 1) = some true) (h3 : impl_within.f x2 0 20 = some b) :
    Calls Try.prog 84 #[.agg #[.int .i64 x0, .int .i64 x1, .int .i64 x2], .pointer (some ⟨g1, 0, none⟩)] w fun e w' => e = .returned (.bool (!b)) ∧ Below w.heap.size w w' := by
  have Hb1 := Aside0.mk b1
  have Hh1 := Aside0.mk h1
  have Hh2 := Aside0.mk h2
  have Hh3 := Aside0.mk h3
  clear b1 h1 h2 h3
  have HB := Aside0.mk (Below.refl w.heap.size w)
  have BK1 := Hb1
  have e1 : IntKind.i64.wrap (n - 1) = n - 1 := IntWalk.i64_in _ ⟨by omega, by omega⟩
  go_enter Try.func84, Try.ntmps84
  go_wp2_with (first
    | ((with_reducible refine gate_dst (N := 2) rfl ?_); refine box_event ?hg (N := 2) ?hd (cs := #[.int .i64 x0, .int .i64 x1, .int .i64 x2]) (t := 55) ?hr ?_; (case hd => rfl); (case hg => rfl); (case hr => first | (go_simp; done) | (go_simp; rfl)); intro g2 hg wn hbox hb; have GE2 := Aside0.mk (by rw [hg]; exact below_size HB.out : w.heap.size ≤ g2); have hbx := hb; clear hg; have BK20 := Aside0.mk hbox; clear hbox; have n0_ := Aside0.mk (below_step HB.out hb); clear HB  hb; have HB := n0_; clear n0_ ; have BK2 := BK20; clear BK20; have c2_0 : wn.cell? ⟨g2, 0, none⟩ = some (.int .i64 x0) := (blk_cell BK2.out 0).trans rfl; have c2_1 : wn.cell? ⟨g2, 1, none⟩ = some (.int .i64 x1) := (blk_cell BK2.out 1).trans rfl; have c2_2 : wn.cell? ⟨g2, 2, none⟩ = some (.int .i64 x2) := (blk_cell BK2.out 2).trans rfl; have n1_ := Aside0.mk (blk_below BK1.out hbx); clear hbx BK1; have BK1 := n1_; clear n1_; have c1_0 : wn.cell? ⟨g1, 0, none⟩ = some (.int .i64 n) := (blk_cell BK1.out 0).trans rfl)
    | (go_at_call 47; (with_reducible refine (impl_within.calls x0 0 (n - 1) true _ Hh1.out).mono ?_); rintro e wn ⟨rfl, hb0⟩; have hb := to_below_d hb0; have n1_ := Aside0.mk (blk_below BK1.out (hb0.below)); clear hb0; have n0_ := Aside0.mk (below_step HB.out hb); have m2_ := Aside0.mk (blk_below BK2.out hb); clear HB BK2 hb; have HB := n0_; have BK2 := m2_; clear n0_ m2_; have c2_0 : wn.cell? ⟨g2, 0, none⟩ = some (.int .i64 x0) := (blk_cell BK2.out 0).trans rfl; have c2_1 : wn.cell? ⟨g2, 1, none⟩ = some (.int .i64 x1) := (blk_cell BK2.out 1).trans rfl; have c2_2 : wn.cell? ⟨g2, 2, none⟩ = some (.int .i64 x2) := (blk_cell BK2.out 2).trans rfl; clear BK1; have BK1 := n1_; clear n1_; have c1_0 : wn.cell? ⟨g1, 0, none⟩ = some (.int .i64 n) := (blk_cell BK1.out 0).trans rfl)
    | (go_at_call 47; (with_reducible refine (impl_within.calls x1 0 (n - 1) true _ Hh2.out).mono ?_); rintro e wn ⟨rfl, hb0⟩; have hb := to_below_d hb0; have n1_ := Aside0.mk (blk_below BK1.out (hb0.below)); clear hb0; have n0_ := Aside0.mk (below_step HB.out hb); have m2_ := Aside0.mk (blk_below BK2.out hb); clear HB BK2 hb; have HB := n0_; have BK2 := m2_; clear n0_ m2_; have c2_0 : wn.cell? ⟨g2, 0, none⟩ = some (.int .i64 x0) := (blk_cell BK2.out 0).trans rfl; have c2_1 : wn.cell? ⟨g2, 1, none⟩ = some (.int .i64 x1) := (blk_cell BK2.out 1).trans rfl; have c2_2 : wn.cell? ⟨g2, 2, none⟩ = some (.int .i64 x2) := (blk_cell BK2.out 2).trans rfl; clear BK1; have BK1 := n1_; clear n1_; have c1_0 : wn.cell? ⟨g1, 0, none⟩ = some (.int .i64 n) := (blk_cell BK1.out 0).trans rfl)
    | (go_at_call 47; (with_reducible refine (impl_within.calls x2 0 20 b _ Hh3.out).mono ?_); rintro e wn ⟨rfl, hb0⟩; have hb := to_below_d hb0; have n1_ := Aside0.mk (blk_below BK1.out (hb0.below)); clear hb0; have n0_ := Aside0.mk (below_step HB.out hb); have m2_ := Aside0.mk (blk_below BK2.out hb); clear HB BK2 hb; have HB := n0_; have BK2 := m2_; clear n0_ m2_; have c2_0 : wn.cell? ⟨g2, 0, none⟩ = some (.int .i64 x0) := (blk_cell BK2.out 0).trans rfl; have c2_1 : wn.cell? ⟨g2, 1, none⟩ = some (.int .i64 x1) := (blk_cell BK2.out 1).trans rfl; have c2_2 : wn.cell? ⟨g2, 2, none⟩ = some (.int .i64 x2) := (blk_cell BK2.out 2).trans rfl; clear BK1; have BK1 := n1_; clear n1_; have c1_0 : wn.cell? ⟨g1, 0, none⟩ = some (.int .i64 n) := (blk_cell BK1.out 0).trans rfl))
  go_ret
  exact ⟨rfl, HB.out⟩
theorem WireCl (n : Int) (g1 : Nat) (w : World) (n0 : 1 ≤ n) (n8 : n ≤ 8) (h1 : w.heap[g1]? = some (.cells #[.int .i64 n] 2 (0, 0))) :
    ∀ x0 x1 x2 r W, (wireC n).f x0 x1 x2 = some r → Below w.heap.size w W → Calls Try.prog 84 (#[.agg #[.int .i64 x0, .int .i64 x1, .int .i64 x2]] ++ #[.pointer (some ⟨g1, 0, none⟩)]) W fun e w' => e = .returned (.bool r) ∧ Below W.heap.size W w' := by
  intro x0 x1 x2 r W hx hW
  obtain rfl := Option.some.inj hx
  have hg := blk_below h1 hW
  unfold badWire
  cases q1 : (decide (0 ≤ x0) && decide (x0 ≤ n - 1)) with
  | false => exact WireClo_1 x0 x1 x2 n g1 n0 n8 W hg (by rw [within_w, q1])
  | true =>
    cases q2 : (decide (0 ≤ x1) && decide (x1 ≤ n - 1)) with
    | false => exact WireClo_2 x0 x1 x2 n g1 n0 n8 W hg (by rw [within_w, q1]) (by rw [within_w, q2])
    | true => exact WireClo_3 x0 x1 x2 n g1 n0 n8 _ W hg (by rw [within_w, q1]) (by rw [within_w, q2]) (within_w _ _ _)
set_option maxHeartbeats 4000000 in
set_option maxRecDepth 100000 in
theorem isFlow_1 (k : Nat) (A0 : Option Addr) (c0 : Nat) (l0 : List Int) (A1 : Option Addr) (c1 : Nat) (l1 : List S55) (w : World) (h1 : impl_within.f (l0.length : Int) 1 8 = some false) :
    Calls Try.prog 53 #[.agg #[.slice A0 l0.length c0, .slice A1 l1.length c1]] w fun e w' => e = .returned (.bool false) ∧ Below w.heap.size w w' := by
  have Hh1 := Aside0.mk h1
  clear h1
  have HB := Aside0.mk (Below.refl w.heap.size w)
  go_enter Try.func53, Try.ntmps53
  go_wp2_with (first
    | ((with_reducible refine gate_dst (N := 1) rfl ?_); refine box_event ?hg (N := 1) ?hd (cs := #[.slice A0 l0.length c0, .slice A1 l1.length c1]) (t := 36) ?hr ?_; (case hd => rfl); (case hg => rfl); (case hr => first | (go_simp; done) | (go_simp; rfl)); intro g1 hg wn hbox hb; have GE1 := Aside0.mk (by rw [hg]; exact below_size HB.out : w.heap.size ≤ g1); clear hg; have BK10 := Aside0.mk hbox; clear hbox; have n0_ := Aside0.mk (below_step HB.out hb); clear HB  hb; have HB := n0_; clear n0_ ; have BK1 := BK10; clear BK10; have c1_0 : wn.cell? ⟨g1, 0, none⟩ = some (.slice A0 l0.length c0) := (blk_cell BK1.out 0).trans rfl; have c1_1 : wn.cell? ⟨g1, 1, none⟩ = some (.slice A1 l1.length c1) := (blk_cell BK1.out 1).trans rfl)
    | ((with_reducible refine gate_dst (N := 3) rfl ?_); refine box_event ?hg (N := 3) ?hd (cs := #[.int .i64 0]) (t := 2) ?hr ?_; (case hd => rfl); (case hg => rfl); (case hr => first | (go_simp; done) | (go_simp; rfl)); intro g3 hg wn hbox hb; have GE3 := Aside0.mk (by rw [hg]; exact below_size HB.out : w.heap.size ≤ g3); have NE1_3 := Aside0.mk (show g1 ≠ g3 by have := blk_lt BK1.out; omega); clear hg; have BK30 := Aside0.mk hbox; clear hbox; have n0_ := Aside0.mk (below_step HB.out hb); have m1_ := Aside0.mk (blk_below BK1.out hb); clear HB BK1 hb; have HB := n0_; have BK1 := m1_; clear n0_ m1_; have c1_0 : wn.cell? ⟨g1, 0, none⟩ = some (.slice A0 l0.length c0) := (blk_cell BK1.out 0).trans rfl; have c1_1 : wn.cell? ⟨g1, 1, none⟩ = some (.slice A1 l1.length c1) := (blk_cell BK1.out 1).trans rfl; have BK3 := BK30; clear BK30; have c3_0 : wn.cell? ⟨g3, 0, none⟩ = some (.int .i64 0) := (blk_cell BK3.out 0).trans rfl; have z3_0 := blk_frozen BK3.out 0; have c1s0 : ∀ v, (wn.setCell ⟨g3, 0, none⟩ v).cell? ⟨g1, 0, none⟩ = some (.slice A0 l0.length c0) := fun v => (blk_cell (blk_far BK1.out (p := ⟨g3, 0, none⟩) NE1_3.out v) 0).trans rfl; have c1s1 : ∀ v, (wn.setCell ⟨g3, 0, none⟩ v).cell? ⟨g1, 1, none⟩ = some (.slice A1 l1.length c1) := fun v => (blk_cell (blk_far BK1.out (p := ⟨g3, 0, none⟩) NE1_3.out v) 1).trans rfl)
    | (go_at_call 47; have m1_ := Aside0.mk (blk_far BK1.out (p := ⟨g3, 0, none⟩) NE1_3.out (.int .i64 (l0.length : Int))); have m3_ := Aside0.mk (blk_put BK3.out 0 (.int .i64 (l0.length : Int)) (cs' := #[.int .i64 (l0.length : Int)]) rfl); have n0_ := Aside0.mk (below_set (j := 0) (v := .int .i64 (l0.length : Int)) HB.out GE3.out); clear HB BK1 BK3; have HB := n0_; have BK1 := m1_; have BK3 := m3_; clear n0_ m1_ m3_; (with_reducible refine (impl_within.calls (l0.length : Int) 1 8 false _ Hh1.out).mono ?_); rintro e wn ⟨rfl, hb0⟩; (first | have hb := to_below_d hb0 | have hb := to_below_b hb0); clear hb0; have n0_ := Aside0.mk (below_step HB.out hb); have m1_ := Aside0.mk (blk_below BK1.out hb); have m3_ := Aside0.mk (blk_below BK3.out hb); clear HB BK1 BK3 hb; have HB := n0_; have BK1 := m1_; have BK3 := m3_; clear n0_ m1_ m3_; have c1_0 : wn.cell? ⟨g1, 0, none⟩ = some (.slice A0 l0.length c0) := (blk_cell BK1.out 0).trans rfl; have c1_1 : wn.cell? ⟨g1, 1, none⟩ = some (.slice A1 l1.length c1) := (blk_cell BK1.out 1).trans rfl; have c3_0 : wn.cell? ⟨g3, 0, none⟩ = some (.int .i64 (l0.length : Int)) := (blk_cell BK3.out 0).trans rfl))
  go_ret
  exact ⟨rfl, HB.out⟩
set_option maxHeartbeats 4000000 in
set_option maxRecDepth 100000 in
theorem isFlow_2 (k : Nat) (A0 : Option Addr) (c0 : Nat) (l0 : List Int) (A1 : Option Addr) (c1 : Nat) (l1 : List S55)(f1 : decide (16 < l1.length) = true) (f2 : decide ((16 : Int) < (l1.length : Int)) = true) (w : World) (h1 : impl_within.f (l0.length : Int) 1 8 = some true) :
    Calls Try.prog 53 #[.agg #[.slice A0 l0.length c0, .slice A1 l1.length c1]] w fun e w' => e = .returned (.bool false) ∧ Below w.heap.size w w' := by
  have Hh1 := Aside0.mk h1
  clear h1
  have HB := Aside0.mk (Below.refl w.heap.size w)
  go_enter Try.func53, Try.ntmps53
  go_wp2_with (first
    | ((with_reducible refine gate_dst (N := 1) rfl ?_); refine box_event ?hg (N := 1) ?hd (cs := #[.slice A0 l0.length c0, .slice A1 l1.length c1]) (t := 36) ?hr ?_; (case hd => rfl); (case hg => rfl); (case hr => first | (go_simp; done) | (go_simp; rfl)); intro g1 hg wn hbox hb; have GE1 := Aside0.mk (by rw [hg]; exact below_size HB.out : w.heap.size ≤ g1); clear hg; have BK10 := Aside0.mk hbox; clear hbox; have n0_ := Aside0.mk (below_step HB.out hb); clear HB  hb; have HB := n0_; clear n0_ ; have BK1 := BK10; clear BK10; have c1_0 : wn.cell? ⟨g1, 0, none⟩ = some (.slice A0 l0.length c0) := (blk_cell BK1.out 0).trans rfl; have c1_1 : wn.cell? ⟨g1, 1, none⟩ = some (.slice A1 l1.length c1) := (blk_cell BK1.out 1).trans rfl)
    | ((with_reducible refine gate_dst (N := 3) rfl ?_); refine box_event ?hg (N := 3) ?hd (cs := #[.int .i64 0]) (t := 2) ?hr ?_; (case hd => rfl); (case hg => rfl); (case hr => first | (go_simp; done) | (go_simp; rfl)); intro g3 hg wn hbox hb; have GE3 := Aside0.mk (by rw [hg]; exact below_size HB.out : w.heap.size ≤ g3); have NE1_3 := Aside0.mk (show g1 ≠ g3 by have := blk_lt BK1.out; omega); clear hg; have BK30 := Aside0.mk hbox; clear hbox; have n0_ := Aside0.mk (below_step HB.out hb); have m1_ := Aside0.mk (blk_below BK1.out hb); clear HB BK1 hb; have HB := n0_; have BK1 := m1_; clear n0_ m1_; have c1_0 : wn.cell? ⟨g1, 0, none⟩ = some (.slice A0 l0.length c0) := (blk_cell BK1.out 0).trans rfl; have c1_1 : wn.cell? ⟨g1, 1, none⟩ = some (.slice A1 l1.length c1) := (blk_cell BK1.out 1).trans rfl; have BK3 := BK30; clear BK30; have c3_0 : wn.cell? ⟨g3, 0, none⟩ = some (.int .i64 0) := (blk_cell BK3.out 0).trans rfl; have z3_0 := blk_frozen BK3.out 0; have c1s0 : ∀ v, (wn.setCell ⟨g3, 0, none⟩ v).cell? ⟨g1, 0, none⟩ = some (.slice A0 l0.length c0) := fun v => (blk_cell (blk_far BK1.out (p := ⟨g3, 0, none⟩) NE1_3.out v) 0).trans rfl; have c1s1 : ∀ v, (wn.setCell ⟨g3, 0, none⟩ v).cell? ⟨g1, 1, none⟩ = some (.slice A1 l1.length c1) := fun v => (blk_cell (blk_far BK1.out (p := ⟨g3, 0, none⟩) NE1_3.out v) 1).trans rfl)
    | (go_at_call 47; have m1_ := Aside0.mk (blk_far BK1.out (p := ⟨g3, 0, none⟩) NE1_3.out (.int .i64 (l0.length : Int))); have m3_ := Aside0.mk (blk_put BK3.out 0 (.int .i64 (l0.length : Int)) (cs' := #[.int .i64 (l0.length : Int)]) rfl); have n0_ := Aside0.mk (below_set (j := 0) (v := .int .i64 (l0.length : Int)) HB.out GE3.out); clear HB BK1 BK3; have HB := n0_; have BK1 := m1_; have BK3 := m3_; clear n0_ m1_ m3_; (with_reducible refine (impl_within.calls (l0.length : Int) 1 8 true _ Hh1.out).mono ?_); rintro e wn ⟨rfl, hb0⟩; (first | have hb := to_below_d hb0 | have hb := to_below_b hb0); clear hb0; have n0_ := Aside0.mk (below_step HB.out hb); have m1_ := Aside0.mk (blk_below BK1.out hb); have m3_ := Aside0.mk (blk_below BK3.out hb); clear HB BK1 BK3 hb; have HB := n0_; have BK1 := m1_; have BK3 := m3_; clear n0_ m1_ m3_; have c1_0 : wn.cell? ⟨g1, 0, none⟩ = some (.slice A0 l0.length c0) := (blk_cell BK1.out 0).trans rfl; have c1_1 : wn.cell? ⟨g1, 1, none⟩ = some (.slice A1 l1.length c1) := (blk_cell BK1.out 1).trans rfl; have c3_0 : wn.cell? ⟨g3, 0, none⟩ = some (.int .i64 (l0.length : Int)) := (blk_cell BK3.out 0).trans rfl))
  go_ret
  exact ⟨rfl, HB.out⟩
set_option maxHeartbeats 4000000 in
set_option maxRecDepth 100000 in
theorem isFlow_3 (k : Nat) (A0 : Option Addr) (c0 : Nat) (l0 : List Int) (A1 : Option Addr) (c1 : Nat) (l1 : List S55) (i : Int) (f1 : decide (16 < l1.length) = false) (f2 : decide ((16 : Int) < (l1.length : Int)) = false) (w : World) (hr0 : Kd.C (Kd.int .i64) w A0 l0.length l0) (hc0 : l0.length ≤ c0) (hr1 : Kd.C k55 w A1 l1.length l1) (hc1 : l1.length ≤ c1) (h1 : impl_within.f (l0.length : Int) 1 8 = some true) (hi : @slices_IndexFunc_int64_int64.f isDelC k l0 0 = some i) (hp : decide (i ≥ 0) = true) :
    Calls Try.prog 53 #[.agg #[.slice A0 l0.length c0, .slice A1 l1.length c1]] w fun e w' => e = .returned (.bool false) ∧ Below w.heap.size w w' := by
  have Hhr0 := Aside0.mk hr0
  have Hhc0 := Aside0.mk hc0
  have Hhr1 := Aside0.mk hr1
  have Hhc1 := Aside0.mk hc1
  have Hh1 := Aside0.mk h1
  have Hhi := Aside0.mk hi
  have Hhp := Aside0.mk hp
  clear hr0 hc0 hr1 hc1 h1 hi hp
  have HB := Aside0.mk (Below.refl w.heap.size w)
  have F3 := Hhp
  go_enter Try.func53, Try.ntmps53
  go_wp2_with (first
    | ((with_reducible refine gate_dst (N := 1) rfl ?_); refine box_event ?hg (N := 1) ?hd (cs := #[.slice A0 l0.length c0, .slice A1 l1.length c1]) (t := 36) ?hr ?_; (case hd => rfl); (case hg => rfl); (case hr => first | (go_simp; done) | (go_simp; rfl)); intro g1 hg wn hbox hb; have GE1 := Aside0.mk (by rw [hg]; exact below_size HB.out : w.heap.size ≤ g1); clear hg; have BK10 := Aside0.mk hbox; clear hbox; have n0_ := Aside0.mk (below_step HB.out hb); clear HB  hb; have HB := n0_; clear n0_ ; have BK1 := BK10; clear BK10; have c1_0 : wn.cell? ⟨g1, 0, none⟩ = some (.slice A0 l0.length c0) := (blk_cell BK1.out 0).trans rfl; have c1_1 : wn.cell? ⟨g1, 1, none⟩ = some (.slice A1 l1.length c1) := (blk_cell BK1.out 1).trans rfl)
    | ((with_reducible refine gate_dst (N := 3) rfl ?_); refine box_event ?hg (N := 3) ?hd (cs := #[.int .i64 0]) (t := 2) ?hr ?_; (case hd => rfl); (case hg => rfl); (case hr => first | (go_simp; done) | (go_simp; rfl)); intro g3 hg wn hbox hb; have GE3 := Aside0.mk (by rw [hg]; exact below_size HB.out : w.heap.size ≤ g3); have NE1_3 := Aside0.mk (show g1 ≠ g3 by have := blk_lt BK1.out; omega); clear hg; have BK30 := Aside0.mk hbox; clear hbox; have n0_ := Aside0.mk (below_step HB.out hb); have m1_ := Aside0.mk (blk_below BK1.out hb); clear HB BK1 hb; have HB := n0_; have BK1 := m1_; clear n0_ m1_; have c1_0 : wn.cell? ⟨g1, 0, none⟩ = some (.slice A0 l0.length c0) := (blk_cell BK1.out 0).trans rfl; have c1_1 : wn.cell? ⟨g1, 1, none⟩ = some (.slice A1 l1.length c1) := (blk_cell BK1.out 1).trans rfl; have BK3 := BK30; clear BK30; have c3_0 : wn.cell? ⟨g3, 0, none⟩ = some (.int .i64 0) := (blk_cell BK3.out 0).trans rfl; have z3_0 := blk_frozen BK3.out 0; have c1s0 : ∀ v, (wn.setCell ⟨g3, 0, none⟩ v).cell? ⟨g1, 0, none⟩ = some (.slice A0 l0.length c0) := fun v => (blk_cell (blk_far BK1.out (p := ⟨g3, 0, none⟩) NE1_3.out v) 0).trans rfl; have c1s1 : ∀ v, (wn.setCell ⟨g3, 0, none⟩ v).cell? ⟨g1, 1, none⟩ = some (.slice A1 l1.length c1) := fun v => (blk_cell (blk_far BK1.out (p := ⟨g3, 0, none⟩) NE1_3.out v) 1).trans rfl)
    | (go_at_call 47; have m1_ := Aside0.mk (blk_far BK1.out (p := ⟨g3, 0, none⟩) NE1_3.out (.int .i64 (l0.length : Int))); have m3_ := Aside0.mk (blk_put BK3.out 0 (.int .i64 (l0.length : Int)) (cs' := #[.int .i64 (l0.length : Int)]) rfl); have n0_ := Aside0.mk (below_set (j := 0) (v := .int .i64 (l0.length : Int)) HB.out GE3.out); clear HB BK1 BK3; have HB := n0_; have BK1 := m1_; have BK3 := m3_; clear n0_ m1_ m3_; (with_reducible refine (impl_within.calls (l0.length : Int) 1 8 true _ Hh1.out).mono ?_); rintro e wn ⟨rfl, hb0⟩; (first | have hb := to_below_d hb0 | have hb := to_below_b hb0); clear hb0; have n0_ := Aside0.mk (below_step HB.out hb); have m1_ := Aside0.mk (blk_below BK1.out hb); have m3_ := Aside0.mk (blk_below BK3.out hb); clear HB BK1 BK3 hb; have HB := n0_; have BK1 := m1_; have BK3 := m3_; clear n0_ m1_ m3_; have c1_0 : wn.cell? ⟨g1, 0, none⟩ = some (.slice A0 l0.length c0) := (blk_cell BK1.out 0).trans rfl; have c1_1 : wn.cell? ⟨g1, 1, none⟩ = some (.slice A1 l1.length c1) := (blk_cell BK1.out 1).trans rfl; have c3_0 : wn.cell? ⟨g3, 0, none⟩ = some (.int .i64 (l0.length : Int)) := (blk_cell BK3.out 0).trans rfl)
    | (go_at_call 76; refine (@has76 isDelC k A0 c0 l0 i 81 Try.f81 #[] ⟨Try.func81, rfl, by kernel_rfl⟩ _ (IsDelCl _) (Kd.C_below Hhr0.out HB.out) Hhc0.out Hhi.out).mono ?_; rintro e wn ⟨he, hb0⟩; rw [F3.out] at he; subst he; have hb := to_below_d hb0; clear hb0; have n0_ := Aside0.mk (below_step HB.out hb); have m1_ := Aside0.mk (blk_below BK1.out hb); have m3_ := Aside0.mk (blk_below BK3.out hb); clear HB BK1 BK3 hb; have HB := n0_; have BK1 := m1_; have BK3 := m3_; clear n0_ m1_ m3_; have c1_0 : wn.cell? ⟨g1, 0, none⟩ = some (.slice A0 l0.length c0) := (blk_cell BK1.out 0).trans rfl; have c1_1 : wn.cell? ⟨g1, 1, none⟩ = some (.slice A1 l1.length c1) := (blk_cell BK1.out 1).trans rfl; have c3_0 : wn.cell? ⟨g3, 0, none⟩ = some (.int .i64 (l0.length : Int)) := (blk_cell BK3.out 0).trans rfl))
  go_ret
  exact ⟨rfl, HB.out⟩
set_option maxHeartbeats 4000000 in
set_option maxRecDepth 100000 in
theorem isFlow_4 (k : Nat) (A0 : Option Addr) (c0 : Nat) (l0 : List Int) (A1 : Option Addr) (c1 : Nat) (l1 : List S55) (i j : Int) (f1 : decide (16 < l1.length) = false) (f2 : decide ((16 : Int) < (l1.length : Int)) = false) (w : World) (hr0 : Kd.C (Kd.int .i64) w A0 l0.length l0) (hc0 : l0.length ≤ c0) (hr1 : Kd.C k55 w A1 l1.length l1) (hc1 : l1.length ≤ c1) (h1 : impl_within.f (l0.length : Int) 1 8 = some true) (hi : @slices_IndexFunc_int64_int64.f isDelC k l0 0 = some i) (hp : decide (i ≥ 0) = false) (hj : @impl_Wire_102.f (wireC l0.length) k l1 0 = some j) (n0 : 1 ≤ (l0.length : Int)) (n8 : (l0.length : Int) ≤ 8) :
    Calls Try.prog 53 #[.agg #[.slice A0 l0.length c0, .slice A1 l1.length c1]] w fun e w' => e = .returned (.bool (!decide (j ≥ 0))) ∧ Below w.heap.size w w' := by
  have Hhr0 := Aside0.mk hr0
  have Hhc0 := Aside0.mk hc0
  have Hhr1 := Aside0.mk hr1
  have Hhc1 := Aside0.mk hc1
  have Hh1 := Aside0.mk h1
  have Hhi := Aside0.mk hi
  have Hhp := Aside0.mk hp
  have Hhj := Aside0.mk hj
  have Hn0 := Aside0.mk n0
  have Hn8 := Aside0.mk n8
  clear hr0 hc0 hr1 hc1 h1 hi hp hj n0 n8
  have HB := Aside0.mk (Below.refl w.heap.size w)
  have F3 := Hhp
  go_enter Try.func53, Try.ntmps53
  go_wp2_with (first
    | ((with_reducible refine gate_dst (N := 1) rfl ?_); refine box_event ?hg (N := 1) ?hd (cs := #[.slice A0 l0.length c0, .slice A1 l1.length c1]) (t := 36) ?hr ?_; (case hd => rfl); (case hg => rfl); (case hr => first | (go_simp; done) | (go_simp; rfl)); intro g1 hg wn hbox hb; have GE1 := Aside0.mk (by rw [hg]; exact below_size HB.out : w.heap.size ≤ g1); clear hg; have BK10 := Aside0.mk hbox; clear hbox; have n0_ := Aside0.mk (below_step HB.out hb); clear HB  hb; have HB := n0_; clear n0_ ; have BK1 := BK10; clear BK10; have c1_0 : wn.cell? ⟨g1, 0, none⟩ = some (.slice A0 l0.length c0) := (blk_cell BK1.out 0).trans rfl; have c1_1 : wn.cell? ⟨g1, 1, none⟩ = some (.slice A1 l1.length c1) := (blk_cell BK1.out 1).trans rfl)
    | ((with_reducible refine gate_dst (N := 3) rfl ?_); refine box_event ?hg (N := 3) ?hd (cs := #[.int .i64 0]) (t := 2) ?hr ?_; (case hd => rfl); (case hg => rfl); (case hr => first | (go_simp; done) | (go_simp; rfl)); intro g3 hg wn hbox hb; have GE3 := Aside0.mk (by rw [hg]; exact below_size HB.out : w.heap.size ≤ g3); have NE1_3 := Aside0.mk (show g1 ≠ g3 by have := blk_lt BK1.out; omega); clear hg; have BK30 := Aside0.mk hbox; clear hbox; have n0_ := Aside0.mk (below_step HB.out hb); have m1_ := Aside0.mk (blk_below BK1.out hb); clear HB BK1 hb; have HB := n0_; have BK1 := m1_; clear n0_ m1_; have c1_0 : wn.cell? ⟨g1, 0, none⟩ = some (.slice A0 l0.length c0) := (blk_cell BK1.out 0).trans rfl; have c1_1 : wn.cell? ⟨g1, 1, none⟩ = some (.slice A1 l1.length c1) := (blk_cell BK1.out 1).trans rfl; have BK3 := BK30; clear BK30; have c3_0 : wn.cell? ⟨g3, 0, none⟩ = some (.int .i64 0) := (blk_cell BK3.out 0).trans rfl; have z3_0 := blk_frozen BK3.out 0; have c1s0 : ∀ v, (wn.setCell ⟨g3, 0, none⟩ v).cell? ⟨g1, 0, none⟩ = some (.slice A0 l0.length c0) := fun v => (blk_cell (blk_far BK1.out (p := ⟨g3, 0, none⟩) NE1_3.out v) 0).trans rfl; have c1s1 : ∀ v, (wn.setCell ⟨g3, 0, none⟩ v).cell? ⟨g1, 1, none⟩ = some (.slice A1 l1.length c1) := fun v => (blk_cell (blk_far BK1.out (p := ⟨g3, 0, none⟩) NE1_3.out v) 1).trans rfl)
    | (go_at_call 47; have m1_ := Aside0.mk (blk_far BK1.out (p := ⟨g3, 0, none⟩) NE1_3.out (.int .i64 (l0.length : Int))); have m3_ := Aside0.mk (blk_put BK3.out 0 (.int .i64 (l0.length : Int)) (cs' := #[.int .i64 (l0.length : Int)]) rfl); have n0_ := Aside0.mk (below_set (j := 0) (v := .int .i64 (l0.length : Int)) HB.out GE3.out); clear HB BK1 BK3; have HB := n0_; have BK1 := m1_; have BK3 := m3_; clear n0_ m1_ m3_; (with_reducible refine (impl_within.calls (l0.length : Int) 1 8 true _ Hh1.out).mono ?_); rintro e wn ⟨rfl, hb0⟩; (first | have hb := to_below_d hb0 | have hb := to_below_b hb0); clear hb0; have n0_ := Aside0.mk (below_step HB.out hb); have m1_ := Aside0.mk (blk_below BK1.out hb); have m3_ := Aside0.mk (blk_below BK3.out hb); clear HB BK1 BK3 hb; have HB := n0_; have BK1 := m1_; have BK3 := m3_; clear n0_ m1_ m3_; have c1_0 : wn.cell? ⟨g1, 0, none⟩ = some (.slice A0 l0.length c0) := (blk_cell BK1.out 0).trans rfl; have c1_1 : wn.cell? ⟨g1, 1, none⟩ = some (.slice A1 l1.length c1) := (blk_cell BK1.out 1).trans rfl; have c3_0 : wn.cell? ⟨g3, 0, none⟩ = some (.int .i64 (l0.length : Int)) := (blk_cell BK3.out 0).trans rfl)
    | (go_at_call 76; refine (@has76 isDelC k A0 c0 l0 i 81 Try.f81 #[] ⟨Try.func81, rfl, by kernel_rfl⟩ _ (IsDelCl _) (Kd.C_below Hhr0.out HB.out) Hhc0.out Hhi.out).mono ?_; rintro e wn ⟨he, hb0⟩; rw [F3.out] at he; subst he; have hb := to_below_d hb0; clear hb0; have n0_ := Aside0.mk (below_step HB.out hb); have m1_ := Aside0.mk (blk_below BK1.out hb); have m3_ := Aside0.mk (blk_below BK3.out hb); clear HB BK1 BK3 hb; have HB := n0_; have BK1 := m1_; have BK3 := m3_; clear n0_ m1_ m3_; have c1_0 : wn.cell? ⟨g1, 0, none⟩ = some (.slice A0 l0.length c0) := (blk_cell BK1.out 0).trans rfl; have c1_1 : wn.cell? ⟨g1, 1, none⟩ = some (.slice A1 l1.length c1) := (blk_cell BK1.out 1).trans rfl; have c3_0 : wn.cell? ⟨g3, 0, none⟩ = some (.int .i64 (l0.length : Int)) := (blk_cell BK3.out 0).trans rfl)
    | (go_at_call 83; refine (@has83 (wireC l0.length) k A1 c1 l1 j 84 Try.f84 #[.pointer (some ⟨g3, 0, none⟩)] ⟨Try.func84, rfl, by kernel_rfl⟩ _ (WireCl l0.length g3 _ Hn0.out Hn8.out BK3.out) (Kd.C_below Hhr1.out HB.out) Hhc1.out Hhj.out).mono ?_; rintro e wn ⟨rfl, hb⟩; have n0_ := Aside0.mk (below_step HB.out hb); have m1_ := Aside0.mk (blk_below BK1.out hb); have m3_ := Aside0.mk (blk_below BK3.out hb); clear HB BK1 BK3 hb; have HB := n0_; have BK1 := m1_; have BK3 := m3_; clear n0_ m1_ m3_; have c1_0 : wn.cell? ⟨g1, 0, none⟩ = some (.slice A0 l0.length c0) := (blk_cell BK1.out 0).trans rfl; have c1_1 : wn.cell? ⟨g1, 1, none⟩ = some (.slice A1 l1.length c1) := (blk_cell BK1.out 1).trans rfl; have c3_0 : wn.cell? ⟨g3, 0, none⟩ = some (.int .i64 (l0.length : Int)) := (blk_cell BK3.out 0).trans rfl))
  go_ret
  exact ⟨rfl, HB.out⟩
def impl_isFlow.f (k : Nat) (l0 : List Int) (l1 : List S55) : Option Bool :=
  if 1 ≤ (l0.length : Int) ∧ (l0.length : Int) ≤ 8 then (if 16 < l1.length then some false else (@slices_IndexFunc_int64_int64.f isDelC k l0 0).bind fun i => if i ≥ 0 then some false else (@impl_Wire_102.f (wireC l0.length) k l1 0).bind fun j => some (!decide (j ≥ 0))) else some false
theorem impl_isFlow.mono : ∀ a0 a1 k, LeO (impl_isFlow.f k a0 a1) (impl_isFlow.f (k + 1) a0 a1) := by
  intro l0 l1 k
  unfold impl_isFlow.f
  split
  · split
    · exact LeO.refl _
    · refine LeO.bind (@slices_IndexFunc_int64_int64.mono isDelC l0 0 k) (fun i => ?_)
      split
      · exact LeO.refl _
      · exact LeO.bind (@impl_Wire_102.mono (wireC l0.length) l1 0 k) (fun _ => LeO.refl _)
  · exact LeO.refl _
theorem impl_isFlow.calls (k : Nat) (A0_0 : Option Addr) (c0_0 : Nat) (l0_0 : List Int) (A0_1 : Option Addr) (c0_1 : Nat) (l0_1 : List (S55)) (r : Bool) (w : World) (hr0_0 : Kd.C (Kd.int .i64) w A0_0 l0_0.length l0_0) (hc0_0 : l0_0.length ≤ c0_0) (hr0_1 : Kd.C k55 w A0_1 l0_1.length l0_1) (hc0_1 : l0_1.length ≤ c0_1) (h : impl_isFlow.f k l0_0 l0_1 = some r) :
    Calls Try.prog 53 #[.agg #[.slice A0_0 l0_0.length c0_0, .slice A0_1 l0_1.length c0_1]] w fun e w' => e = .returned (.bool r) ∧ Below w.heap.size w w' := by
  unfold impl_isFlow.f at h
  by_cases hz : 1 ≤ (l0_0.length : Int) ∧ (l0_0.length : Int) ≤ 8
  · rw [if_pos hz] at h
    have hw : impl_within.f (l0_0.length : Int) 1 8 = some true := by rw [within_w]; simp; omega
    by_cases hm : 16 < l0_1.length
    · rw [if_pos hm] at h
      obtain rfl := Option.some.inj h
      exact isFlow_2 k A0_0 c0_0 l0_0 A0_1 c0_1 l0_1 (decide_eq_true hm) (decide_eq_true (by omega)) w hw
    · rw [if_neg hm] at h
      obtain ⟨i, hi, h⟩ := Option.bind_eq_some_iff.mp h
      by_cases hp : i ≥ 0
      · rw [if_pos hp] at h
        obtain rfl := Option.some.inj h
        exact isFlow_3 k A0_0 c0_0 l0_0 A0_1 c0_1 l0_1 i (decide_eq_false hm) (decide_eq_false (by omega)) w hr0_0 hc0_0 hr0_1 hc0_1 hw hi (decide_eq_true hp)
      · rw [if_neg hp] at h
        obtain ⟨j, hj, h⟩ := Option.bind_eq_some_iff.mp h
        obtain rfl := Option.some.inj h
        exact isFlow_4 k A0_0 c0_0 l0_0 A0_1 c0_1 l0_1 i j (decide_eq_false hm) (decide_eq_false (by omega)) w hr0_0 hc0_0 hr0_1 hc0_1 hw hi (decide_eq_false hp) hj hz.1 hz.2
  · rw [if_neg hz] at h
    have hw : impl_within.f (l0_0.length : Int) 1 8 = some false := by rw [within_w]; simp; omega
    obtain rfl := Option.some.inj h
    exact isFlow_1 k A0_0 c0_0 l0_0 A0_1 c0_1 l0_1 w hw
end Go.Proofs.Ytojpibpjieanhaa.X
end
section
-- Written by a program of this session out of the kit's print of the loaded functions: a plain function of a Go function, and its contract.
namespace Go.Proofs.Ytojpibpjieanhaa.X
open Go.RowKit Go.Proofs.YtojpibpjieanhaaW.PrintWords Go.Proofs.YtojpibpjieanhaaW.PrintLast Go.Proofs.YtojpibpjieanhaaW.PrintMore
attribute [local go_sem] max2_int min2_int max_two min_two max_three min_three max_four min_four   -- for this text's walks alone
set_option linter.unusedVariables false
set_option linter.unusedSimpArgs false
/-! ### slices_Index_bool_bool: function 103 -/
def slices_Index_bool_bool.l0 : Nat → List Bool → Bool → Int → Int → Option (Int)
  | 0, _, _, _, _ => none
  | k + 1, x0, x1, x7, x8 => if x8 < x7 then (if 0 ≤ x8 then (if x8 < (x0.length : Int) then (if (x1 == (rdOf false x0 x8)) = true then (some x8) else (slices_Index_bool_bool.l0 k x0 x1 x7 (wrap64 (x8 + 1)))) else (none)) else (none)) else (some (-1))
def slices_Index_bool_bool.f (k : Nat) (l0 : List Bool) (a1 : Bool) : Option (Int) := slices_Index_bool_bool.l0 k l0 a1 (l0.length : Int) 0
theorem slices_Index_bool_bool.mono_l : ∀ k, (∀ y0 y1 y2 y3, LeO (slices_Index_bool_bool.l0 k y0 y1 y2 y3) (slices_Index_bool_bool.l0 (k + 1) y0 y1 y2 y3))
  | 0 => fun _ _ _ _ r h => by simp [slices_Index_bool_bool.l0] at h
  | k + 1 => by
    have ih0 := slices_Index_bool_bool.mono_l k
    · intro y0 y1 y2 y3
      unfold slices_Index_bool_bool.l0
      repeat' first
      | (with_reducible exact ih0 _ _ _ _)
      | (with_reducible exact LeO.refl _)
      | (with_reducible exact LeO.none _)
      | (with_reducible refine LeO.ite ?_ ?_)
      | (with_reducible refine LeO.bind ?_ (fun _ => ?_))
      | exact ih0 _ _ _ _
      | exact LeO.none _
      | refine LeO.ite ?_ ?_
      | refine LeO.bind ?_ (fun _ => ?_)
theorem slices_Index_bool_bool.mono : ∀ a0 a1 k, LeO (slices_Index_bool_bool.f k a0 a1) (slices_Index_bool_bool.f (k + 1) a0 a1) := by
  intro a0 a1 k
  have ih0 := slices_Index_bool_bool.mono_l k
  unfold slices_Index_bool_bool.f
  repeat' first
      | (with_reducible exact ih0 _ _ _ _)
      | (with_reducible exact LeO.refl _)
      | (with_reducible exact LeO.none _)
      | (with_reducible refine LeO.ite ?_ ?_)
      | (with_reducible refine LeO.bind ?_ (fun _ => ?_))
      | exact ih0 _ _ _ _
      | exact LeO.none _
      | refine LeO.ite ?_ ?_
      | refine LeO.bind ?_ (fun _ => ?_)
set_option maxHeartbeats 8000000 in
set_option maxRecDepth 100000 in
theorem slices_Index_bool_bool.calls (k : Nat) (A0 : Option Addr) (c0 : Nat) (l0 : List Bool) (a1 : Bool) (r : Int) (w : World) (hr0 : Kd.C Kd.bool w A0 l0.length l0) (hc0 : l0.length ≤ c0) (h : slices_Index_bool_bool.f k l0 a1 = some r) :
    Calls Try.prog 103 #[.slice A0 l0.length c0, .bool a1] w fun e w' => e = .returned (.int .i64 r) ∧ Drawn0 w w' := by
  have HR0 := Aside0.mk hr0
  have HC0 := Aside0.mk hc0
  clear hr0 hc0
  have H : (slices_Index_bool_bool.l0 k l0 a1 (l0.length : Int) 0) = some r := h
  clear h
  have H' := Aside0.mk H
  clear H
  go_enter Try.func103, Try.ntmps103
  go_wp2
  go_loopg [8] k (fun kq v8 w' => ∃ (x8_1 : Int), v8 = .int .i64 x8_1 ∧ Aside0 (slices_Index_bool_bool.l0 kq l0 a1 (l0.length : Int) x8_1 = some r) ∧ Aside0 (kq ≤ k) ∧ Drawn0 w w')
  case atStart => exact ⟨(0), (by first | rfl | (simp; done) | (simp [*]; done)), H', ⟨Nat.le_refl _⟩, by repeat (first | exact Drawn0.refl _ | apply Drawn0.step)⟩
  case round =>
    clear H'
    try clear c1
    try clear p2
    obtain ⟨x8_1, rfl, HA, HK1, ⟨m1, rfl⟩⟩ := hrel
    cases gk with
    | zero => exact absurd HA.out (by simp [slices_Index_bool_bool.l0])
    | succ k1 =>
      have H := HA.out
      clear HA
      simp only [slices_Index_bool_bool.l0] at H
      by_cases c3 : x8_1 < (l0.length : Int)
      · rw [if_pos c3] at H
        have c3b0 : decide (x8_1 < (l0.length : Int)) = true := decide_eq_true c3
        clear c3
        by_cases c4 : 0 ≤ x8_1
        · rw [if_pos c4] at H
          have c4b0 : decide (0 ≤ x8_1) = true := decide_eq_true c4
          clear c4
          by_cases c5 : x8_1 < (l0.length : Int)
          · rw [if_pos c5] at H
            have c5b0 : decide (x8_1 < (l0.length : Int)) = true := decide_eq_true c5
            clear c5
            by_cases c6 : (a1 == (rdOf false l0 x8_1)) = true
            · rw [if_pos c6] at H
              have c6b0 : (a1 == (rdOf false l0 x8_1)) = true := c6
              (try (have c6b1 : decide (a1 = (rdOf false l0 x8_1)) = true := by simpa using c6))
              (try (have c6b2 : (a1 == (rdOf false l0 x8_1)) = true := by simpa using c6))
              clear c6
              obtain rfl := Option.some.inj H
              have p245 : 0 ≤ (x8_1 : Int) := of_decide_eq_true (by first | (with_reducible assumption) | assumption)
              have q245 : x8_1 < (l0.length : Int) := of_decide_eq_true (by first | (with_reducible assumption) | assumption)
              obtain ⟨ad245, e245, hx245_0⟩ := Kd.at_bool HR0.out x8_1 p245 q245
              cases e245
              replace p245 := eq_true p245
              replace q245 := eq_true q245
              go_wp2
              go_ret
              exact ⟨by first | rfl | (simp; done) | (simp [*]; done), by repeat (first | exact Drawn0.refl _ | apply Drawn0.step)⟩
            · rw [if_neg c6] at H
              have c6b0 : (a1 == (rdOf false l0 x8_1)) = false := by simpa using c6
              (try (have c6b1 : decide (a1 = (rdOf false l0 x8_1)) = false := by simpa using c6))
              (try (have c6b2 : (a1 == (rdOf false l0 x8_1)) = false := by simpa using c6))
              (try (have c6b3 : ¬ (a1 = (rdOf false l0 x8_1)) := by simpa using c6))
              clear c6
              have H' := Aside0.mk H
              clear H
              have p245 : 0 ≤ (x8_1 : Int) := of_decide_eq_true (by first | (with_reducible assumption) | assumption)
              have q245 : x8_1 < (l0.length : Int) := of_decide_eq_true (by first | (with_reducible assumption) | assumption)
              obtain ⟨ad245, e245, hx245_0⟩ := Kd.at_bool HR0.out x8_1 p245 q245
              cases e245
              replace p245 := eq_true p245
              replace q245 := eq_true q245
              go_wp2
              go_roundg k1
              case measure => have := HK1.out; omega
              case rel => exact ⟨(wrap64 (x8_1 + 1)), (by first | rfl | (simp; done) | (simp [*]; done)), H', ⟨by have := HK1.out; omega⟩, by repeat (first | exact Drawn0.refl _ | apply Drawn0.step)⟩
          · rw [if_neg c5] at H
            exact absurd H (by simp)
        · rw [if_neg c4] at H
          exact absurd H (by simp)
      · rw [if_neg c3] at H
        have c3b0 : decide (x8_1 < (l0.length : Int)) = false := decide_eq_false c3
        clear c3
        obtain rfl := Option.some.inj H
        go_wp2
        go_ret
        exact ⟨by first | rfl | (simp; done) | (simp [*]; done), by repeat (first | exact Drawn0.refl _ | apply Drawn0.step)⟩
end Go.Proofs.Ytojpibpjieanhaa.X
end
section
-- Written by a program of this session out of the kit's print of the loaded functions: a plain function of a Go function, and its contract.
namespace Go.Proofs.Ytojpibpjieanhaa.X
open Go.RowKit Go.Proofs.YtojpibpjieanhaaW.PrintWords Go.Proofs.YtojpibpjieanhaaW.PrintLast Go.Proofs.YtojpibpjieanhaaW.PrintMore
attribute [local go_sem] max2_int min2_int max_two min_two max_three min_three max_four min_four   -- for this text's walks alone
set_option linter.unusedVariables false
set_option linter.unusedSimpArgs false
/-! ### slices_Contains_bool_bool: function 86 -/
def slices_Contains_bool_bool.f (k : Nat) (l0 : List Bool) (a1 : Bool) : Option (Bool) := (slices_Index_bool_bool.f k l0 a1).bind fun t246 => (some (decide (t246 ≥ 0)))
theorem slices_Contains_bool_bool.mono : ∀ a0 a1 k, LeO (slices_Contains_bool_bool.f k a0 a1) (slices_Contains_bool_bool.f (k + 1) a0 a1) := by
  intro a0 a1 k
  unfold slices_Contains_bool_bool.f
  repeat' first
      | (with_reducible exact slices_Index_bool_bool.mono _ _ _)
      | (with_reducible exact LeO.refl _)
      | (with_reducible exact LeO.none _)
      | (with_reducible refine LeO.ite ?_ ?_)
      | (with_reducible refine LeO.bind ?_ (fun _ => ?_))
      | exact slices_Index_bool_bool.mono _ _ _
      | exact LeO.none _
      | refine LeO.ite ?_ ?_
      | refine LeO.bind ?_ (fun _ => ?_)
set_option maxHeartbeats 8000000 in
set_option maxRecDepth 100000 in
theorem slices_Contains_bool_bool.calls (k : Nat) (A0 : Option Addr) (c0 : Nat) (l0 : List Bool) (a1 : Bool) (r : Bool) (w : World) (hr0 : Kd.C Kd.bool w A0 l0.length l0) (hc0 : l0.length ≤ c0) (h : slices_Contains_bool_bool.f k l0 a1 = some r) :
    Calls Try.prog 86 #[.slice A0 l0.length c0, .bool a1] w fun e w' => e = .returned (.bool r) ∧ Drawn0 w w' := by
  have HR0 := Aside0.mk hr0
  have HC0 := Aside0.mk hc0
  clear hr0 hc0
  have H : ((slices_Index_bool_bool.f k l0 a1).bind fun t246 => (some (decide (t246 ≥ 0)))) = some r := h
  clear h
  replace H := Option.bind_eq_some_iff.mp H
  obtain ⟨t246, A30, H⟩ := H
  replace H : (some (decide (t246 ≥ 0))) = some r := H
  have A3 := Aside0.mk A30
  clear A30
  obtain rfl := Option.some.inj H
  go_enter Try.func86, Try.ntmps86
  go_wp2_with (first | ((with_reducible refine gate_callee (f := 103) rfl ?_); refine goesL_ (some 7) rfl rfl Try.func103 (by kernel_rfl) rfl #[.slice A0 l0.length c0, .bool a1] rfl (by (try simp only [List.map_toArray, List.map_cons, List.map_nil]); first | done | rfl | (simp only [List.length_drop, List.length_take]; rfl)) ?_; (with_reducible refine (slices_Index_bool_bool.calls k _ _ l0 a1 t246 _ ?side1 ?side2 A3.out).mono ?_); (case side1 => repeat (first | exact HR0.out | (with_reducible refine Kd.C_alloc ?_ _) | (with_reducible refine Kd.C_drewN ?_ _) | (with_reducible refine Kd.C_drew ?_))); (case side2 => first | exact trivial | (exact HC0.out)); rintro e w' ⟨rfl, ⟨nd, rfl⟩⟩; refine ⟨_, rfl, ?_⟩))
  go_ret
  exact ⟨by first | rfl | (simp; done) | (simp [*]; done), by repeat (first | exact Drawn0.refl _ | apply Drawn0.step)⟩
end Go.Proofs.Ytojpibpjieanhaa.X
end
section
/- The program's isOpen: what it answers. Conditions: none. -/
namespace Go.Proofs.Ytojpibpjieanhaa.X
open Go.RowKit Go.Proofs.YtojpibpjieanhaaW.PrintWords Go.Proofs.YtojpibpjieanhaaW.PrintLast Go.Proofs.YtojpibpjieanhaaW.PrintMore
set_option linter.unusedVariables false
set_option linter.unusedSimpArgs false
/-- A block of bools. -/
def Bools (w : World) (g : Nat) (l : List Bool) : Prop := w.heap[g]? = some (.cells (l.map Value.bool).toArray 4 (0, 0))
theorem Bools.cell {w : World} {g : Nat} {l : List Bool} (h : Bools w g l) (i : Nat) (hi : i < l.length) : w.cell? ⟨g, i, none⟩ = some (.bool (l.getD i false)) := by
  rw [blk_cell h i]
  simp [hi, List.getD_eq_getElem?_getD]
theorem Bools.frozen {w : World} {g : Nat} {l : List Bool} (h : Bools w g l) (i : Nat) : w.frozen? ⟨g, i, none⟩ = false := blk_frozen h i
theorem Bools.put {w : World} {g : Nat} {l : List Bool} (h : Bools w g l) (i : Nat) (b : Bool) : Bools (w.setCell ⟨g, i, none⟩ (.bool b)) g (l.set i b) :=
  blk_put h i (.bool b) (by simp [List.map_set])
theorem Bools.below {w w' : World} {g : Nat} {l : List Bool} (h : Bools w g l) (hb : Below w.heap.size w w') : Bools w' g l := blk_below h hb
theorem info4b : (Try.prog.info? 4).map (fun i => (i.zero, i.size, i.bytes)) = some (some (.bool false), 1, 1) := by kernel_rfl
section
variable {P : Program} {ops : Array Oper} {Q : Exit → Act → World → Prop}
/-- make([]bool, n), its block told. -/
theorem make_bools {rest : List Oper} {o : Oper} {a : Act} {W : World} (hgd : o.guard = none) {N : Tmp} (hd : o.dst = some N) (t e : TypeId) (x y : Operand) (ho : o.op = .makeSlice t x y) (n : Nat) (hx : a.eval x = .int .i64 n) (hy : a.eval y = .int .i64 n)
    (ht : P.underlying t = some (.slice e)) (hinfo : (P.info? e).map (fun i => (i.zero, i.size, i.bytes)) = some (some (.bool false), 1, 1)) (he : e = 4) (hl : n ≤ 1000000)
    (h : ∀ g wn, g = W.heap.size → Bools wn g (List.replicate n false) → Below W.heap.size W wn → wpList P ops Q rest (a.put o.dst (.slice (some ⟨g, 0, none⟩) n n)) wn) : wpList P ops Q (o :: rest) a W := by
  obtain ⟨i0, hi, hzz⟩ := Option.map_eq_some_iff.1 hinfo
  simp only [Prod.mk.injEq] at hzz
  obtain ⟨hz0, hz1, hz2⟩ := hzz
  have hr := run_make (P := P) W t e i0 (.bool false) ht hi hz0 .i64 .i64 (n : Int) (n : Int) (by omega) (by omega)
    (by
      have h3 : ((i0.bytes * n : Nat) : Int) ≤ 281474976710656 := by rw [hz2]; omega
      rwa [Int.natCast_mul] at h3) (by omega)
  simp only [Int.toNat_natCast] at hr
  rw [hz1] at hr
  refine Kd.event_run hgd (?_ : (execOp a.eval o).run P W = .ok (.value (.slice (some ⟨W.heap.size, 0, none⟩) n n)) (W.alloc (.cells (madeCells (Value.bool false).cells (n * 1)) e))) (h _ _ rfl ?_ (below_alloc (Below.refl _ _) _))
  · simp [execOp, ho, hx, hy, hr]
  · subst he
    unfold Bools
    have e1 : madeCells (Value.bool false).cells (n * 1) = ((List.replicate n false).map Value.bool).toArray := by
      apply Array.ext
      · simp [size_madeCells]
      · intro i h1 h2
        simp [madeCells, Value.cells, Nat.mod_one]
    rw [← e1]
    simp [World.alloc, -World.alloc_eq]
end
/-- Whether a wire without registers leads to a vertex from one that is left. -/
def leads (left : List Bool) (i f t c : Int) : Option Bool := if (c == 0) = true then (if (t == i) = true then (if 0 ≤ f ∧ f < left.length then some (left.getD f.toNat false) else none) else some false) else some false
abbrev leadC (left : List Bool) (i : Int) : C_impl_Wire_102 := ⟨fun f t c => leads left i f t c⟩
set_option maxHeartbeats 4000000 in
set_option maxRecDepth 100000 in
theorem OpenClo_1 (x0 x1 x2 : Int) (i n g1 g2 gL : Nat) (L : List Bool) (f1 : (x2 == 0) = false) (w : World) (b1 : w.heap[g1]? = some (.cells #[.int .i64 (i : Int)] 3 (0, 0))) (b2 : w.heap[g2]? = some (.cells #[.slice (some ⟨gL, 0, none⟩) n n] 99 (0, 0))) (bl : Bools w gL L) :
    Calls Try.prog 85 #[.agg #[.int .i64 x0, .int .i64 x1, .int .i64 x2], .pointer (some ⟨g1, 0, none⟩), .pointer (some ⟨g2, 0, none⟩)] w fun e w' => e = .returned (.bool false) ∧ Below w.heap.size w w' := by
  have Hb1 := Aside0.mk b1
  have Hb2 := Aside0.mk b2
  have Hbl := Aside0.mk bl
  clear b1 b2 bl
  have HB := Aside0.mk (Below.refl w.heap.size w)
  have BK1 := Hb1
  have BK2 := Hb2
  have BL := Hbl
  go_enter Try.func85, Try.ntmps85
  go_wp2_with (first
    | ((with_reducible refine gate_dst (N := 3) rfl ?_); refine box_event ?hg (N := 3) ?hd (cs := #[.int .i64 x0, .int .i64 x1, .int .i64 x2]) (t := 55) ?hr ?_; (case hd => rfl); (case hg => rfl); (case hr => first | (go_simp; done) | (go_simp; rfl)); intro g3 hg wn hbox hb; have GE3 := Aside0.mk (by rw [hg]; exact below_size HB.out : w.heap.size ≤ g3); have hbx := hb; clear hg; have BK30 := Aside0.mk hbox; clear hbox; have n0_ := Aside0.mk (below_step HB.out hb); clear HB  hb; have HB := n0_; clear n0_ ; have BK3 := BK30; clear BK30; have c3_0 : wn.cell? ⟨g3, 0, none⟩ = some (.int .i64 x0) := (blk_cell BK3.out 0).trans rfl; have c3_1 : wn.cell? ⟨g3, 1, none⟩ = some (.int .i64 x1) := (blk_cell BK3.out 1).trans rfl; have c3_2 : wn.cell? ⟨g3, 2, none⟩ = some (.int .i64 x2) := (blk_cell BK3.out 2).trans rfl; have n1_ := Aside0.mk (blk_below BK1.out hbx); have n2_ := Aside0.mk (blk_below BK2.out hbx); have n3_ := Aside0.mk (BL.out.below hbx); clear hbx BK1 BK2 BL; have BK1 := n1_; have BK2 := n2_; have BL := n3_; clear n1_ n2_ n3_; have c1_0 : wn.cell? ⟨g1, 0, none⟩ = some (.int .i64 (i : Int)) := (blk_cell BK1.out 0).trans rfl; have c2_0 : wn.cell? ⟨g2, 0, none⟩ = some (.slice (some ⟨gL, 0, none⟩) n n) := (blk_cell BK2.out 0).trans rfl))
  go_ret
  exact ⟨rfl, HB.out⟩
set_option maxHeartbeats 4000000 in
set_option maxRecDepth 100000 in
theorem OpenClo_2 (x0 x1 x2 : Int) (i n g1 g2 gL : Nat) (L : List Bool) (f1 : (x2 == 0) = true) (f2 : (x1 == (i : Int)) = false) (w : World) (b1 : w.heap[g1]? = some (.cells #[.int .i64 (i : Int)] 3 (0, 0))) (b2 : w.heap[g2]? = some (.cells #[.slice (some ⟨gL, 0, none⟩) n n] 99 (0, 0))) (bl : Bools w gL L) :
    Calls Try.prog 85 #[.agg #[.int .i64 x0, .int .i64 x1, .int .i64 x2], .pointer (some ⟨g1, 0, none⟩), .pointer (some ⟨g2, 0, none⟩)] w fun e w' => e = .returned (.bool false) ∧ Below w.heap.size w w' := by
  have Hb1 := Aside0.mk b1
  have Hb2 := Aside0.mk b2
  have Hbl := Aside0.mk bl
  clear b1 b2 bl
  have HB := Aside0.mk (Below.refl w.heap.size w)
  have BK1 := Hb1
  have BK2 := Hb2
  have BL := Hbl
  go_enter Try.func85, Try.ntmps85
  go_wp2_with (first
    | ((with_reducible refine gate_dst (N := 3) rfl ?_); refine box_event ?hg (N := 3) ?hd (cs := #[.int .i64 x0, .int .i64 x1, .int .i64 x2]) (t := 55) ?hr ?_; (case hd => rfl); (case hg => rfl); (case hr => first | (go_simp; done) | (go_simp; rfl)); intro g3 hg wn hbox hb; have GE3 := Aside0.mk (by rw [hg]; exact below_size HB.out : w.heap.size ≤ g3); have hbx := hb; clear hg; have BK30 := Aside0.mk hbox; clear hbox; have n0_ := Aside0.mk (below_step HB.out hb); clear HB  hb; have HB := n0_; clear n0_ ; have BK3 := BK30; clear BK30; have c3_0 : wn.cell? ⟨g3, 0, none⟩ = some (.int .i64 x0) := (blk_cell BK3.out 0).trans rfl; have c3_1 : wn.cell? ⟨g3, 1, none⟩ = some (.int .i64 x1) := (blk_cell BK3.out 1).trans rfl; have c3_2 : wn.cell? ⟨g3, 2, none⟩ = some (.int .i64 x2) := (blk_cell BK3.out 2).trans rfl; have n1_ := Aside0.mk (blk_below BK1.out hbx); have n2_ := Aside0.mk (blk_below BK2.out hbx); have n3_ := Aside0.mk (BL.out.below hbx); clear hbx BK1 BK2 BL; have BK1 := n1_; have BK2 := n2_; have BL := n3_; clear n1_ n2_ n3_; have c1_0 : wn.cell? ⟨g1, 0, none⟩ = some (.int .i64 (i : Int)) := (blk_cell BK1.out 0).trans rfl; have c2_0 : wn.cell? ⟨g2, 0, none⟩ = some (.slice (some ⟨gL, 0, none⟩) n n) := (blk_cell BK2.out 0).trans rfl))
  go_ret
  exact ⟨rfl, HB.out⟩
set_option maxHeartbeats 4000000 in
set_option maxRecDepth 100000 in
theorem OpenClo_3 (x1 x2 : Int) (p i n g1 g2 gL : Nat) (L : List Bool) (f1 : (x2 == 0) = true) (f2 : (x1 == (i : Int)) = true) (hp : p < n) (hn : n ≤ 1000000) (w : World) (b1 : w.heap[g1]? = some (.cells #[.int .i64 (i : Int)] 3 (0, 0))) (b2 : w.heap[g2]? = some (.cells #[.slice (some ⟨gL, 0, none⟩) n n] 99 (0, 0))) (bl : Bools w gL L) (hL : L.length = n) :
    Calls Try.prog 85 #[.agg #[.int .i64 (p : Int), .int .i64 x1, .int .i64 x2], .pointer (some ⟨g1, 0, none⟩), .pointer (some ⟨g2, 0, none⟩)] w fun e w' => e = .returned (.bool (L.getD p false)) ∧ Below w.heap.size w w' := by
  have Hb1 := Aside0.mk b1
  have Hb2 := Aside0.mk b2
  have Hbl := Aside0.mk bl
  have HhL := Aside0.mk hL
  clear b1 b2 bl hL
  have HB := Aside0.mk (Below.refl w.heap.size w)
  have BK1 := Hb1
  have BK2 := Hb2
  have BL := Hbl
  go_enter Try.func85, Try.ntmps85
  go_wp2_with (first
    | ((with_reducible refine gate_dst (N := 3) rfl ?_); refine box_event ?hg (N := 3) ?hd (cs := #[.int .i64 (p : Int), .int .i64 x1, .int .i64 x2]) (t := 55) ?hr ?_; (case hd => rfl); (case hg => rfl); (case hr => first | (go_simp; done) | (go_simp; rfl)); intro g3 hg wn hbox hb; have GE3 := Aside0.mk (by rw [hg]; exact below_size HB.out : w.heap.size ≤ g3); have hbx := hb; clear hg; have BK30 := Aside0.mk hbox; clear hbox; have n0_ := Aside0.mk (below_step HB.out hb); clear HB  hb; have HB := n0_; clear n0_ ; have BK3 := BK30; clear BK30; have c3_0 : wn.cell? ⟨g3, 0, none⟩ = some (.int .i64 (p : Int)) := (blk_cell BK3.out 0).trans rfl; have c3_1 : wn.cell? ⟨g3, 1, none⟩ = some (.int .i64 x1) := (blk_cell BK3.out 1).trans rfl; have c3_2 : wn.cell? ⟨g3, 2, none⟩ = some (.int .i64 x2) := (blk_cell BK3.out 2).trans rfl; have n1_ := Aside0.mk (blk_below BK1.out hbx); have n2_ := Aside0.mk (blk_below BK2.out hbx); have n3_ := Aside0.mk (BL.out.below hbx); clear hbx BK1 BK2 BL; have BK1 := n1_; have BK2 := n2_; have BL := n3_; clear n1_ n2_ n3_; have c1_0 : wn.cell? ⟨g1, 0, none⟩ = some (.int .i64 (i : Int)) := (blk_cell BK1.out 0).trans rfl; have c2_0 : wn.cell? ⟨g2, 0, none⟩ = some (.slice (some ⟨gL, 0, none⟩) n n) := (blk_cell BK2.out 0).trans rfl; have cL : wn.cell? ⟨gL, p, none⟩ = some (.bool (L.getD p false)) := BL.out.cell p (by rw [HhL.out]; exact hp)))
  go_ret
  exact ⟨rfl, HB.out⟩
theorem OpenCl (i n g1 g2 gL : Nat) (L : List Bool) (w : World) (hn : n ≤ 1000000) (hL : L.length = n) (h1 : w.heap[g1]? = some (.cells #[.int .i64 (i : Int)] 3 (0, 0))) (h2 : w.heap[g2]? = some (.cells #[.slice (some ⟨gL, 0, none⟩) n n] 99 (0, 0))) (h3 : Bools w gL L) :
    ∀ x0 x1 x2 r W, (leadC L i).f x0 x1 x2 = some r → Below w.heap.size w W → Calls Try.prog 85 (#[.agg #[.int .i64 x0, .int .i64 x1, .int .i64 x2]] ++ #[.pointer (some ⟨g1, 0, none⟩), .pointer (some ⟨g2, 0, none⟩)]) W fun e w' => e = .returned (.bool r) ∧ Below W.heap.size W w' := by
  intro x0 x1 x2 r W hx hW
  have q1 := blk_below h1 hW
  have q2 := blk_below h2 hW
  have q3 := h3.below hW
  have hx : leads L i x0 x1 x2 = some r := hx
  unfold leads at hx
  cases f1 : (x2 == 0) with
  | false =>
    rw [f1, if_neg (by simp)] at hx
    obtain rfl := Option.some.inj hx
    exact OpenClo_1 x0 x1 x2 i n g1 g2 gL L f1 W q1 q2 q3
  | true =>
    rw [f1, if_pos rfl] at hx
    cases f2 : (x1 == (i : Int)) with
    | false =>
      rw [f2, if_neg (by simp)] at hx
      obtain rfl := Option.some.inj hx
      exact OpenClo_2 x0 x1 x2 i n g1 g2 gL L f1 f2 W q1 q2 q3
    | true =>
      rw [f2, if_pos rfl] at hx
      by_cases hp : 0 ≤ x0 ∧ x0 < L.length
      · rw [if_pos hp] at hx
        obtain rfl := Option.some.inj hx
        obtain ⟨p, rfl⟩ := Int.eq_ofNat_of_zero_le hp.1
        rw [Int.toNat_natCast]
        exact OpenClo_3 x1 x2 p i n g1 g2 gL L f1 f2 (by omega) hn W q1 q2 q3 hL
      · rw [if_neg hp] at hx
        exact absurd hx (by simp)
end Go.Proofs.Ytojpibpjieanhaa.X
end
