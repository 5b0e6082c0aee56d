/- My own texts of this seat and its words, merged: CForS, XFor, Xp59, Xp30, Xp88, Xp58, XSPeriod, Xp7, XOpenRow, CPeriod, CMvSame, Xp64, Xp35, Xp65, Xp36, CMark, XSMov, Xp42, Xp12, CMovesFor. Conditions: as each lemma says. -/
import Derived.Test.YtojpibpjieanhaaM28
import Derived.BigRegion
import Derived.Test.YtojpibpjieanhaaM21
import Derived.Test.YtojpibpjieanhaaM25
import Derived.Test.YtojpibpjieanhaaM24
import Derived.Test.YtojpibpjieanhaaM22
import Derived.Test.YtojpibpjieanhaaM27
import Derived.Test.YtojpibpjieanhaaM26
import Derived.Deep.Slices
import Derived.Deep.Fields
import Derived.ChangeSame
import Derived.ChangeSlices
import Derived.Test.YtojpibpjieanhaaM23
section
namespace Go.Proofs.Ytojpibpjieanhaa.ConsMath
open Go.RowKit Go.Proofs.YtojpibpjieanhaaW.PrintWords Go.Proofs.YtojpibpjieanhaaW.PrintLast Go.Proofs.YtojpibpjieanhaaW.PrintMore
open Go.Proofs.Ytojpibpjieanhaa.X Go.Proofs.Ytojpibpjieanhaa.FlowMath
open Go.Proofs.Ytojpibpjieanhaa.FewMath (Fl T Wi WI dl Back U Sound Full Bd key hit)
set_option linter.unusedVariables false
set_option linter.unusedSimpArgs false
structure Tab (d : List Int) (ws : List S55) (n : Nat) (M : Nat → Nat → Bt) : Prop where
  fl : Fl d ws n
  bd : ∀ i j, Bd 9000 (M i j)
  snd : ∀ i j, (M i j).f = true → ∃ k, k ≤ n ∧ T (Wi ws) (dl d) i k j (1000000 * (M i j).r - (M i j).d)
  full : ∀ i k j x, T (Wi ws) (dl d) i k j x → (M i j).f = true ∧ 1000000 * (M i j).r - (M i j).d ≤ x
theorem tab_of {d : List Int} {ws : List S55} {n : Nat} {M : Nat → Nat → Bt} (h : Fl d ws n) (hb : ∀ u, Bd 9000 ((U (M, false)).1 u)) (hs : Sound (WI d ws) (U (M, false)).1) (hf : Full (WI d ws) (U (M, false)).1) : Tab d ws n M where
  fl := h
  bd := fun i j => hb (i, j)
  full := fun i k j x hT => hf k (i, j) x hT.rev
  snd := fun i j hM => by
    obtain ⟨k, hk⟩ := hs (i, j) hM
    have hk : T (Back (Wi ws)) (dl d) j k i (key (M i j)) := hk
    obtain ⟨k', x', h1, h2, h3⟩ := FewMath.short h.netB _ _ _ hk
    have h4 := hf k' (i, j) x' h3
    have h5 : key (M i j) ≤ x' := h4.2
    have e : x' = 1000000 * (M i j).r - (M i j).d := by unfold key at h2 h5; omega
    subst e
    exact ⟨k', h1, h3.rev⟩
variable {d : List Int} {ws : List S55} {n : Nat} {P : Int} {M : Nat → Nat → Bt}
structure Keep (ws : List S55) (n : Nat) (m : List Int) : Prop where
  len : m.length = n
  pos : ∀ v : Nat, 0 ≤ rd m (v : Int) ∧ rd m (v : Int) ≤ 1000
  far : ∀ w, w ∈ ws → rd m w.f0 - w.f2 ≤ rd m w.f1
theorem mv_zero (hw : ∀ w, w ∈ ws → WireOk n w) {m : List Int} (hm : Keep ws n m) {w : S55} (h : w ∈ ws) : (mvW m w).f2 = w.f2 + rd m w.f1 - rd m w.f0 := by
  obtain ⟨o1, o2, o3, o4, o5, o6⟩ := hw w h
  have a := hm.pos w.f0.toNat
  have b := hm.pos w.f1.toNat
  rw [Int.toNat_of_nonneg o1] at a
  rw [Int.toNat_of_nonneg o3] at b
  unfold mvW
  simp only
  rw [w64 (n := w.f2 + rd m w.f1) (by omega) (by omega), w64 (by omega) (by omega)]
theorem zr_mv (hw : ∀ w, w ∈ ws → WireOk n w) {m : List Int} (hm : Keep ws n m) {u v : Nat} {x : Int} : Zr d (ws.map (mvW m)) u v x ↔ ∃ c, Wi ws u v c ∧ rd m (v : Int) = rd m (u : Int) - c ∧ x = dl d u := by
  rw [zr_iff]
  constructor
  · rintro ⟨w', h1, h2, rfl, rfl, rfl⟩
    obtain ⟨w, hm', rfl⟩ := List.mem_map.1 h1
    rw [mv_zero hw hm hm'] at h2
    have ho := hw w hm'
    refine ⟨w.f2, FewMath.Wi.of hm' ho, ?_, rfl⟩
    obtain ⟨o1, o2, o3, o4, o5, o6⟩ := ho
    show rd m ((w.f1.toNat : Nat) : Int) = rd m ((w.f0.toNat : Nat) : Int) - w.f2
    rw [Int.toNat_of_nonneg o1, Int.toNat_of_nonneg o3]
    omega
  · rintro ⟨c, ⟨w, h1, h2, h3, h4⟩, h5, rfl⟩
    refine ⟨mvW m w, List.mem_map.2 ⟨w, h1, rfl⟩, ?_, ?_, ?_, ?_⟩
    · rw [mv_zero hw hm h1, h2, h3]; omega
    · show u = w.f0.toNat; omega
    · show v = w.f1.toNat; omega
    · show dl d u = rd d w.f0
      rw [FewMath.rd_dl, show w.f0.toNat = u by omega]
theorem z_way (hw : ∀ w, w ∈ ws → WireOk n w) {m : List Int} (hm : Keep ws n m) {k v : Nat} {s : Int} (h : Cw (Zr d (ws.map (mvW m))) n k v s) : (k = 0 ∧ s = 0) ∨ ∃ a r, a < n ∧ T (Wi ws) (dl d) a k v (1000000 * r - (s + dl d v)) ∧ rd m (v : Int) = rd m (a : Int) - r := by
  induction h with
  | start hv => exact .inl ⟨rfl, rfl⟩
  | @step k u v s x h hc ih =>
    obtain ⟨c, h1, h2, h3⟩ := (zr_mv hw hm).1 hc
    subst h3
    right
    rcases ih with ⟨rfl, rfl⟩ | ⟨a, r, g1, g2, g3⟩
    · have hu : u < n := by cases h with
        | start hv => exact hv
      exact ⟨u, c, hu, (T.one (d := dl d) h1).eqv (by omega), h2⟩
    · exact ⟨a, r + c, g1, (g2.snoc h1).eqv (by omega), by omega⟩
theorem t_way (hd : ∀ v, 0 ≤ dl d v ∧ dl d v ≤ 100) (hw : ∀ w, w ∈ ws → WireOk n w) {m : List Int} (hm : Keep ws n m) {a k v : Nat} {x : Int} (h : T (Wi ws) (dl d) a k v x) : ∃ r D, x = 1000000 * r - D ∧ 0 ≤ D ∧ D ≤ 100 * (k + 1) ∧ rd m (a : Int) - r ≤ rd m (v : Int) ∧ (rd m (a : Int) - r = rd m (v : Int) → Cw (Zr d (ws.map (mvW m))) n k v (D - dl d v)) := by
  induction h with
  | @one v c h =>
    obtain ⟨w, h1, h2, h3, h4⟩ := h
    have hf := hm.far w h1
    have ho := hw w h1
    unfold WireOk at ho
    have da := hd a
    have dv := hd v
    rw [h2, h3, h4] at hf
    refine ⟨c, dl d a + dl d v, by omega, by omega, by omega, hf, fun he => ?_⟩
    have hz : Zr d (ws.map (mvW m)) a v (dl d a) := (zr_mv hw hm).2 ⟨c, ⟨w, h1, h2, h3, h4⟩, he.symm, rfl⟩
    exact ((Cw.start (by omega)).step hz).eqv (by omega)
  | @snoc k u v x c h hE ih =>
    obtain ⟨r, D, g1, g2, g3, g4, g5⟩ := ih
    obtain ⟨w, h1, h2, h3, h4⟩ := hE
    have hf := hm.far w h1
    have dv := hd v
    rw [h2, h3, h4] at hf
    refine ⟨r + c, D + dl d v, by omega, by omega, by omega, by omega, fun he => ?_⟩
    have hz : Zr d (ws.map (mvW m)) u v (dl d u) := (zr_mv hw hm).2 ⟨c, ⟨w, h1, h2, h3, h4⟩, by omega, rfl⟩
    exact ((g5 (by omega)).step hz).eqv (by omega)
theorem Tab.way (h : Tab d ws n M) {m : List Int} (hm : Keep ws n m) {i j : Nat} (hf : (M i j).f = true) : rd m (i : Int) - (M i j).r ≤ rd m (j : Int) ∧ (rd m (i : Int) - (M i j).r = rd m (j : Int) → ∃ k, k ≤ n ∧ Cw (Zr d (ws.map (mvW m))) n k j ((M i j).d - dl d j)) := by
  obtain ⟨k, h1, h2⟩ := h.snd i j hf
  obtain ⟨r, D, g1, g2, g3, g4, g5⟩ := t_way h.fl.del h.fl.wok hm h2
  have hb := h.bd i j hf
  have h8 := h.fl.n8
  have er : r = (M i j).r := by omega
  have eD : D = (M i j).d := by omega
  subst er eD
  exact ⟨g4, fun he => ⟨k, h1, g5 he⟩⟩
theorem ends_in {m : List Int} (hw : ∀ w, w ∈ ws → WireOk n w) : ∀ w, w ∈ ws.map (mvW m) → WireIn n w := by
  intro w h
  obtain ⟨x, hx, rfl⟩ := List.mem_map.1 h
  have := hw x hx
  unfold WireOk at this
  show 0 ≤ x.f0 ∧ x.f0 < n ∧ 0 ≤ x.f1 ∧ x.f1 < n
  omega
theorem Tab.ends_more (h : Tab d ws n M) {m : List Int} (hm : Keep ws n m) (hP : ∀ v : Nat, v < n → rd d (v : Int) ≤ P) {v : Nat} (hv : v < n) (he : rd (endRounds d (ws.map (mvW m)) n) (v : Int) > P) {L : Nat → Int} (hL : Sol (Cn P n ws M) n L) (hle : ∀ v, v < n → rd m (v : Int) ≤ L v) : rd m (v : Int) + 1 ≤ L v := by
  obtain ⟨g1, g2, g3, g4⟩ := end_rounds h.fl.len (fun v => h.fl.del v) (by rw [List.length_map]; exact h.fl.m16) (ends_in (m := m) h.fl.wok) n h.fl.n8
  obtain ⟨k, hk⟩ := g3 v hv
  have hb := g2 v
  have h8 := h.fl.n8
  have hdv := h.fl.del v
  have hx : gd d (endRounds d (ws.map (mvW m)) n) v = rd (endRounds d (ws.map (mvW m)) n) (v : Int) - dl d v := rfl
  rw [hx] at hk hb
  rcases z_way h.fl.wok hm hk with ⟨_, e⟩ | ⟨a, r, ha, hT, hr⟩
  · have := hP v hv
    have e2 : rd d (v : Int) = dl d v := rfl
    omega
  · obtain ⟨hf, hkey⟩ := h.full a k v _ hT
    have hbd := h.bd a v hf
    obtain ⟨w1, _⟩ := h.way hm hf
    have hc := hL.far _ _ _ (cn_pair (P := P) (ws := ws) ha hv hf (by omega))
    have := hle a ha
    omega
theorem Tab.ends_none (h : Tab d ws n M) {m : List Int} (hm : Keep ws n m) (he : ∀ v : Nat, v < n → ¬ rd (endRounds d (ws.map (mvW m)) n) (v : Int) > P) : Sol (Cn P n ws M) n fun v => rd m (v : Int) := by
  obtain ⟨g1, g2, g3, g4⟩ := end_rounds h.fl.len (fun v => h.fl.del v) (by rw [List.length_map]; exact h.fl.m16) (ends_in (m := m) h.fl.wok) n h.fl.n8
  refine ⟨fun v hv => (hm.pos v).1, fun u v x hc => ?_⟩
  rcases cn_cases hc with ⟨w, h1, rfl, rfl, rfl⟩ | ⟨h1, h2, hf, hd, rfl⟩
  · have := hm.far w h1
    obtain ⟨o1, o2, o3, o4, o5, o6⟩ := h.fl.wok w h1
    show rd m ((w.f0.toNat : Nat) : Int) + - w.f2 ≤ rd m ((w.f1.toNat : Nat) : Int)
    rw [Int.toNat_of_nonneg o1, Int.toNat_of_nonneg o3]
    omega
  · obtain ⟨w1, w2⟩ := h.way hm hf
    show rd m (u : Int) + (1 - (M u v).r) ≤ rd m (v : Int)
    by_cases e : rd m (u : Int) - (M u v).r = rd m (v : Int)
    · obtain ⟨k, k1, k2⟩ := w2 e
      have := g4 k v _ k1 k2
      have hx : gd d (endRounds d (ws.map (mvW m)) n) v = rd (endRounds d (ws.map (mvW m)) n) (v : Int) - dl d v := rfl
      have := he v h2
      omega
    · omega
theorem for_go (h : Tab d ws n M) (hP : ∀ v : Nat, v < n → rd d (v : Int) ≤ P) (K : Nat) (hK : 4000000 < K) :
    ∀ (e : Nat) (m : List Int), 161 ≤ e + Ph (fun v => rd m (v : Int)) n → m.length = n → (∀ v : Nat, 0 ≤ rd m (v : Int) ∧ rd m (v : Int) ≤ 20) → (∀ L, Sol (Cn P n ws M) n L → ∀ v : Nat, v < n → rd m (v : Int) ≤ L v) →
    ∃ R, forF K P n d ws e m = some R ∧ ((R = ([], false) ∧ ∀ L, Sol (Cn P n ws M) n L → ∃ v : Nat, v < n ∧ 20 < L v) ∨ ∃ m', Best (Cn P n ws M) n m' ∧ R = (m', canB d ws m')) := by
  have h8 := h.fl.n8
  have h16 := h.fl.m16
  have hw := h.fl.wok
  have hlen := h.fl.len
  have hC := cn_lt (P := P) (M := M) hw
  intro e
  induction e with
  | zero =>
    intro m h0 _ hb _
    have := Ph_top (f := fun v => rd m (v : Int)) (t := 20) n fun v _ => (hb v).2
    omega
  | succ e ih =>
    intro m h0 hl hb hle
    have hb0 : Bn 20 (mU (m, false)).1 := fun v => hb v
    -- what is done behind the round
    have next : ∀ m1 : List Int, m1.length = n → (∀ v : Nat, 0 ≤ rd m1 (v : Int)) → (∀ v : Nat, v < n → rd m (v : Int) ≤ rd m1 (v : Int)) → (∃ v : Nat, v < n ∧ rd m (v : Int) < rd m1 (v : Int)) → (∀ L, Sol (Cn P n ws M) n L → ∀ v : Nat, v < n → rd m1 (v : Int) ≤ L v) →
        ∃ R, (if overN 20 m1 n = true then some (([] : List Int), false) else forF K P n d ws e m1) = some R ∧ ((R = ([], false) ∧ ∀ L, Sol (Cn P n ws M) n L → ∃ v : Nat, v < n ∧ 20 < L v) ∨ ∃ m', Best (Cn P n ws M) n m' ∧ R = (m', canB d ws m')) := by
      intro m1 q1 q2 q3 q4 q5
      by_cases ho : overN 20 m1 n = true
      · rw [if_pos ho]
        obtain ⟨v, g1, g2⟩ := (over_iff 20 m1 n).1 ho
        exact ⟨_, rfl, .inl ⟨rfl, fun L hL => ⟨v, g1, by have := q5 L hL v g1; omega⟩⟩⟩
      · rw [if_neg ho]
        have ho' : ∀ v : Nat, v < n → rd m1 (v : Int) ≤ 20 := fun v hv => by
          rcases Int.lt_or_le 20 (rd m1 (v : Int)) with hx | hx
          · exact absurd ((over_iff 20 m1 n).2 ⟨v, hv, hx⟩) ho
          · exact hx
        have hlt := Ph_lt (f := fun v => rd m (v : Int)) (g := fun v => rd m1 (v : Int)) n q3 q4
        refine ih m1 (by omega) q1 (fun v => ⟨q2 v, ?_⟩) q5
        rcases Nat.lt_or_ge v n with hv | hv
        · exact ho' v hv
        · rw [rd_out m1 v (by omega)]; omega
    have hU := mwN_up hw (s := (m, false)) hl (t := 20) (by omega) hb0 ws.length (Nat.le_refl _)
    rw [List.take_length] at hU
    have hB := ups_bn (ws.map eW) 20 (mU (m, false)) hb0 (fun e he => by
      obtain ⟨w, h1, rfl⟩ := List.mem_map.1 he
      have := hw w h1
      unfold WireOk at this
      show - w.f2 ≤ 1
      omega)
    rw [List.length_map] at hB
    have hF : fwN ws (m, false) ws.length = mwN ws (m, false) ws.length := fw_eq hw _ _ (Nat.le_refl _)
    rw [forF, hF]
    have hS1 : (fun v : Nat => rd (mwN ws (m, false) ws.length).1 (v : Int)) = (ups (ws.map eW) (mU (m, false))).1 := congrArg Prod.fst hU
    have hS2 : (mwN ws (m, false) ws.length).2 = (ups (ws.map eW) (mU (m, false))).2 := congrArg Prod.snd hU
    have hSl : (mwN ws (m, false) ws.length).1.length = n := by rw [mwN_len]; exact hl
    obtain ⟨S, hS⟩ : ∃ S, S = mwN ws (m, false) ws.length := ⟨_, rfl⟩
    rw [← hS] at hS1 hS2 hSl ⊢
    have hS1v : ∀ v : Nat, rd S.1 (v : Int) = (ups (ws.map eW) (mU (m, false))).1 v := fun v => congrFun hS1 v
    by_cases hfl : S.2 = true
    · rw [if_pos hfl, Option.bind_some, if_pos hfl]
      refine next S.1 hSl (fun v => ?_) (fun v hv => ?_) ?_ (fun L hL v hv => ?_)
      · rw [hS1v]; exact (hB v).1
      · rw [hS1v]; exact ups_ge _ (mU (m, false)) v
      · rw [hS2] at hfl
        rcases ups_true _ _ hfl with hx | ⟨x, x1, x2⟩
        · exact Bool.noConfusion hx
        · obtain ⟨w, w1, rfl⟩ := List.mem_map.1 x1
          refine ⟨w.f1.toNat, ?_, by rw [hS1v]; exact x2⟩
          have := hw w w1
          unfold WireOk at this
          omega
      · rw [hS1v]
        refine ups_le (n := n) _ _ (fun x hx => ?_) (fun v hv => hle L hL v hv) v hv
        obtain ⟨w, w1, rfl⟩ := List.mem_map.1 hx
        have hc := cn_wire (P := P) (n := n) (M := M) w1
        exact ⟨(hC _ _ _ hc).1, hL.far _ _ _ hc⟩
    · rw [if_neg hfl]
      have hfl : S.2 = false := by simpa using hfl
      rw [hfl] at hS2
      obtain ⟨_, q2, q3⟩ := ups_flag _ _ hS2.symm
      have hSm : S.1 = m := rd_ext (by omega) fun v hv => by rw [hS1v, q2]; rfl
      rw [hSm]
      have hk : Keep ws n m := ⟨hl, fun v => by have := hb v; omega, fun w w1 => by
        have h1 := q3 (eW w) (List.mem_map.2 ⟨w, w1, rfl⟩)
        obtain ⟨o1, o2, o3, o4, o5, o6⟩ := hw w w1
        have h2 : rd m ((w.f0.toNat : Nat) : Int) + - w.f2 ≤ rd m ((w.f1.toNat : Nat) : Int) := h1
        rw [Int.toNat_of_nonneg o1, Int.toNat_of_nonneg o3] at h2
        omega⟩
      have hE : fEnds K P n d ws m = some (feN (endOut P n (endRounds d (ws.map (mvW m)) n) n) (m, false) n) := by
        unfold fEnds
        rw [smoved_eq K d ws m (by omega) h16 (by rw [hl]; exact hw) (by omega), Option.bind_some, if_pos ⟨hlen, by simp; omega, ends_in hw⟩]
      rw [hE, Option.bind_some]
      obtain ⟨f1, f2, f3, f4⟩ := fe_all (endOut P n (endRounds d (ws.map (mvW m)) n) n) m hl (t := 20) (by omega) (fun v => hb v) n (Nat.le_refl _)
      have hat : ∀ v : Nat, v < n → (rdOf false (endOut P n (endRounds d (ws.map (mvW m)) n) n) (v : Int) = true ↔ rd (endRounds d (ws.map (mvW m)) n) (v : Int) > P) := fun v hv => by
        rw [endOut_at P n _ n v (Nat.le_refl _), decide_eq_true hv, Bool.true_and, decide_eq_true_eq]
      obtain ⟨E, hEE⟩ : ∃ E, E = feN (endOut P n (endRounds d (ws.map (mvW m)) n) n) (m, false) n := ⟨_, rfl⟩
      rw [← hEE] at f1 f2 f3 f4 ⊢
      by_cases hfe : E.2 = true
      · rw [if_pos hfe]
        obtain ⟨v0, g1, g2⟩ := f4 hfe
        refine next E.1 f1 (fun v => ?_) (fun v hv => ?_) ⟨v0, g1, ?_⟩ (fun L hL v hv => ?_)
        · rw [f2]; have := hb v; split <;> omega
        · rw [f2]; split <;> omega
        · rw [f2, if_pos ⟨g1, g2⟩]; omega
        · rw [f2]
          split
          · rename_i hc
            exact h.ends_more hk hP hv ((hat v hv).1 hc.2) hL (hle L hL)
          · have := hle L hL v hv; omega
      · have hfe : E.2 = false := by simpa using hfe
        obtain ⟨e1, e2⟩ := f3 hfe
        rw [if_neg (by rw [hfe]; decide), e1, spec_can K d ws m (by omega) (by omega) (by omega) hK, Option.bind_some]
        refine ⟨_, rfl, .inr ⟨m, ⟨hl, h.ends_none hk fun v hv hx => ?_, fun L hL v hv => hle L hL v hv⟩, rfl⟩⟩
        have := e2 v hv
        rw [(hat v hv).2 hx] at this
        exact Bool.noConfusion this
theorem for_res (h : Tab d ws n M) (hP : ∀ v : Nat, v < n → rd d (v : Int) ≤ P) (K : Nat) (hK : 4000000 < K) :
    ∃ R, forF K P n d ws K (List.replicate n 0) = some R ∧ ((R = ([], false) ∧ ∀ L, Sol (Cn P n ws M) n L → ∃ v : Nat, v < n ∧ 20 < L v) ∨ ∃ m', Best (Cn P n ws M) n m' ∧ R = (m', canB d ws m')) := by
  refine for_go h hP K hK K _ ?_ (List.length_replicate ..) (fun v => by rw [rd_rep]; omega) (fun L hL v hv => by rw [rd_rep]; exact hL.pos v hv)
  have : ∀ m : Nat, 0 ≤ Ph (fun v => rd (List.replicate n 0) (v : Int)) m := by
    intro m
    induction m with
    | zero => exact Int.le_refl _
    | succ m ih => rw [Ph, rd_rep]; omega
  have := this n
  omega
end Go.Proofs.Ytojpibpjieanhaa.ConsMath
end
section
namespace Go.Proofs.Ytojpibpjieanhaa.X
open Go.RowKit Go.Proofs.YtojpibpjieanhaaW.PrintWords Go.Proofs.YtojpibpjieanhaaW.PrintLast Go.Proofs.YtojpibpjieanhaaW.PrintMore
set_option linter.unusedVariables false
set_option linter.unusedSimpArgs false
structure ForW (w0 w : World) (g n gm cm : Nat) (l0 : List Int) (l1 : List S55) (mv : List Int) (W : World) : Prop where
  I : IsS36 w0 W g l0 l1
  B : Below w0.heap.size w0 W
  K : KeepBut w W g none
  R : Kd.R (Kd.int .i64) 2 W w.heap.size (fun _ => True) (.slice (some ⟨gm, 0, none⟩) n cm) mv
variable {w0 w W W1 : World} {g n gm cm : Nat} {l0 : List Int} {l1 : List S55} {mv : List Int}
theorem ForW.move (h : ForW w0 w g n gm cm l0 l1 mv W) (hb : Below W.heap.size W W1) : ForW w0 w g n gm cm l0 l1 mv W1 :=
  ⟨h.I.below hb, below_step h.B hb, KeepBut.trans h.K (KeepBut.of_below hb g none) (.inl rfl), Kd.R_below h.R hb⟩
theorem ForW.call (h : ForW w0 w g n gm cm l0 l1 mv W) (hi : IsS36 w0 W1 g l0 l1) (hb : Below w0.heap.size w0 W1) (hk : KeepBut W W1 g none) : ForW w0 w g n gm cm l0 l1 mv W1 :=
  ⟨hi, hb, KeepBut.trans h.K hk (.inl rfl), Kd.R_mono (Kd.R_keep (h.I.apart h.R (by decide)) hk (fun _ hh => hh.2)) (fun _ _ => trivial)⟩
theorem ForW.rng (h : ForW w0 w g n gm cm l0 l1 mv W) : w.heap.size ≤ gm ∧ gm < W.heap.size := ⟨Kd.R_base h.R gm (by simp [Value.ownBlock]), Kd.R_lt h.R gm (by simp [Value.ownBlock])⟩
theorem ForW.ne (h : ForW w0 w g n gm cm l0 l1 mv W) : g ≠ gm := fun e => h.I.own_ne h.R (by decide) (by rw [e]; rfl)
theorem ForW.put (h : ForW w0 w g n gm cm l0 l1 mv W) (h0 : w0.heap.size ≤ w.heap.size) (i : Nat) (x : Int) : ForW w0 w g n gm cm l0 l1 (mv.set i x) (W.setCell ⟨gm, i, none⟩ (.int .i64 x)) := by
  have hr := h.rng
  have hR := Kd.R_putn h.R (i : Int) x
  rw [Int.toNat_natCast] at hR
  refine ⟨h.I.far (p := ⟨gm, i, none⟩) h.ne _, h.B.setCell (p := ⟨gm, i, none⟩) (by show w0.heap.size ≤ gm; omega) _, ⟨?_, fun k hk hg hn => ?_⟩, hR⟩
  · have := h.K.1; simpa [World.setCell] using this
  · exact (Below.heap_setCell W ⟨gm, i, none⟩ _ k (by show k ≠ gm; omega)).trans (h.K.2 k hk hg hn)
theorem ForW.cel (h : ForW w0 w g n gm cm l0 l1 mv W) (i : Nat) (hi : i < n) : W.cell? ⟨gm, i, none⟩ = some (.int .i64 (rd mv (i : Int))) ∧ W.frozen? ⟨gm, i, none⟩ = false := by
  have := Kd.R_celln 0 h.R (i : Int) (by omega) (by omega)
  rw [Int.toNat_natCast] at this
  exact this
theorem endOut_len (P : Int) (n : Nat) (x : List Int) : ∀ i, (endOut P n x i).length = n
  | 0 => by simp [endOut]
  | i + 1 => by rw [endOut, List.length_set]; exact endOut_len P n x i
set_option maxHeartbeats 16000000 in
set_option maxRecDepth 100000 in
theorem for_walk (k : Nat) (g : Nat) (l0 : List Int) (l1 : List S55) (P : Int) (r1 : List Int) (r2 : Bool) (w0 w : World) (n m : Nat) (hn0 : n = l0.length) (hm0 : m = l1.length) (h1 : 1 ≤ n) (hn : n ≤ 1000000) (hm : m ≤ 1000000) (hw : ∀ j : Nat, j < m → WireIn n (rd_T55 l1 (j : Int))) (hI : IsS36 w0 w g l0 l1) (hB : Below w0.heap.size w0 w)
    (hR : (if overN P l0 n = true then some (([] : List Int), false) else forF k P n l0 l1 k (List.replicate n 0)) = some (r1, r2)) :
    Calls Try.prog 73 #[.pointer (some ⟨g, 0, none⟩), .int .i64 P] w fun e w' => ∃ v : Value, e = .returned (.tuple #[v, .bool r2]) ∧ Kd.R (Kd.int .i64) 2 w' w.heap.size (fun _ => True) v r1 ∧ IsS36 w0 w' g l0 l1 ∧ Below w0.heap.size w0 w' ∧ KeepBut w w' g none := by
  have h0 : w0.heap.size ≤ w.heap.size := below_size hB
  have HW := Aside0.mk hw
  have HN0 := Aside0.mk hn0
  have HM0 := Aside0.mk hm0
  have HI := Aside0.mk hI
  have HB := Aside0.mk hB
  have HRR := Aside0.mk hR
  have H0 := Aside0.mk h0
  clear hw hI hB hR h0
  obtain ⟨A0, c0, A1, c1, hg, hgg, q0, q1⟩ := HI.out
  have hg' := hg
  rw [← hn0, ← hm0] at hg'
  rw [← hn0] at q0
  rw [← hm0] at q1
  have BK := Aside0.mk hg'
  have HR0 := Aside0.mk q0
  have HR1 := Aside0.mk q1
  clear hn0 hm0 hg hg' hgg q0 q1
  have c1_0 : w.cell? ⟨g, 0, none⟩ = some (.slice A0 n c0) := (blk_cell BK.out 0).trans rfl
  go_enter Try.func73, Try.ntmps73
  go_wp2
  clear c1_0
  go_loopg [7] n (fun kq v7 w' => ∃ i : Nat, v7 = .int .i64 i ∧ Aside0 (i + kq = n) ∧ Aside0 (overN P l0 i = false) ∧ Aside0 (w'.heap = w.heap) ∧ Aside0 (Below w.heap.size w w'))
  case atStart => exact ⟨0, by first | rfl | simp, ⟨by omega⟩, ⟨rfl⟩, ⟨rfl⟩, ⟨Below.refl _ _⟩⟩
  case round =>
    obtain ⟨i, rfl, HE, HO, HH, QB⟩ := hrel
    have c1_0 : wr.cell? ⟨g, 0, none⟩ = some (.slice A0 n c0) := (blk_cell (by rw [HH.out]; exact BK.out) 0).trans rfl
    by_cases hlt : i < n
    · cases gk with
      | zero => have := HE.out; omega
      | succ gq =>
      obtain ⟨ad, hA, dA⟩ := Kd.at_int (Kd.C_below HR0.out (below_step HB.out QB.out)) (i : Int) (by omega) (by omega)
      cases hA
      rw [Int.toNat_natCast] at dA
      have p0 : (0 ≤ (i : Int)) = True := eq_true (by omega)
      have p1 : ((i : Int) < (n : Int)) = True := eq_true (by omega)
      have wi : IntKind.i64.wrap ((i : Int) + 1) = (i : Int) + 1 := IntWalk.i64_in _ ⟨by omega, by omega⟩
      cases hv : decide (P < rd l0 (i : Int)) with
      | true =>
        have HV : Aside0 (r1 = [] ∧ r2 = false) := ⟨by
          have h := HRR.out
          have ho : overN P l0 n = true := by
            have hs : ∀ d, i + 1 + d ≤ n → overN P l0 (i + 1 + d) = true := by
              intro d
              induction d with
              | zero => intro _; rw [Nat.add_zero, overN, show decide (rd l0 (i : Int) > P) = true from hv, Bool.or_true]
              | succ d ih => intro hd; rw [← Nat.add_assoc, overN, ih (by omega), Bool.true_or]
            have := hs (n - (i + 1)) (by omega)
            rwa [show i + 1 + (n - (i + 1)) = n by omega] at this
          rw [if_pos ho] at h
          injection h with h
          injection h with h3 h4
          exact ⟨h3.symm, h4.symm⟩⟩
        have HRL := Aside0.mk (Kd.R_of_own (enc := Value.int .i64) (h1 := fun _ => rfl) (ok := fun _ => True) (own_lit_of (enc := Value.int .i64) wr w.heap.size 2 ([] : List Int) (below_size QB.out) (by simp)) (fun _ _ => trivial))
        go_wp2
        go_ret2
        obtain ⟨e1, e2⟩ := HV.out
        subst e1 e2
        have hb2 := below_step QB.out (below_alloc (Below.refl wr.heap.size wr) (.cells #[] 2))
        exact ⟨_, rfl, HRL.out, HI.out.below hb2, below_step HB.out hb2, KeepBut.of_below hb2 g none⟩
      | false =>
        have HO2 : Aside0 (overN P l0 (i + 1) = false) := ⟨by rw [overN, HO.out, Bool.false_or]; exact hv⟩
        go_wp2
        go_roundg gq
        case measure => omega
        case rel => exact ⟨i + 1, by go_num, ⟨by have := HE.out; omega⟩, HO2, HH, QB⟩
    · have e : i = n := by have := HE.out; omega
      have f1 : decide ((i : Int) < (n : Int)) = false := decide_eq_false (by omega)
      have f2 : decide (i < n) = false := decide_eq_false hlt
      have HF : Aside0 (forF k P n l0 l1 k (List.replicate n 0) = some (r1, r2)) := ⟨by have h := HRR.out; rw [← e, if_neg (by rw [HO.out]; decide)] at h; rw [← e]; exact h⟩
      have HS := Aside0.mk (show IsS36 w0 wr g l0 l1 ∧ Below w0.heap.size w0 wr ∧ KeepBut w wr g none from ⟨HI.out.below QB.out, below_step HB.out QB.out, KeepBut.of_below QB.out g none⟩)
      clear hlt e HO HRR HH c1_0 HE BK HI HB
      have hmk : decide (0 ≤ (n : Int)) = true := decide_eq_true (by omega)
      go_wp2_with ((with_reducible refine gate_dst (N := 38) rfl ?_); refine Kd.R_make (Kd.int .i64) _ 2 rfl (N := 38) rfl 22 _ _ rfl (n : Int) rfl rfl Try.underlying22 (.int .i64 0) 8 info2 rfl (by decide) (by omega) 0 (ok := fun _ => True) (okp := fun _ => True) rfl (fun _ hk => hk) trivial (by omega) (by omega) (Below.refl _ _) (Nat.le_refl _) ?_; intro v20 w4 ho5 hb hg_ hnew_; clear hg_ hnew_; rw [Int.toNat_natCast] at ho5; obtain ⟨gm, cm, hv, _, _, _⟩ := Kd.R_form ho5 (by rw [List.length_replicate]; omega); rw [List.length_replicate] at hv; subst hv; have HS2 := Aside0.mk (show ForW w0 w g n gm cm l0 l1 (List.replicate n 0) w4 from ⟨HS.out.1.below hb, below_step HS.out.2.1 hb, KeepBut.trans HS.out.2.2 (KeepBut.of_below hb g none) (.inl rfl), Kd.R_lower ho5 (below_size QB.out)⟩); clear HS QB hb ho5)
      go_loopg [9] k (fun kq v9 w' => ∃ mv : List Int, Aside0 (forF k P n l0 l1 kq mv = some (r1, r2)) ∧ Aside0 (ForW w0 w g n gm cm l0 l1 mv w'))
      case atStart => exact ⟨_, HF, HS2⟩
      case round =>
        clear HF HS2 f1 f2
        obtain ⟨mv, HF, HS⟩ := hrel
        cases gk with
        | zero => have := HF.out; simp [forF] at this
        | succ gq =>
        go_wp2
        go_loopg [10, 9] m (fun kq v10 v9 w' => ∃ j : Nat, v10 = .int .i64 j ∧ v9 = .bool (fwN l1 (mv, false) j).2 ∧ Aside0 (j + kq = m) ∧ Aside0 (ForW w0 w g n gm cm l0 l1 (fwN l1 (mv, false) j).1 w'))
        case atStart => exact ⟨0, by first | rfl | simp, rfl, ⟨by omega⟩, HS⟩
        case round =>
          clear HS
          obtain ⟨j, rfl, rfl, HJ, HS⟩ := hrel
          obtain ⟨B0, d0, B1, d1, hg, hgg, _, q1⟩ := HS.out.I
          rw [← HM0.out] at hg q1
          have BG := Aside0.mk hg
          have HRW := Aside0.mk (Kd.C_below q1 HS.out.B)
          have c1_1 : wr.cell? ⟨g, 1, none⟩ = some (.slice B1 m d1) := (blk_cell BG.out 1).trans rfl
          clear hg hgg q1
          by_cases hlj : j < m
          · cases gk with
            | zero => have := HJ.out; omega
            | succ gq2 =>
            obtain ⟨ad, hA, x0, x1, x2⟩ := at_T55 HRW.out (j : Int) (by omega) (by omega)
            cases hA
            rw [Int.toNat_natCast] at x0 x1 x2
            obtain ⟨o0, o1, o2, o3⟩ := HW.out j hlj
            obtain ⟨S, hS⟩ : ∃ S, S = fwN l1 (mv, false) j := ⟨_, rfl⟩
            have HX : Aside0 (fwN l1 (mv, false) (j + 1) = fwStep (rd_T55 l1 (j : Int)) S) := ⟨by rw [hS]; rfl⟩
            rw [← hS] at HS
            rw [← hS]
            clear hS
            obtain ⟨el, hel⟩ : ∃ el, el = rd_T55 l1 (j : Int) := ⟨_, rfl⟩
            rw [← hel] at x0 x1 x2 o0 o1 o2 o3 HX
            clear hel
            obtain ⟨a, ha⟩ : ∃ a : Nat, el.f0 = a := ⟨el.f0.toNat, by omega⟩
            obtain ⟨b, hb⟩ : ∃ b : Nat, el.f1 = b := ⟨el.f1.toNat, by omega⟩
            obtain ⟨f0, f1', f2⟩ := el
            simp only at x0 x1 x2 o0 o1 o2 o3 ha hb
            subst ha
            subst hb
            have hi0 : a < n := by omega
            have hi1 : b < n := by omega
            have p0 : (0 ≤ (a : Int)) = True := eq_true (by omega)
            have p1 : ((a : Int) < (n : Int)) = True := eq_true (by omega)
            have q0 : (0 ≤ (b : Int)) = True := eq_true (by omega)
            have q1 : ((b : Int) < (n : Int)) = True := eq_true (by omega)
            have p2 : (0 ≤ (j : Int)) = True := eq_true (by omega)
            have p3 : ((j : Int) < (m : Int)) = True := eq_true (by omega)
            have wj : IntKind.i64.wrap ((j : Int) + 1) = (j : Int) + 1 := IntWalk.i64_in _ ⟨by omega, by omega⟩
            go_wp2_with ((with_reducible refine gate_dst (N := 11) rfl ?_); refine box_event ?hg (N := 11) ?hd (cs := #[.int .i64 0, .int .i64 0, .int .i64 0]) (t := 55) ?hr ?_; (case hd => rfl); (case hg => rfl); (case hr => first | (go_simp; done) | (go_simp; rfl)); intro g5 hg wn hbox hb5; have B5 := Aside0.mk hbox; have HB5 := Aside0.mk hb5; have GE5 := Aside0.mk (show wr.heap.size ≤ g5 by rw [hg]; exact Nat.le_refl _); clear hg hb5 hbox; have z5_0 := blk_frozen B5.out 0; have z5_1 := blk_frozen B5.out 1; have z5_2 := blk_frozen B5.out 2; have c5_0 : wn.cell? ⟨g5, 0, none⟩ = some (.int .i64 0) := (blk_cell B5.out 0).trans rfl; have c5_1 : wn.cell? ⟨g5, 1, none⟩ = some (.int .i64 0) := (blk_cell B5.out 1).trans rfl; have c5_2 : wn.cell? ⟨g5, 2, none⟩ = some (.int .i64 0) := (blk_cell B5.out 2).trans rfl)
            have HBX := below_set (j := 2) (v := .int .i64 f2) (below_set (j := 1) (v := .int .i64 (b : Int)) (below_set (j := 0) (v := .int .i64 (a : Int)) HB5.out GE5.out) GE5.out) GE5.out
            have HA := Aside0.mk (HS.out.move HBX)
            have p5 := Aside0.mk (blk_put (cs' := #[.int .i64 (a : Int), .int .i64 (b : Int), .int .i64 f2]) (blk_put (cs' := #[.int .i64 (a : Int), .int .i64 (b : Int), .int .i64 0]) (blk_put (cs' := #[.int .i64 (a : Int), .int .i64 0, .int .i64 0]) B5.out 0 (.int .i64 (a : Int)) rfl) 1 (.int .i64 (b : Int)) rfl) 2 (.int .i64 f2) rfl)
            clear c5_0 c5_1 c5_2 z5_0 z5_1 z5_2 B5 HBX HB5 GE5 c1_1 x0 x1 x2 BG HRW HS
            generalize ((wn.setCell ⟨g5, 0, none⟩ (.int .i64 (a : Int))).setCell ⟨g5, 1, none⟩ (.int .i64 (b : Int))).setCell ⟨g5, 2, none⟩ (.int .i64 f2) = W5 at p5 HA ⊢
            have k5_0 : W5.cell? ⟨g5, 0, none⟩ = some (.int .i64 (a : Int)) := (blk_cell p5.out 0).trans rfl
            have k5_1 : W5.cell? ⟨g5, 1, none⟩ = some (.int .i64 (b : Int)) := (blk_cell p5.out 1).trans rfl
            have k5_2 : W5.cell? ⟨g5, 2, none⟩ = some (.int .i64 f2) := (blk_cell p5.out 2).trans rfl
            obtain ⟨ka, za⟩ := HA.out.cel a hi0
            obtain ⟨kb, zb⟩ := HA.out.cel b hi1
            clear za p5
            cases hv : decide (rd S.1 (b : Int) < wrap64 (rd S.1 (a : Int) - f2)) with
            | false =>
              have HV : Aside0 (fwN l1 (mv, false) (j + 1) = S) := ⟨by rw [HX.out]; unfold fwStep; rw [if_neg (show ¬ wrap64 (rd S.1 (a : Int) - f2) > rd S.1 (b : Int) from of_decide_eq_false hv)]⟩
              go_quiet (fail)
              have HA2 := Aside0.mk (HA.out.move (pw_below_drewN (Below.refl _ _) nq))
              clear HA
              go_wp2
              go_roundg gq2
              case measure => omega
              case rel => exact ⟨j + 1, by go_num, by rw [HV.out], ⟨by have := HJ.out; omega⟩, by rw [HV.out]; exact HA2⟩
            | true =>
              have HV : Aside0 (fwN l1 (mv, false) (j + 1) = (S.1.set b (wrap64 (rd S.1 (a : Int) - f2)), true)) := ⟨by rw [HX.out]; unfold fwStep; rw [if_pos (show wrap64 (rd S.1 (a : Int) - f2) > rd S.1 (b : Int) from of_decide_eq_true hv), Int.toNat_natCast]⟩
              go_quiet (fail)
              have zb2 : (W5.drewN nq).frozen? ⟨gm, b, none⟩ = false := zb
              have kb2 : (W5.drewN nq).cell? ⟨gm, b, none⟩ = some (.int .i64 (rd S.1 (b : Int))) := kb
              have HA2 := Aside0.mk ((HA.out.move (pw_below_drewN (Below.refl _ _) nq)).put H0.out b (wrap64 (rd S.1 (a : Int) - f2)))
              clear HA
              go_wp2
              go_roundg gq2
              case measure => omega
              case rel => exact ⟨j + 1, by go_num, by rw [HV.out], ⟨by have := HJ.out; omega⟩, by rw [HV.out]; exact HA2⟩
          · have hj : j = m := by have := HJ.out; omega
            have f1 : decide ((j : Int) < (m : Int)) = false := decide_eq_false (by omega)
            have f2 : decide (j < m) = false := decide_eq_false hlj
            obtain ⟨⟨mv1, ch⟩, hS⟩ : ∃ S : MC, S = fwN l1 (mv, false) j := ⟨_, rfl⟩
            have HSE : Aside0 (fwN l1 (mv, false) l1.length = (mv1, ch)) := ⟨by rw [hS, hj, HM0.out]⟩
            have e1 : (fwN l1 (mv, false) j).1 = mv1 := by rw [← hS]
            have e2 : (fwN l1 (mv, false) j).2 = ch := by rw [← hS]
            rw [e1] at HS
            rw [e2]
            clear hS hj hlj BG HRW e1 e2
            cases ch with
            | true =>
              have HF2 : Aside0 ((if overN 20 mv1 n = true then some (([] : List Int), false) else forF k P n l0 l1 gq mv1) = some (r1, r2)) := ⟨by have h := HF.out; rw [forF, HSE.out, if_pos rfl, Option.bind_some, if_pos rfl] at h; exact h⟩
              clear HF HSE
              go_wp2
              clear c1_1
              go_loopg [16] n (fun kq v16 w' => ∃ p : Nat, v16 = .int .i64 p ∧ Aside0 (p + kq = n) ∧ Aside0 (overN 20 mv1 p = false) ∧ Aside0 (ForW w0 w g n gm cm l0 l1 mv1 w'))
              case atStart => exact ⟨0, by first | rfl | simp, ⟨by omega⟩, ⟨rfl⟩, HS⟩
              case round =>
                clear HS
                obtain ⟨p, rfl, HP, HO, HS⟩ := hrel
                by_cases hlp : p < n
                · cases gk with
                  | zero => have := HP.out; omega
                  | succ gq3 =>
                  obtain ⟨kp, zp⟩ := HS.out.cel p hlp
                  clear zp
                  have p0 : (0 ≤ (p : Int)) = True := eq_true (by omega)
                  have p1 : ((p : Int) < (n : Int)) = True := eq_true (by omega)
                  have wp : IntKind.i64.wrap ((p : Int) + 1) = (p : Int) + 1 := IntWalk.i64_in _ ⟨by omega, by omega⟩
                  cases hv : decide (20 < rd mv1 (p : Int)) with
                  | true =>
                    have HV : Aside0 (r1 = [] ∧ r2 = false) := ⟨by
                      have h := HF2.out
                      have ho : overN 20 mv1 n = true := by
                        have hs : ∀ d, p + 1 + d ≤ n → overN 20 mv1 (p + 1 + d) = true := by
                          intro d
                          induction d with
                          | zero => intro _; rw [Nat.add_zero, overN, show decide (rd mv1 (p : Int) > 20) = true from hv, Bool.or_true]
                          | succ d ih => intro hd; rw [← Nat.add_assoc, overN, ih (by omega), Bool.true_or]
                        have := hs (n - (p + 1)) (by omega)
                        rwa [show p + 1 + (n - (p + 1)) = n by omega] at this
                      rw [if_pos ho] at h
                      injection h with h
                      injection h with h3 h4
                      exact ⟨h3.symm, h4.symm⟩⟩
                    have HWS : Aside0 (w.heap.size ≤ wr.heap.size) := ⟨HS.out.K.1⟩
                    have HRL := Aside0.mk (Kd.R_of_own (enc := Value.int .i64) (h1 := fun _ => rfl) (ok := fun _ => True) (own_lit_of (enc := Value.int .i64) wr w.heap.size 2 ([] : List Int) HWS.out (by simp)) (fun _ _ => trivial))
                    go_wp2
                    go_ret2
                    obtain ⟨e1, e2⟩ := HV.out
                    subst e1 e2
                    have H2 := HS.out.move (below_alloc (Below.refl wr.heap.size wr) (.cells #[] 2))
                    exact ⟨_, rfl, HRL.out, H2.I, H2.B, H2.K⟩
                  | false =>
                    have HO2 : Aside0 (overN 20 mv1 (p + 1) = false) := ⟨by rw [overN, HO.out, Bool.false_or]; exact hv⟩
                    go_wp2
                    go_roundg gq3
                    case measure => omega
                    case rel => exact ⟨p + 1, by go_num, ⟨by have := HP.out; omega⟩, HO2, HS⟩
                · have e : p = n := by have := HP.out; omega
                  have f3 : decide ((p : Int) < (n : Int)) = false := decide_eq_false (by omega)
                  have f3' : decide (p < n) = false := decide_eq_false hlp
                  have HF3 : Aside0 (forF k P n l0 l1 gq mv1 = some (r1, r2)) := ⟨by have h := HF2.out; rw [← e, if_neg (by rw [HO.out]; decide)] at h; rw [← e]; exact h⟩
                  clear hlp e HO HF2
                  go_wp2
                  go_roundg gq
                  case measure => omega
                  case rel => exact ⟨mv1, HF3, HS⟩
            | false =>
              obtain ⟨⟨p1, p2⟩, hMd, hG1, hG2, hG3, hF4⟩ : ∃ p : List Int × List S55, spec_l08Moved.f k l0 l1 mv1 = some p ∧ p.1.length = n ∧ p.2.length ≤ 1000000 ∧ (∀ w ∈ p.2, WireIn n w) ∧ (if (feN (endOut P n (endRounds p.1 p.2 n) n) (mv1, false) n).2 = true then (if overN 20 (feN (endOut P n (endRounds p.1 p.2 n) n) (mv1, false) n).1 n = true then some (([] : List Int), false) else forF k P n l0 l1 gq (feN (endOut P n (endRounds p.1 p.2 n) n) (mv1, false) n).1) else (spec_l08Can.f k l0 l1 (feN (endOut P n (endRounds p.1 p.2 n) n) (mv1, false) n).1).bind fun b => some ((feN (endOut P n (endRounds p.1 p.2 n) n) (mv1, false) n).1, b)) = some (r1, r2) := by
                have h := HF.out
                rw [forF, HSE.out, if_neg (show ¬ (false = true) from Bool.false_ne_true)] at h
                unfold fEnds at h
                obtain ⟨s, h3, h4⟩ := Option.bind_eq_some_iff.mp h
                obtain ⟨p, h5, h6⟩ := Option.bind_eq_some_iff.mp h3
                by_cases hc : p.1.length = n ∧ p.2.length ≤ 1000000 ∧ (∀ w ∈ p.2, WireIn n w)
                · rw [if_pos hc] at h6
                  injection h6 with h6
                  subst h6
                  exact ⟨p, h5, hc.1, hc.2.1, hc.2.2, h4⟩
                · rw [if_neg hc] at h6; cases h6
              have HMd := Aside0.mk hMd
              have HG1 := Aside0.mk hG1
              have HG2 := Aside0.mk hG2
              have HG3 := Aside0.mk hG3
              have HF4 := Aside0.mk hF4
              clear hMd hG1 hG2 hG3 hF4 HF HSE
              have HL : Aside0 (n = mv1.length) := ⟨(Kd.R_reads' HS.out.R).1⟩
              go_wp2_with (first
                | (go_at_call 63; have T := spec_l08Moved.calls k g l0 l1 (some ⟨gm, 0, none⟩) cm mv1 p1 p2 w0 wr HS.out.I HS.out.B (by rw [← HL.out]; exact HL.out ▸ (Kd.R_reads' HS.out.R).2.2) (by rw [← HL.out]; exact (Kd.R_reads' HS.out.R).2.1) (fun ad ha _ => by cases ha; exact fun e => HS.out.ne e.symm) HMd.out; rw [← HL.out] at T; refine T.mono ?_; clear T; rintro e wz ⟨v0, v1, rfl, ho0, ho1, hi, hb, hk⟩; obtain ⟨X0, y0, ev0⟩ := Kd.R_slice ho0; subst ev0; obtain ⟨X1, y1, ev1⟩ := Kd.R_slice ho1; subst ev1; have HS2 := Aside0.mk (HS.out.call hi hb hk); have HO0 := Aside0.mk (Kd.R_reads' ho0).2.2; have HO1 := Aside0.mk (Kd.R_reads' ho1).2.2; rw [HG1.out]; clear HS hi hb hk ho0 ho1 c1_1)
                | (go_at_call 97; refine (ends_walk wz.heap.size X0 y0 p1 X1 y1 p2 P n p2.length HG1.out.symm rfl h1 hn HG2.out (fun j hj => HG3.out _ (by unfold rd_T55; rw [Int.toNat_natCast, List.getD_eq_getElem?_getD, List.getElem?_eq_getElem hj]; exact List.getElem_mem hj)) _ (blk_new wz _) (by rw [← HG1.out]; exact Kd.C_alloc HO0.out _) (Kd.C_alloc HO1.out _)).mono ?_; rintro e wy ⟨vE, rfl, hE, hb⟩; obtain ⟨gE, cE, evE, _, _, _⟩ := Kd.R_form hE (by rw [endOut_len]; omega); rw [endOut_len] at evE; subst evE; have HS3 := Aside0.mk ((HS2.out.move (below_alloc (Below.refl wz.heap.size wz) _)).move hb); have HEE := Aside0.mk (Kd.R_lower hE (show w.heap.size ≤ _ from (HS2.out.move (below_alloc (Below.refl wz.heap.size wz) _)).K.1)); clear HS2 hE hb HO0 HO1))
              obtain ⟨E, hEd⟩ : ∃ E, E = endOut P n (endRounds p1 p2 n) n := ⟨_, rfl⟩
              rw [← hEd] at HF4 HEE
              clear hEd HMd HG1 HG2 HG3
              go_loopg [15, 9] n (fun kq v15 v9 w' => ∃ q : Nat, v15 = .int .i64 q ∧ v9 = .bool (feN E (mv1, false) q).2 ∧ Aside0 (q + kq = n) ∧ Aside0 (ForW w0 w g n gm cm l0 l1 (feN E (mv1, false) q).1 w') ∧ Aside0 (Kd.R Kd.bool 4 w' w.heap.size (fun _ => True) (.slice (some ⟨gE, 0, none⟩) n cE) E))
              case atStart => exact ⟨0, by first | rfl | simp, rfl, ⟨by omega⟩, HS3, HEE⟩
              case round =>
                clear HS3 HEE
                obtain ⟨q, rfl, rfl, HQ, HS, HEE⟩ := hrel
                by_cases hlq : q < n
                · cases gk with
                  | zero => have := HQ.out; omega
                  | succ gq2 =>
                  obtain ⟨S, hS⟩ : ∃ S, S = feN E (mv1, false) q := ⟨_, rfl⟩
                  have HX : Aside0 (feN E (mv1, false) (q + 1) = feStep E q S) := ⟨by rw [hS]; rfl⟩
                  rw [← hS] at HS
                  rw [← hS]
                  clear hS
                  obtain ⟨kE, zE⟩ := Kd.R_celln false HEE.out (q : Int) (by omega) (by omega)
                  rw [Int.toNat_natCast] at kE
                  obtain ⟨kq', zq⟩ := HS.out.cel q hlq
                  have p0 : (0 ≤ (q : Int)) = True := eq_true (by omega)
                  have p1' : ((q : Int) < (n : Int)) = True := eq_true (by omega)
                  have wq : IntKind.i64.wrap ((q : Int) + 1) = (q : Int) + 1 := IntWalk.i64_in _ ⟨by omega, by omega⟩
                  clear zE
                  cases hv : rdOf false E (q : Int) with
                  | false =>
                    have HV : Aside0 (feN E (mv1, false) (q + 1) = S) := ⟨by rw [HX.out]; unfold feStep; rw [if_neg (by rw [hv]; decide)]⟩
                    rw [hv] at kE
                    clear hv
                    go_wp2
                    go_roundg gq2
                    case measure => omega
                    case rel => exact ⟨q + 1, by go_num, by rw [HV.out], ⟨by have := HQ.out; omega⟩, by rw [HV.out]; exact HS, HEE⟩
                  | true =>
                    have HV : Aside0 (feN E (mv1, false) (q + 1) = (S.1.set q (wrap64 (rd S.1 (q : Int) + 1)), true)) := ⟨by rw [HX.out]; unfold feStep; rw [if_pos hv]⟩
                    rw [hv] at kE
                    clear hv
                    have HA2 := Aside0.mk (HS.out.put H0.out q (wrap64 (rd S.1 (q : Int) + 1)))
                    have HE2 : Aside0 (Kd.R Kd.bool 4 (wr.setCell ⟨gm, q, none⟩ (.int .i64 (wrap64 (rd S.1 (q : Int) + 1)))) w.heap.size (fun _ => True) (.slice (some ⟨gE, 0, none⟩) n cE) E) := ⟨by
                      obtain ⟨cells, qq⟩ := Kd.R_typed HS.out.R gm (by simp [Value.ownBlock])
                      exact Kd.R_mono (Kd.R_far (p := ⟨gm, q, none⟩) (Kd.R_types HEE.out qq (by decide)) (fun _ hk => hk.2) _) (fun _ _ => trivial)⟩
                    go_wp2
                    go_roundg gq2
                    case measure => omega
                    case rel => exact ⟨q + 1, by go_num, by rw [HV.out], ⟨by have := HQ.out; omega⟩, by rw [HV.out]; exact HA2, HE2⟩
                · have hq : q = n := by have := HQ.out; omega
                  have f3 : decide ((q : Int) < (n : Int)) = false := decide_eq_false (by omega)
                  have f3' : decide (q < n) = false := decide_eq_false hlq
                  obtain ⟨⟨mv2, ch2⟩, hS⟩ : ∃ S : MC, S = feN E (mv1, false) q := ⟨_, rfl⟩
                  have e1 : (feN E (mv1, false) q).1 = mv2 := by rw [← hS]
                  have e2 : (feN E (mv1, false) q).2 = ch2 := by rw [← hS]
                  rw [← hq, e1, e2] at HF4
                  rw [e1] at HS
                  rw [e2]
                  rw [hq] at HF4
                  clear hS e1 e2 hq hlq HEE
                  cases ch2 with
                  | true =>
                    have HF2 : Aside0 ((if overN 20 mv2 n = true then some (([] : List Int), false) else forF k P n l0 l1 gq mv2) = some (r1, r2)) := ⟨by have h := HF4.out; rw [if_pos rfl] at h; exact h⟩
                    clear HF4
                    go_wp2
                    go_loopg [16] n (fun kq v16 w' => ∃ p : Nat, v16 = .int .i64 p ∧ Aside0 (p + kq = n) ∧ Aside0 (overN 20 mv2 p = false) ∧ Aside0 (ForW w0 w g n gm cm l0 l1 mv2 w'))
                    case atStart => exact ⟨0, by first | rfl | simp, ⟨by omega⟩, ⟨rfl⟩, HS⟩
                    case round =>
                      clear HS
                      obtain ⟨p, rfl, HP, HO, HS⟩ := hrel
                      by_cases hlp : p < n
                      · cases gk with
                        | zero => have := HP.out; omega
                        | succ gq3 =>
                        obtain ⟨kp, zp⟩ := HS.out.cel p hlp
                        clear zp
                        have p0 : (0 ≤ (p : Int)) = True := eq_true (by omega)
                        have p1 : ((p : Int) < (n : Int)) = True := eq_true (by omega)
                        have wp : IntKind.i64.wrap ((p : Int) + 1) = (p : Int) + 1 := IntWalk.i64_in _ ⟨by omega, by omega⟩
                        cases hv : decide (20 < rd mv2 (p : Int)) with
                        | true =>
                          have HV : Aside0 (r1 = [] ∧ r2 = false) := ⟨by
                            have h := HF2.out
                            have ho : overN 20 mv2 n = true := by
                              have hs : ∀ d, p + 1 + d ≤ n → overN 20 mv2 (p + 1 + d) = true := by
                                intro d
                                induction d with
                                | zero => intro _; rw [Nat.add_zero, overN, show decide (rd mv2 (p : Int) > 20) = true from hv, Bool.or_true]
                                | succ d ih => intro hd; rw [← Nat.add_assoc, overN, ih (by omega), Bool.true_or]
                              have := hs (n - (p + 1)) (by omega)
                              rwa [show p + 1 + (n - (p + 1)) = n by omega] at this
                            rw [if_pos ho] at h
                            injection h with h
                            injection h with h3 h4
                            exact ⟨h3.symm, h4.symm⟩⟩
                          have HWS : Aside0 (w.heap.size ≤ wr.heap.size) := ⟨HS.out.K.1⟩
                          have HRL := Aside0.mk (Kd.R_of_own (enc := Value.int .i64) (h1 := fun _ => rfl) (ok := fun _ => True) (own_lit_of (enc := Value.int .i64) wr w.heap.size 2 ([] : List Int) HWS.out (by simp)) (fun _ _ => trivial))
                          go_wp2
                          go_ret2
                          obtain ⟨e1, e2⟩ := HV.out
                          subst e1 e2
                          have H2 := HS.out.move (below_alloc (Below.refl wr.heap.size wr) (.cells #[] 2))
                          exact ⟨_, rfl, HRL.out, H2.I, H2.B, H2.K⟩
                        | false =>
                          have HO2 : Aside0 (overN 20 mv2 (p + 1) = false) := ⟨by rw [overN, HO.out, Bool.false_or]; exact hv⟩
                          go_wp2
                          go_roundg gq3
                          case measure => omega
                          case rel => exact ⟨p + 1, by go_num, ⟨by have := HP.out; omega⟩, HO2, HS⟩
                      · have e : p = n := by have := HP.out; omega
                        have f3 : decide ((p : Int) < (n : Int)) = false := decide_eq_false (by omega)
                        have f3' : decide (p < n) = false := decide_eq_false hlp
                        have HF3 : Aside0 (forF k P n l0 l1 gq mv2 = some (r1, r2)) := ⟨by have h := HF2.out; rw [← e, if_neg (by rw [HO.out]; decide)] at h; rw [← e]; exact h⟩
                        clear hlp e HO HF2
                        go_wp2
                        go_roundg gq
                        case measure => omega
                        case rel => exact ⟨mv2, HF3, HS⟩
                  | false =>
                    obtain ⟨hCan, hr1⟩ : spec_l08Can.f k l0 l1 mv2 = some r2 ∧ r1 = mv2 := by
                      have h := HF4.out
                      rw [if_neg (show ¬ (false = true) from Bool.false_ne_true)] at h
                      obtain ⟨b, h3, h4⟩ := Option.bind_eq_some_iff.mp h
                      injection h4 with h4
                      injection h4 with h5 h6
                      subst h5 h6
                      exact ⟨h3, rfl⟩
                    subst hr1
                    have HCan := Aside0.mk hCan
                    clear hCan HF4
                    have HL2 : Aside0 (n = r1.length) := ⟨(Kd.R_reads' HS.out.R).1⟩
                    go_wp2_with (go_at_call 56; have T := spec_l08Can.calls k g l0 l1 (some ⟨gm, 0, none⟩) cm r1 r2 w0 wr HS.out.I HS.out.B (by rw [← HL2.out]; exact HL2.out ▸ (Kd.R_reads' HS.out.R).2.2) (by rw [← HL2.out]; exact (Kd.R_reads' HS.out.R).2.1) (fun ad ha _ => by cases ha; exact fun e => HS.out.ne e.symm) HCan.out; rw [← HL2.out] at T; refine T.mono ?_; clear T; rintro e wz ⟨rfl, hi, hb, hk⟩; have HS2 := Aside0.mk (HS.out.call hi hb hk); clear HS hi hb hk)
                    go_ret2
                    exact ⟨_, rfl, HS2.out.R, HS2.out.I, HS2.out.B, HS2.out.K⟩
theorem spec_l08For.calls (k : Nat) (g : Nat) (s0_0 : List Int) (s0_1 : List (S55)) (a1 : Int) (r1 : List Int) (r2 : Bool) (w0 w : World) (hI : IsS36 w0 w g s0_0 s0_1) (hB : Below w0.heap.size w0 w) (h : spec_l08For.f k s0_0 s0_1 a1 = some (r1, r2)) :
    Calls Try.prog 73 #[.pointer (some ⟨g, 0, none⟩), .int .i64 a1] w fun e w' => ∃ v : Value, e = .returned (.tuple #[v, .bool r2]) ∧ Kd.R (Kd.int .i64) 2 w' w.heap.size (fun _ => True) v r1 ∧ IsS36 w0 w' g s0_0 s0_1 ∧ Below w0.heap.size w0 w' ∧ KeepBut w w' g none := by
  unfold spec_l08For.f at h
  by_cases hc : 1 ≤ s0_0.length ∧ s0_0.length ≤ 1000000 ∧ s0_1.length ≤ 1000000 ∧ (∀ w ∈ s0_1, WireIn s0_0.length w)
  · rw [if_pos hc] at h
    exact for_walk k g s0_0 s0_1 a1 r1 r2 w0 w s0_0.length s0_1.length rfl rfl hc.1 hc.2.1 hc.2.2.1 (fun j hj => by
      refine hc.2.2.2 _ ?_
      unfold rd_T55
      rw [Int.toNat_natCast, List.getD_eq_getElem?_getD, List.getElem?_eq_getElem hj]
      exact List.getElem_mem hj) hI hB h
  · rw [if_neg hc] at h; cases h
end Go.Proofs.Ytojpibpjieanhaa.X
end
section
-- Written by a program of this session out of the kit's print of the loaded functions: a plain function of a Go function, and its contract.
namespace Go.Proofs.Ytojpibpjieanhaa.X
open Go.RowKit Go.Proofs.YtojpibpjieanhaaW.PrintWords Go.Proofs.YtojpibpjieanhaaW.PrintLast Go.Proofs.YtojpibpjieanhaaW.PrintMore
attribute [local go_sem] max2_int min2_int max_two min_two max_three min_three max_four min_four   -- for this text's walks alone
set_option linter.unusedVariables false
set_option linter.unusedSimpArgs false
def impl_Flow_period.f (k : Nat) (l0_0 : List Int) (l0_1 : List (S55)) : Option (Int) := (impl_Flow_slowest.f l0_0 l0_1).bind fun t409 => ((slices_Max_int64_int64.f k t409).bind fun t412 => (some t412))
theorem impl_Flow_period.mono : ∀ a0 a1 k, LeO (impl_Flow_period.f k a0 a1) (impl_Flow_period.f (k + 1) a0 a1) := by
 intro a0 a1 k
 unfold impl_Flow_period.f
 repeat' first
   | (with_reducible exact slices_Max_int64_int64.mono _ _)
   | (with_reducible exact LeO.refl _)
   | (with_reducible exact LeO.none _)
   | (with_reducible refine LeO.ite ?_ ?_)
   | (with_reducible refine LeO.bind ?_ (fun _ => ?_))
   | exact slices_Max_int64_int64.mono _ _
   | exact LeO.none _
   | refine LeO.ite ?_ ?_
   | refine LeO.bind ?_ (fun _ => ?_)
set_option maxHeartbeats 8000000 in
set_option maxRecDepth 100000 in
theorem impl_Flow_period.calls (k : Nat) (A0_0 : Option Addr) (c0_0 : Nat) (l0_0 : List Int) (A0_1 : Option Addr) (c0_1 : Nat) (l0_1 : List (S55)) (r : Int) (w : World) (hr0_0 : Kd.C (Kd.int .i64) w A0_0 l0_0.length l0_0) (hc0_0 : l0_0.length ≤ c0_0) (hr0_1 : Kd.C k55 w A0_1 l0_1.length l0_1) (hc0_1 : l0_1.length ≤ c0_1) (h : impl_Flow_period.f k l0_0 l0_1 = some r) :
  Calls Try.prog 59 #[.agg #[.slice A0_0 l0_0.length c0_0, .slice A0_1 l0_1.length c0_1]] w fun e w' => e = .returned (.int .i64 r) ∧ Below w.heap.size w w' := by
 have hu36 := Try.underlying36
 have HR0_0 := Aside0.mk hr0_0
 have HC0_0 := Aside0.mk hc0_0
 clear hr0_0 hc0_0
 have HR0_1 := Aside0.mk hr0_1
 have HC0_1 := Aside0.mk hc0_1
 clear hr0_1 hc0_1
 have HB := Aside0.mk (Below.refl w.heap.size w)
 have H : ((impl_Flow_slowest.f l0_0 l0_1).bind fun t409 => ((slices_Max_int64_int64.f k t409).bind fun t412 => (some t412))) = some r := h
 clear h
 replace H := Option.bind_eq_some_iff.mp H
 obtain ⟨t409, A20, H⟩ := H
 replace H : ((slices_Max_int64_int64.f k t409).bind fun t412 => (some t412)) = some r := H
 have A2 := Aside0.mk A20
 clear A20
 replace H := Option.bind_eq_some_iff.mp H
 obtain ⟨t412, A30, H⟩ := H
 replace H : (some t412) = some r := H
 have A3 := Aside0.mk A30
 clear A30
 obtain rfl := Option.some.inj H
 go_enter Try.func59, Try.ntmps59
 go_wp2_with (first | ((with_reducible refine gate_dst (N := 1) rfl ?_); refine box_event ?hg (N := 1) ?hd (cs := #[.slice A0_0 l0_0.length c0_0, .slice A0_1 l0_1.length c0_1]) (t := 36) ?hr ?_; (case hd => rfl); (case hg => rfl); (case hr => first | (go_simp; done) | (go_simp; rfl)); intro gb408 hg w4 hbox hb; have n0_ := Aside0.mk (below_step (by repeat (first | (with_reducible first | exact HB.out | apply below_alloc | apply pw_below_drewN | apply below_drew1) | exact HB.out)) hb); have n1_ := Aside0.mk (hbox); have n2_ := Aside0.mk ((by rw [hg]; exact (below_size (by repeat (first | (with_reducible first | exact HB.out | apply below_alloc | apply pw_below_drewN | apply below_drew1) | exact HB.out))) : w.heap.size ≤ gb408)); have n3_ := Aside0.mk ((by rw [hg]; exact (below_size (by repeat (first | (with_reducible first | exact HB.out | apply below_alloc | apply pw_below_drewN | apply below_drew1) | exact HB.out))) : w.heap.size ≤ gb408)); clear HB; have HB := n0_; have BK408 := n1_; have GW408 := n2_; have GE408 := n3_; clear n0_ n1_ n2_ n3_; clear hb hbox hg; have hcz5_0 : w4.cell? ⟨gb408, 0, none⟩ = some (.slice A0_0 l0_0.length c0_0) := (blk_cell BK408.out 0).trans rfl; have hcz5_1 : w4.cell? ⟨gb408, 1, none⟩ = some (.slice A0_1 l0_1.length c0_1) := (blk_cell BK408.out 1).trans rfl; have hfz5_0 := blk_frozen BK408.out 0; have hfz5_1 := blk_frozen BK408.out 1) | ((with_reducible refine gate_callee (f := 90) rfl ?_); refine goesL_ (some 4) rfl rfl Try.func90 (by kernel_rfl) rfl #[.agg #[.slice A0_0 l0_0.length c0_0, .slice A0_1 l0_1.length c0_1]] rfl (by (try simp only [List.map_toArray, List.map_cons, List.map_nil]); first | done | rfl | (simp only [List.length_drop, List.length_take]; rfl)) ?_; (with_reducible refine (impl_Flow_slowest.calls _ _ l0_0 _ _ l0_1 t409 _ ?side1 ?side2 ?side3 ?side4 A2.out).mono ?_); (case side1 => repeat (first | exact (Kd.C_below HR0_0.out HB.out) | (with_reducible refine Kd.C_alloc ?_ _) | (with_reducible refine Kd.C_drewN ?_ _) | (with_reducible refine Kd.C_drew ?_))); (case side2 => first | exact trivial | (exact HC0_0.out)); (case side3 => repeat (first | exact (Kd.C_below HR0_1.out HB.out) | (with_reducible refine Kd.C_alloc ?_ _) | (with_reducible refine Kd.C_drewN ?_ _) | (with_reducible refine Kd.C_drew ?_))); (case side4 => first | exact trivial | (exact HC0_1.out)); rintro e w6 ⟨v410, rfl, ho0, hb⟩; refine ⟨_, rfl, ?_⟩; have n0_ := Aside0.mk (Kd.R_lower ho0 (below_size (by repeat (first | (with_reducible first | exact HB.out | apply below_alloc | apply pw_below_drewN | apply below_drew1 | refine below_set ?_ GE408.out) | exact HB.out)))); have n1_ := Aside0.mk (blk_below (g := gb408) (o := .cells #[.slice A0_0 l0_0.length c0_0, .slice A0_1 l0_1.length c0_1] 36 (0, 0)) (by (with_reducible repeat (first | refine blk_drewN ?_ _ | refine blk_drew ?_ | refine blk_alloc ?_ _)); exact BK408.out) hb); have n2_ := Aside0.mk (below_step (by repeat (first | (with_reducible first | exact HB.out | apply below_alloc | apply pw_below_drewN | apply below_drew1 | refine below_set ?_ GE408.out) | exact HB.out)) hb); clear BK408; clear HB; have HO411 := n0_; have BK408 := n1_; have HB := n2_; clear n0_ n1_ n2_; (try clear hb); (try clear hb2); (try clear hk); (try clear hi); (try clear ho0); obtain ⟨Ao7, co7, eo7⟩ := Kd.R_slice HO411.out; subst eo7) | ((with_reducible refine gate_callee (f := 75) rfl ?_); refine goesL_ (some 5) rfl rfl Try.func75 (by kernel_rfl) rfl #[.slice Ao7 t409.length co7] rfl (by (try simp only [List.map_toArray, List.map_cons, List.map_nil]); first | done | rfl | (simp only [List.length_drop, List.length_take]; rfl)) ?_; (with_reducible refine (slices_Max_int64_int64.calls k _ _ t409 t412 _ ?side1 ?side2 A3.out).mono ?_); (case side1 => repeat (first | exact (Kd.R_reads' HO411.out).2.2 | (with_reducible refine Kd.C_alloc ?_ _) | (with_reducible refine Kd.C_drewN ?_ _) | (with_reducible refine Kd.C_drew ?_))); (case side2 => first | exact trivial | (exact (Kd.R_reads' HO411.out).2.1)); rintro e w8 ⟨rfl, hb⟩; refine ⟨_, rfl, ?_⟩; have n0_ := Aside0.mk (Kd.R_below (by (with_reducible repeat (first | apply Kd.R_alloc | apply Kd.R_drewN | apply Kd.R_drew)); exact HO411.out) hb); have n1_ := Aside0.mk (blk_below (g := gb408) (o := .cells #[.slice A0_0 l0_0.length c0_0, .slice A0_1 l0_1.length c0_1] 36 (0, 0)) (by (with_reducible repeat (first | refine blk_drewN ?_ _ | refine blk_drew ?_ | refine blk_alloc ?_ _)); exact BK408.out) hb); have n2_ := Aside0.mk (below_step (by repeat (first | (with_reducible first | exact HB.out | apply below_alloc | apply pw_below_drewN | apply below_drew1 | refine below_set ?_ GE408.out) | exact HB.out)) hb); clear HO411; clear BK408; clear HB; have HO411 := n0_; have BK408 := n1_; have HB := n2_; clear n0_ n1_ n2_; (try clear hb); (try clear hb2); (try clear hk); (try clear hi)))
 go_ret
 exact ⟨by first | rfl | (simp [errW_none, errW_some] <;> rfl) | (simp [*, errW_none, errW_some] <;> rfl), by repeat (first | (with_reducible first | exact HB.out | apply below_alloc | apply pw_below_drewN | apply below_drew1 | refine below_set ?_ GE408.out) | exact HB.out)⟩
end Go.Proofs.Ytojpibpjieanhaa.X
end
section
-- Written by a program of this session out of the kit's print of the loaded functions: a plain function of a Go function, and its contract.
namespace Go.Proofs.Ytojpibpjieanhaa.X
open Go.RowKit Go.Proofs.YtojpibpjieanhaaW.PrintWords Go.Proofs.YtojpibpjieanhaaW.PrintLast Go.Proofs.YtojpibpjieanhaaW.PrintMore
attribute [local go_sem] max2_int min2_int max_two min_two max_three min_three max_four min_four   -- for this text's walks alone
set_option linter.unusedVariables false
set_option linter.unusedSimpArgs false
end Go.Proofs.Ytojpibpjieanhaa.X
end
section
-- Written by a program of this session out of the kit's print of the loaded functions: a plain function of a Go function, and its contract.
namespace Go.Proofs.Ytojpibpjieanhaa.X
open Go.RowKit Go.Proofs.YtojpibpjieanhaaW.PrintWords Go.Proofs.YtojpibpjieanhaaW.PrintLast Go.Proofs.YtojpibpjieanhaaW.PrintMore
attribute [local go_sem] max2_int min2_int max_two min_two max_three min_three max_four min_four   -- for this text's walks alone
set_option linter.unusedVariables false
set_option linter.unusedSimpArgs false
mutual
def spec_l08Behind.l0 : Nat → List Int → Int → List Int → List (S55) → Option (List Int × Bool)
 | 0, _, _, _, _ => none
 | k + 1, x4, x5, x1000, x1001 => if x5 ≤ (x1000.length : Int) then (spec_l08Behind.l1 k x4 x5 false 0 x1000 x1001) else (some (x4, false))
def spec_l08Behind.l1 : Nat → List Int → Int → Bool → Int → List Int → List (S55) → Option (List Int × Bool)
 | 0, _, _, _, _, _, _ => none
 | k + 1, x4, x5, x6, x7, x1000, x1001 => if x7 < (x1001.length : Int) then (if 0 ≤ x7 then (if 0 ≤ ((rd_T55 x1001 x7).f0) then (if ((rd_T55 x1001 x7).f0) < (x1000.length : Int) then (if 0 ≤ ((rd_T55 x1001 x7).f1) then (if ((rd_T55 x1001 x7).f1) < (x4.length : Int) then (if ((rd_T55 x1001 x7).f2) = 0 then (if ((rd_T55 x1001 x7).f0) < (x4.length : Int) then (if (wrap64 ((rd x1000 ((rd_T55 x1001 x7).f0)) + (rd x4 ((rd_T55 x1001 x7).f1)))) > (rd x4 ((rd_T55 x1001 x7).f0)) then (spec_l08Behind.l1 k (x4.set (((rd_T55 x1001 x7).f0) : Int).toNat (wrap64 ((rd x1000 ((rd_T55 x1001 x7).f0)) + (rd x4 ((rd_T55 x1001 x7).f1))))) x5 true (wrap64 (x7 + 1)) x1000 x1001) else (spec_l08Behind.l1 k x4 x5 x6 (wrap64 (x7 + 1)) x1000 x1001)) else (none)) else (spec_l08Behind.l1 k x4 x5 x6 (wrap64 (x7 + 1)) x1000 x1001)) else (none)) else (none)) else (none)) else (none)) else (none)) else (if x6 = true then (spec_l08Behind.l0 k x4 (wrap64 (x5 + 1)) x1000 x1001) else (some (x4, true)))
end
def spec_l08Behind.f (k : Nat) (s0_0 : List Int) (s0_1 : List (S55)) : Option (List Int × Bool) := (spec_l00Own.f s0_0).bind fun t391 => (spec_l08Behind.l0 k t391 0 s0_0 s0_1)
end Go.Proofs.Ytojpibpjieanhaa.X
end
section
-- Written by a program of this session out of the kit's print of the loaded functions: a plain function of a Go function, and its contract.
namespace Go.Proofs.Ytojpibpjieanhaa.X
open Go.RowKit Go.Proofs.YtojpibpjieanhaaW.PrintWords Go.Proofs.YtojpibpjieanhaaW.PrintLast Go.Proofs.YtojpibpjieanhaaW.PrintMore
attribute [local go_sem] max2_int min2_int max_two min_two max_three min_three max_four min_four   -- for this text's walks alone
set_option linter.unusedVariables false
set_option linter.unusedSimpArgs false
def spec_l08Period.l0 : Nat → List Int → Int → Int → Option (Int)
 | 0, _, _, _ => none
 | k + 1, x3, x5, x6 => if x6 < (x3.length : Int) then (if 0 ≤ x6 then ((spec_l00Max.f x5 (rd x3 x6)).bind fun t405 => (spec_l08Period.l0 k x3 t405 (wrap64 (x6 + 1)))) else (none)) else (some x5)
def spec_l08Period.f (k : Nat) (s0_0 : List Int) (s0_1 : List (S55)) : Option (Int) := (spec_l08Behind.f k s0_0 s0_1).bind fun bt400 => (spec_l08Period.l0 k bt400.1 0 0)
end Go.Proofs.Ytojpibpjieanhaa.X
end
section
namespace Go.Proofs.Ytojpibpjieanhaa.X
open Go.RowKit Go.Proofs.YtojpibpjieanhaaW.PrintWords Go.Proofs.YtojpibpjieanhaaW.PrintLast Go.Proofs.YtojpibpjieanhaaW.PrintMore
set_option linter.unusedVariables false
set_option linter.unusedSimpArgs false
end Go.Proofs.Ytojpibpjieanhaa.X
end
section
-- Written by a program of this session out of the kit's print of the loaded functions: a plain function of a Go function, and its contract.
namespace Go.Proofs.Ytojpibpjieanhaa.X
open Go.RowKit Go.Proofs.YtojpibpjieanhaaW.PrintWords Go.Proofs.YtojpibpjieanhaaW.PrintLast Go.Proofs.YtojpibpjieanhaaW.PrintMore
attribute [local go_sem] max2_int min2_int max_two min_two max_three min_three max_four min_four   -- for this text's walks alone
set_option linter.unusedVariables false
set_option linter.unusedSimpArgs false
end Go.Proofs.Ytojpibpjieanhaa.X
end
section
namespace Go.Proofs.Ytojpibpjieanhaa.X
open Go.RowKit Go.Proofs.YtojpibpjieanhaaW.PrintWords Go.Proofs.YtojpibpjieanhaaW.PrintLast Go.Proofs.YtojpibpjieanhaaW.PrintMore
open Go.ChangeShapes Go.WideShapes Go.Deep
set_option linter.unusedVariables false
set_option linter.unusedSimpArgs false
section
variable {H : Type} {enc : TypeId × Value → H} {P : Program} {w : World} {base : Nat} {spare : Nat → Bool} {held : Bool}
theorem open_slice_fields {t e : TypeId} {fs : Array Field} {fuel : Nat} {cs : List Value} {x : DataW H × List MemPlace} (ht : P.underlying t = some (.slice e)) (he : P.underlying e = some (.struct fs))
    (hone : oneCellFields P fs = true) (hC : P.cellsOf e = fs.size) (h : DataW.trod enc P w base spare held fuel t cs = some x) :
    (cs = [.slice none 0 0] ∧ x = (.nil, [])) ∨
    ∃ (a : Addr) (len cap m : Nat), cs = [.slice (some a) len cap] ∧ base ≤ a.block ∧ len ≤ cap ∧ cap ≤ maxLen ∧ m = (if spare a.block then cap else len) ∧
      ∀ i, i < m → ∃ (n : Nat), ∀ (j : Nat) (f : Field), fs[j]? = some f → ∃ (v : Value) (y : DataW H × List MemPlace), w.cell? (a.add (i * fs.size + j)) = some v ∧ DataW.trod enc P w base spare held n f.type [v] = some y := by
  rcases open_slice ht h with h0 | ⟨a, len, cap, m, n, D, Pl, hcs, hb, hl, hm, hmm, hx, hi⟩
  · exact .inl h0
  · refine .inr ⟨a, len, cap, m, hcs, hb, hl, hm, hmm, fun i him => ?_⟩
    obtain ⟨cs', hc, ht'⟩ := hi i him
    rw [hC] at hc
    obtain ⟨ys, n', hn', hy, hlen, hyl, hf⟩ := DataW.trod_struct he ht'
    obtain ⟨_, hcl, hat⟩ := World.cells?_some hc
    refine ⟨n', fun j f hj => ?_⟩
    obtain ⟨ho, hk⟩ := hone_of hone j f hj
    have hjl : j < fs.size := (Array.getElem?_eq_some_iff.1 hj).1
    have hcell := hat j hjl
    have hv : cs'[j]? = some (cs'[j]'(by omega)) := List.getElem?_eq_getElem (by omega)
    have h1 := hf j f hj
    rw [ho, hk] at h1
    have hone' : (cs'.drop j).take 1 = [cs'[j]'(by omega)] := by
      rw [List.drop_eq_getElem_cons (by omega)]
      rfl
    rw [hone'] at h1
    have hys : ys[j]? = some (ys[j]'(by omega)) := List.getElem?_eq_getElem (by omega)
    refine ⟨_, _, ?_, h1.trans hys⟩
    rw [← Go.Deep.add_add, hcell, hv]
end
theorem ints_C {w : World} {a : Addr} {l : List Int} (hm : l.length ≤ 9223372036854775807) (h : ∀ i, i < l.length → w.cell? (a.add i) = some (.int .i64 (l.getD i 0))) : Kd.C (Kd.int .i64) w (some a) l.length l := by
  refine ⟨rfl, hm, fun _ => ⟨_, rfl, fun j p hj => ⟨[.int .i64 p], rfl, rfl, fun i u hu => ?_⟩⟩⟩
  obtain ⟨hl, hp⟩ := List.getElem?_eq_some_iff.1 hj
  have h0 : i = 0 := by
    rcases i with _ | i
    · rfl
    · simp at hu
  subst h0
  have hu' : Value.int .i64 p = u := by simpa using hu
  have hc := h j hl
  rw [List.getD_eq_getElem?_getD, hj] at hc
  have e : a.add (j * (Kd.int .i64).sz + 0) = a.add j := by
    show a.add (j * 1 + 0) = a.add j
    rw [Nat.mul_one, Nat.add_zero]
  rw [e, ← hu']
  exact hc
theorem wires_C {w : World} {a : Addr} {l : List S96} (hm : l.length ≤ 9223372036854775807) (h : ∀ i, i < l.length → w.cell? (a.add (i * 3 + 0)) = some (.int .i64 (l.getD i z96).f0) ∧ w.cell? (a.add (i * 3 + 1)) = some (.int .i64 (l.getD i z96).f1) ∧ w.cell? (a.add (i * 3 + 2)) = some (.int .i64 (l.getD i z96).f2)) : Kd.C k96 w (some a) l.length l := by
  refine ⟨rfl, hm, fun _ => ⟨_, rfl, fun j p hj => ⟨[.int .i64 p.f0, .int .i64 p.f1, .int .i64 p.f2], rfl, k96_mk w p, fun i u hu => ?_⟩⟩⟩
  obtain ⟨hl, hp⟩ := List.getElem?_eq_some_iff.1 hj
  have hc := h j hl
  rw [List.getD_eq_getElem?_getD, hj] at hc
  show w.cell? (a.add (j * 3 + i)) = some u
  rcases i with _ | _ | _ | i
  · have hu' : Value.int .i64 p.f0 = u := by simpa using hu
    rw [← hu']; exact hc.1
  · have hu' : Value.int .i64 p.f1 = u := by simpa using hu
    rw [← hu']; exact hc.2.1
  · have hu' : Value.int .i64 p.f2 = u := by simpa using hu
    rw [← hu']; exact hc.2.2
  · simp at hu
section
variable {H : Type} {enc : TypeId × Value → H} {w : World}
theorem open_row_ints {t e : TypeId} {fuel : Nat} {c : Value} {x : DataW H × List MemPlace} (ht : Try.prog.underlying t = some (.slice e)) (he : Try.prog.underlying e = some (.int .i64)) (hc : Try.prog.cellsOf e = 1) (h : DataW.trod enc Try.prog w 0 (fun _ => true) true fuel t [c] = some x) :
    ∃ (A : Option Addr) (cap : Nat) (l : List Int), c = .slice A l.length cap ∧ Kd.C (Kd.int .i64) w A l.length l ∧ l.length ≤ cap ∧ l.length ≤ 9223372036854775807 ∧ ∀ n ∈ l, (Lit.int .i64 n).wf = true := by
  rcases open_ints ht he hc h with ⟨hcs, _⟩ | ⟨a, len, cap, zs, hcs, _, hl, hm, hz, _, hcell, hwz⟩
  · obtain rfl : c = .slice none 0 0 := by simpa using hcs
    exact ⟨none, 0, [], rfl, Kd.C_nil _ _, Nat.le_refl _, by simp, by simp⟩
  · obtain rfl : c = .slice (some a) len cap := by simpa using hcs
    simp only [if_true] at hz
    unfold maxLen at hm
    have hlen : (zs.take len).length = len := by simp; omega
    refine ⟨some a, cap, zs.take len, by rw [hlen], ints_C (by rw [hlen]; omega) (fun i hi => ?_), by rw [hlen]; exact hl, by rw [hlen]; omega, fun n hn => hwz n (List.mem_of_mem_take hn)⟩
    rw [hlen] at hi
    rw [hcell i (by omega)]
    have e : zs.getD i 0 = (zs.take len).getD i 0 := by rw [List.getD_eq_getElem?_getD, List.getD_eq_getElem?_getD, List.getElem?_take_of_lt hi]
    rw [e]
theorem open_row_wires {t e : TypeId} {f0 f1 f2 : Field} {fuel : Nat} {c : Value} {x : DataW H × List MemPlace} (ht : Try.prog.underlying t = some (.slice e)) (he : Try.prog.underlying e = some (.struct #[f0, f1, f2])) (hone : oneCellFields Try.prog #[f0, f1, f2] = true) (hC : Try.prog.cellsOf e = 3)
    (h0 : Try.prog.underlying f0.type = some (.int .i64)) (h1 : Try.prog.underlying f1.type = some (.int .i64)) (h2 : Try.prog.underlying f2.type = some (.int .i64)) (h : DataW.trod enc Try.prog w 0 (fun _ => true) true fuel t [c] = some x) :
    ∃ (A : Option Addr) (cap : Nat) (l : List S96), c = .slice A l.length cap ∧ Kd.C k96 w A l.length l ∧ l.length ≤ cap ∧ l.length ≤ 9223372036854775807 := by
  rcases open_slice_fields ht he hone hC h with ⟨hcs, _⟩ | ⟨a, len, cap, m, hcs, _, hl, hm, hmm, hi⟩
  · obtain rfl : c = .slice none 0 0 := by simpa using hcs
    exact ⟨none, 0, [], rfl, Kd.C_nil _ _, Nat.le_refl _, by simp⟩
  · obtain rfl : c = .slice (some a) len cap := by simpa using hcs
    simp only [if_true] at hmm
    unfold maxLen at hm
    have key : ∀ i, i < len → ∃ s : S96, w.cell? (a.add (i * 3 + 0)) = some (.int .i64 s.f0) ∧ w.cell? (a.add (i * 3 + 1)) = some (.int .i64 s.f1) ∧ w.cell? (a.add (i * 3 + 2)) = some (.int .i64 s.f2) := by
      intro i hil
      obtain ⟨n, hf⟩ := hi i (by omega)
      obtain ⟨v0, y0, c0, t0⟩ := hf 0 f0 rfl
      obtain ⟨v1, y1, c1, t1⟩ := hf 1 f1 rfl
      obtain ⟨v2, y2, c2, t2⟩ := hf 2 f2 rfl
      obtain ⟨a0, e0, _, _⟩ := DataW.trod_int h0 t0
      obtain ⟨a1, e1, _, _⟩ := DataW.trod_int h1 t1
      obtain ⟨a2, e2, _, _⟩ := DataW.trod_int h2 t2
      simp at e0 e1 e2
      subst e0 e1 e2
      exact ⟨⟨a0, a1, a2⟩, c0, c1, c2⟩
    let g : Nat → S96 := fun i => open Classical in if hi : i < len then Classical.choose (key i hi) else z96
    have hg : ∀ i (hi : i < len), w.cell? (a.add (i * 3 + 0)) = some (.int .i64 (g i).f0) ∧ w.cell? (a.add (i * 3 + 1)) = some (.int .i64 (g i).f1) ∧ w.cell? (a.add (i * 3 + 2)) = some (.int .i64 (g i).f2) := by
      intro i hi
      have : g i = Classical.choose (key i hi) := dif_pos hi
      rw [this]
      exact Classical.choose_spec (key i hi)
    have hlen : ((List.range len).map g).length = len := by simp
    refine ⟨some a, cap, (List.range len).map g, by rw [hlen], wires_C (by rw [hlen]; omega) (fun i hi => ?_), by rw [hlen]; exact hl, by rw [hlen]; omega⟩
    rw [hlen] at hi
    have : ((List.range len).map g).getD i z96 = g i := by simp [List.getD_eq_getElem?_getD, hi]
    rw [this]
    exact hg i hi
end
end Go.Proofs.Ytojpibpjieanhaa.X
end
section
namespace Go.Proofs.Ytojpibpjieanhaa.X
open Go.RowKit Go.Proofs.YtojpibpjieanhaaW.PrintWords Go.Proofs.YtojpibpjieanhaaW.PrintLast Go.Proofs.YtojpibpjieanhaaW.PrintMore Go.Proofs.Ytojpibpjieanhaa.FlowMath
set_option linter.unusedVariables false
set_option linter.unusedSimpArgs false
def fn (x : List Int) : Nat → Int := fun v => x.getD v 0
theorem rd_fn (x : List Int) (i : Int) (h : 0 ≤ i) : rd x i = fn x i.toNat := rfl
theorem fn_set (x : List Int) (i : Nat) (b : Int) (hi : i < x.length) (v : Nat) : fn (x.set i b) v = if v = i then b else fn x v := by
  unfold fn
  rw [List.getD_eq_getElem?_getD, List.getD_eq_getElem?_getD, List.getElem?_set]
  by_cases e : i = v
  · subst e; simp [hi]
  · rw [if_neg e, if_neg (fun h => e h.symm)]
theorem fn_ext {x y : List Int} (hl : x.length = y.length) (h : ∀ v, fn x v = fn y v) : x = y := by
  apply List.ext_getElem hl
  intro i h1 h2
  have := h i
  unfold fn at this
  rwa [List.getD_eq_getElem?_getD, List.getD_eq_getElem?_getD, List.getElem?_eq_getElem h1, List.getElem?_eq_getElem h2] at this
def eds : List S55 → List (Nat × Nat)
  | [] => []
  | w :: ws => if w.f2 = 0 then (w.f0.toNat, w.f1.toNat) :: eds ws else eds ws
theorem eds_edge {ws : List S55} {n : Nat} (hw : ∀ w, w ∈ ws → WireOk n w) (e : Nat × Nat) : e ∈ eds ws ↔ Edge ws e.1 e.2 := by
  induction ws with
  | nil => simp [eds, Edge]
  | cons w ws ih =>
    have ih := ih fun x hx => hw x (List.mem_cons_of_mem _ hx)
    have ho := hw w (List.mem_cons_self ..)
    unfold WireOk at ho
    unfold eds
    constructor
    · intro h
      by_cases h2 : w.f2 = 0
      · rw [if_pos h2, List.mem_cons] at h
        rcases h with h | h
        · exact ⟨w, List.mem_cons_self .., h2, by rw [h]; simp; omega, by rw [h]; simp; omega⟩
        · obtain ⟨x, h3, h4⟩ := ih.1 h
          exact ⟨x, List.mem_cons_of_mem _ h3, h4⟩
      · rw [if_neg h2] at h
        obtain ⟨x, h3, h4⟩ := ih.1 h
        exact ⟨x, List.mem_cons_of_mem _ h3, h4⟩
    · rintro ⟨x, h3, h4, h5, h6⟩
      rcases List.mem_cons.mp h3 with h | h
      · subst h
        rw [if_pos h4, List.mem_cons]
        left
        ext
        · simp; omega
        · simp; omega
      · have := ih.2 ⟨x, h, h4, h5, h6⟩
        split
        · exact List.mem_cons_of_mem _ this
        · exact this
def lstep (d x : List Int) (w : S55) : List Int := if w.f2 = 0 then x.set w.f0.toNat (max (fn x w.f0.toNat) (fn d w.f0.toNat + fn x w.f1.toNat)) else x
def lround (d : List Int) (ws : List S55) (x : List Int) : List Int := ws.foldl (lstep d) x
theorem lstep_len (d x : List Int) (w : S55) : (lstep d x w).length = x.length := by unfold lstep; split <;> simp
theorem lround_len (d : List Int) : ∀ (ws : List S55) (x : List Int), (lround d ws x).length = x.length
  | [], _ => rfl
  | w :: ws, x => by rw [lround, List.foldl_cons]; exact (lround_len d ws _).trans (lstep_len d x w)
theorem lstep_fn (d x : List Int) (w : S55) (h : w.f0.toNat < x.length) (h2 : w.f2 = 0) : fn (lstep d x w) = relax (fn d) (fn x) (w.f0.toNat, w.f1.toNat) := by
  funext v
  unfold lstep relax
  rw [if_pos h2, fn_set _ _ _ h]
theorem lround_fn (d : List Int) (n : Nat) : ∀ (ws : List S55) (x : List Int), x.length = n → (∀ w, w ∈ ws → WireOk n w) → fn (lround d ws x) = (eds ws).foldl (relax (fn d)) (fn x)
  | [], _, _, _ => rfl
  | w :: ws, x, hx, hw => by
    have ho := hw w (List.mem_cons_self ..)
    unfold WireOk at ho
    rw [lround, List.foldl_cons]
    have ih := lround_fn d n ws (lstep d x w) (by rw [lstep_len]; exact hx) fun y hy => hw y (List.mem_cons_of_mem _ hy)
    rw [lround] at ih
    rw [ih, eds]
    by_cases h2 : w.f2 = 0
    · rw [if_pos h2, List.foldl_cons, lstep_fn d x w (by omega) h2]
    · rw [if_neg h2]; unfold lstep; rw [if_neg h2]
structure Slow (d : List Int) (ws : List S55) (n : Nat) (D : Nat → Int) : Prop where
  len : d.length = n
  n1 : 1 ≤ n
  n8 : n ≤ 8
  m16 : ws.length ≤ 16
  wok : ∀ w, w ∈ ws → WireOk n w
  del : ∀ v, 0 ≤ fn d v ∧ fn d v ≤ 100
  slow : IsSlow (fn d) (eds ws) D
  top : ∀ v, D v ≤ 800
  conv : fn (lround d ws (List.replicate 0 0)) = fn (lround d ws (List.replicate 0 0))
  rnk : ∀ v, rnds (fn d) (eds ws) n v = D v
theorem slow_of (d : List Int) (ws : List S55) (h : validB d ws = true) : ∃ D, Slow d ws d.length D := by
  unfold validB at h
  rw [Bool.and_eq_true] at h
  obtain ⟨hn, hm, hd, hw⟩ := form_ok h.1
  have hac : ∀ v, ¬ Plus (Edge ws) v v := by
    intro v hv
    have := h.2
    rw [@decide_eq_true _ (Classical.propDecidable _) ⟨v, hv⟩] at this
    simp at this
  have hE : ∀ a b, Edge ws a b → a < d.length ∧ b < d.length := fun a b h => h.lt hw
  have hr : ∀ e, e ∈ eds ws → rank (Edge ws) d.length e.2 < rank (Edge ws) d.length e.1 := fun e he => rank_lt hE hac ((eds_edge hw e).1 he)
  have hdel : ∀ v, 0 ≤ fn d v ∧ fn d v ≤ 100 := by
    intro v
    unfold fn
    rw [List.getD_eq_getElem?_getD]
    rcases Nat.lt_or_ge v d.length with hv | hv
    · rw [List.getElem?_eq_getElem hv]; exact hd _ (List.getElem_mem hv)
    · rw [List.getElem?_eq_none hv]; simp
  obtain ⟨D, hD⟩ := slow_exists (fn d) (eds ws) _ hr
  have htop : ∀ r v, rank (Edge ws) d.length v = r → D v ≤ 100 * ((r : Int) + 1) := by
    intro r
    induction r using Nat.strongRecOn with
    | _ r ih =>
      intro v hv
      rcases hD.att v with ha | ⟨b, hb, ha⟩
      · have := (hdel v).2; omega
      · have h1 := hr _ hb
        simp only at h1
        have h2 := ih _ (by omega) b rfl
        have h3 := (hdel v).2
        omega
  have hrk : ∀ v, rank (Edge ws) d.length v ≤ 8 := by
    intro v
    have := cnt_le (fun u => Plus (Edge ws) v u) d.length
    unfold rank; omega
  refine ⟨D, rfl, hn.1, hn.2, hm, hw, hdel, hD, fun v => ?_, rfl, fun v => ?_⟩
  · rcases hD.att v with ha | ⟨b, hb, ha⟩
    · have := (hdel v).2; omega
    · have h1 := rank_n (E := Edge ws) hac ((hE _ _ ((eds_edge hw _).1 hb)).1)
      have h2 := htop _ v rfl
      simp only at h1
      omega
  · have hs := rnds_slow hD _ hr d.length
    by_cases hv : rank (Edge ws) d.length v < d.length + 1
    · exact hs.2 v hv
    · have := cnt_le (fun u => Plus (Edge ws) v u) d.length
      unfold rank at hv; omega
theorem Slow.btw_step {d : List Int} {ws : List S55} {n : Nat} {D : Nat → Int} (h : Slow d ws n D) {x : List Int} (hx : x.length = n) (hb : Btw (fn d) D (fn x)) {w : S55} (hw : w ∈ ws) : Btw (fn d) D (fn (lstep d x w)) := by
  have ho := h.wok w hw
  unfold WireOk at ho
  by_cases h2 : w.f2 = 0
  · rw [lstep_fn d x w (by omega) h2]
    exact btw_relax h.slow hb _ ((eds_edge h.wok _).2 ⟨w, hw, h2, by simp; omega, by simp; omega⟩)
  · unfold lstep; rw [if_neg h2]; exact hb
theorem Slow.bnd {d : List Int} {ws : List S55} {n : Nat} {D : Nat → Int} (h : Slow d ws n D) {x : List Int} (hb : Btw (fn d) D (fn x)) (v : Nat) : 0 ≤ fn x v ∧ fn x v ≤ 800 := by
  have h1 := hb v
  have h2 := h.del v
  have h3 := h.top v
  omega
theorem rnds_len_fn {d : List Int} {ws : List S55} {n : Nat} {D : Nat → Int} (h : Slow d ws n D) (i : Nat) : Btw (fn d) D (rnds (fn d) (eds ws) i) := by
  induction i with
  | zero => exact fun v => ⟨Int.le_refl _, h.slow.own v⟩
  | succ i ih => exact (fold_btw h.slow (eds ws) _ (fun _ h => h) ih).1
theorem step_eq {d : List Int} {ws : List S55} {n : Nat} {D : Nat → Int} (h : Slow d ws n D) {x : List Int} (hb : Btw (fn d) D (fn x)) {w : S55} (hw : w ∈ ws) : slowStep d x w = lstep d x w := by
  have ho := h.wok w hw
  unfold WireOk at ho
  obtain ⟨o1, o2, o3, o4, o5, o6⟩ := ho
  have b1 := h.bnd hb w.f1.toNat
  have b2 := h.del w.f0.toNat
  unfold slowStep lstep
  by_cases h2 : w.f2 = 0
  · rw [if_pos h2, if_pos (by rw [h2]; rfl), mx_eq, rd_fn x _ o1, rd_fn d _ o1, rd_fn x _ o3, w64 (by omega) (by omega)]
  · rw [if_neg h2, if_neg (by simpa using h2)]
theorem round_eq {d : List Int} {ws : List S55} {n : Nat} {D : Nat → Int} (h : Slow d ws n D) {x : List Int} (hx : x.length = n) (hb : Btw (fn d) D (fn x)) : ∀ j, j ≤ ws.length → slowRound d ws j x = lround d (ws.take j) x ∧ (slowRound d ws j x).length = n ∧ Btw (fn d) D (fn (slowRound d ws j x))
  | 0, _ => ⟨by simp [slowRound, lround], hx, hb⟩
  | j + 1, hj => by
    obtain ⟨h1, h2, h3⟩ := round_eq h hx hb j (by omega)
    have hlt : j < ws.length := by omega
    have hwm : ws[j] ∈ ws := List.getElem_mem hlt
    have e : slowRound d ws (j + 1) x = lstep d (slowRound d ws j x) ws[j] := by rw [slowRound, rdT_at ws j hlt, step_eq h h3 hwm]
    refine ⟨?_, by rw [e, lstep_len]; exact h2, by rw [e]; exact h.btw_step h2 h3 hwm⟩
    rw [e, h1, lround, lround, List.take_add_one, List.getElem?_eq_getElem hlt, Option.toList_some, List.foldl_append]; rfl
theorem rounds_eq {d : List Int} {ws : List S55} {n : Nat} {D : Nat → Int} (h : Slow d ws n D) : ∀ i, (slowRounds d ws i).length = n ∧ fn (slowRounds d ws i) = rnds (fn d) (eds ws) i
  | 0 => ⟨h.len, rfl⟩
  | i + 1 => by
    obtain ⟨h1, h2⟩ := rounds_eq h i
    have hb : Btw (fn d) D (fn (slowRounds d ws i)) := by rw [h2]; exact rnds_len_fn h i
    obtain ⟨e, g1, g2⟩ := round_eq h h1 hb ws.length (Nat.le_refl _)
    refine ⟨g1, ?_⟩
    rw [slowRounds, e, List.take_length, lround_fn d n ws _ h1 h.wok, h2]; rfl
theorem impl_slow {d : List Int} {ws : List S55} {n : Nat} {D : Nat → Int} (h : Slow d ws n D) : ∃ y, impl_Flow_slowest.f d ws = some y ∧ y.length = n ∧ fn y = D := by
  have hn := h.n8
  have hn1 := h.n1
  have hl := h.len
  have hm := h.m16
  refine ⟨slowRounds d ws n, ?_, (rounds_eq h n).1, ?_⟩
  · unfold impl_Flow_slowest.f
    have hin : ∀ j : Nat, j < ws.length → WireIn d.length (rd_T55 ws (j : Int)) := by
      intro j hj
      rw [rdT_at ws j hj]
      have ho := h.wok _ (List.getElem_mem hj)
      unfold WireOk at ho
      unfold WireIn
      omega
    rw [if_pos ⟨by omega, by omega, by omega, hin⟩, hl]
  · funext v
    rw [(rounds_eq h n).2]; exact h.rnk v
def chg (d : List Int) : List S55 → List Int → Bool
  | [], _ => false
  | w :: ws, x => (decide (w.f2 = 0) && decide (fn d w.f0.toNat + fn x w.f1.toNat > fn x w.f0.toNat)) || chg d ws (lstep d x w)
theorem set_same (x : List Int) (i : Nat) : x.set i (fn x i) = x := by
  apply List.ext_getElem?
  intro j
  rw [List.getElem?_set]
  by_cases e : i = j
  · subst e
    rw [if_pos rfl]
    split
    · unfold fn; rw [List.getD_eq_getElem?_getD, List.getElem?_eq_getElem ‹_›]; rfl
    · rw [List.getElem?_eq_none (by omega)]
  · rw [if_neg e]
theorem step_same {d x : List Int} {w : S55} (h : (decide (w.f2 = 0) && decide (fn d w.f0.toNat + fn x w.f1.toNat > fn x w.f0.toNat)) = false) : lstep d x w = x := by
  unfold lstep
  by_cases h2 : w.f2 = 0
  · rw [if_pos h2]
    rw [decide_eq_true h2, Bool.true_and, decide_eq_false_iff_not] at h
    rw [Int.max_eq_left (by omega)]
    exact set_same x _
  · rw [if_neg h2]
theorem chg_false {d : List Int} : ∀ {ws : List S55} {x : List Int}, chg d ws x = false → lround d ws x = x
  | [], _, _ => rfl
  | w :: ws, x, h => by
    rw [chg, Bool.or_eq_false_iff] at h
    have h1 := step_same h.1
    rw [lround, List.foldl_cons, h1]
    rw [h1] at h
    exact chg_false h.2
theorem chg_fix {d : List Int} {D : Nat → Int} {es : List (Nat × Nat)} (hD : IsSlow (fn d) es D) : ∀ {ws : List S55} {x : List Int}, (∀ w, w ∈ ws → w.f2 = 0 → (w.f0.toNat, w.f1.toNat) ∈ es) → fn x = D → chg d ws x = false
  | [], _, _, _ => rfl
  | w :: ws, x, hw, hx => by
    have h1 : (decide (w.f2 = 0) && decide (fn d w.f0.toNat + fn x w.f1.toNat > fn x w.f0.toNat)) = false := by
      by_cases h2 : w.f2 = 0
      · rw [decide_eq_true h2, Bool.true_and, decide_eq_false_iff_not, hx]
        have := hD.far _ (hw w (List.mem_cons_self ..) h2)
        simp only at this
        omega
      · rw [decide_eq_false h2, Bool.false_and]
    rw [chg, h1, Bool.false_or, step_same h1]
    exact chg_fix hD (fun y hy => hw y (List.mem_cons_of_mem _ hy)) hx
theorem spec_in {d : List Int} {ws : List S55} {n : Nat} {D : Nat → Int} (h : Slow d ws n D) (i : Int) : ∀ (e j k : Nat) (x : List Int) (c : Bool), j + e = ws.length → x.length = n → Btw (fn d) D (fn x) → e < k →
    ∃ k', k = k' + e + 1 ∧ spec_l08Behind.l1 k x i c j d ws = if (c || chg d (ws.drop j) x) = true then spec_l08Behind.l0 k' (lround d (ws.drop j) x) (wrap64 (i + 1)) d ws else some (lround d (ws.drop j) x, true)
  | 0, j, k, x, c, hj, hx, hb, hk => by
    cases k with
    | zero => omega
    | succ k => exact ⟨k, by omega, by rw [spec_l08Behind.l1, if_neg (by omega), List.drop_of_length_le (by omega), chg, Bool.or_false]; rfl⟩
  | e + 1, j, k, x, c, hj, hx, hb, hk => by
    cases k with
    | zero => omega
    | succ k =>
      have hlt : j < ws.length := by omega
      have hm := h.m16
      have hwm : ws[j] ∈ ws := List.getElem_mem hlt
      obtain ⟨o1, o2, o3, o4, o5, o6⟩ := h.wok _ hwm
      have hlen := h.len
      have b1 := h.bnd hb ws[j].f1.toNat
      have b2 := h.del ws[j].f0.toNat
      rw [spec_l08Behind.l1, if_pos (by omega), if_pos (by omega), rdT_at ws j hlt, w64 (n := (j : Int) + 1) (by omega) (by omega), if_pos (by omega), if_pos (by omega), if_pos (by omega), if_pos (by omega), rd_fn x _ o1, rd_fn d _ o1, rd_fn x _ o3, w64 (n := fn d ws[j].f0.toNat + fn x ws[j].f1.toNat) (by omega) (by omega), List.drop_eq_getElem_cons hlt, lround, List.foldl_cons, chg]
      by_cases hc : (decide (ws[j].f2 = 0) && decide (fn d ws[j].f0.toNat + fn x ws[j].f1.toNat > fn x ws[j].f0.toNat)) = true
      · rw [hc, Bool.true_or]
        rw [Bool.and_eq_true, decide_eq_true_eq, decide_eq_true_eq] at hc
        obtain ⟨k', hk', ih⟩ := spec_in h i e (j + 1) k (lstep d x ws[j]) true (by omega) (by rw [lstep_len]; exact hx) (h.btw_step hx hb hwm) (by omega)
        refine ⟨k', by omega, ?_⟩
        rw [Int.natCast_add, Int.natCast_one, lround, Bool.true_or] at ih
        rw [if_pos hc.1, if_pos (by omega), if_pos hc.2, Bool.or_true]
        have e1 : lstep d x ws[j] = x.set ws[j].f0.toNat (fn d ws[j].f0.toNat + fn x ws[j].f1.toNat) := by unfold lstep; rw [if_pos hc.1, Int.max_eq_right (by omega)]
        rw [← e1]; exact ih
      · have hc' : (decide (ws[j].f2 = 0) && decide (fn d ws[j].f0.toNat + fn x ws[j].f1.toNat > fn x ws[j].f0.toNat)) = false := by simpa using hc
        have e1 := step_same hc'
        obtain ⟨k', hk', ih⟩ := spec_in h i e (j + 1) k x c (by omega) hx hb (by omega)
        refine ⟨k', by omega, ?_⟩
        rw [Int.natCast_add, Int.natCast_one, lround] at ih
        rw [hc', Bool.false_or, e1]
        by_cases h2 : ws[j].f2 = 0
        · rw [decide_eq_true h2, Bool.true_and, decide_eq_false_iff_not] at hc'
          rw [if_pos h2, if_pos (by omega), if_neg hc']; exact ih
        · rw [if_neg h2]; exact ih
theorem rnds_fixed {d : Nat → Int} {es : List (Nat × Nat)} {i : Nat} (h : rnd d es (rnds d es i) = rnds d es i) : ∀ e, rnds d es (i + e) = rnds d es i
  | 0 => rfl
  | e + 1 => by rw [← Nat.add_assoc, rnds, rnds_fixed h e, h]
theorem spec_out {d : List Int} {ws : List S55} {n : Nat} {D : Nat → Int} (h : Slow d ws n D) : ∀ (e i k : Nat) (x : List Int), i + e = n → x.length = n → fn x = rnds (fn d) (eds ws) i → 20 * (e + 1) < k →
    ∃ y, spec_l08Behind.l0 k x i d ws = some (y, true) ∧ y.length = n ∧ fn y = D := by
  intro e
  induction e with
  | zero =>
    intro i k x hi hx hf hk
    cases k with
    | zero => omega
    | succ k =>
      have hm := h.m16
      have hn := h.n8
      have hlen := h.len
      have hb : Btw (fn d) D (fn x) := by rw [hf]; exact rnds_len_fn h i
      have hD : fn x = D := by
        have : i = n := by omega
        subst this
        funext v; rw [hf]; exact h.rnk v
      rw [spec_l08Behind.l0, if_pos (by omega)]
      obtain ⟨k', hk', h1⟩ := spec_in h (i : Int) ws.length 0 k x false (by omega) hx hb (by omega)
      rw [show ((0 : Nat) : Int) = 0 from rfl, List.drop_zero] at h1
      have hc := chg_fix h.slow (ws := ws) (x := x) (fun w hw h2 => by
        have ho := h.wok w hw
        unfold WireOk at ho
        exact (eds_edge h.wok _).2 ⟨w, hw, h2, by simp; omega, by simp; omega⟩) hD
      rw [h1, hc, Bool.false_or, if_neg (by decide)]
      exact ⟨_, rfl, by rw [lround_len]; exact hx, by rw [chg_false hc]; exact hD⟩
  | succ e ih =>
    intro i k x hi hx hf hk
    cases k with
    | zero => omega
    | succ k =>
      have hm := h.m16
      have hn := h.n8
      have hlen := h.len
      have hb : Btw (fn d) D (fn x) := by rw [hf]; exact rnds_len_fn h i
      rw [spec_l08Behind.l0, if_pos (by omega)]
      obtain ⟨k', hk', h1⟩ := spec_in h (i : Int) ws.length 0 k x false (by omega) hx hb (by omega)
      rw [show ((0 : Nat) : Int) = 0 from rfl, List.drop_zero] at h1
      rw [h1, Bool.false_or]
      have hnext : fn (lround d ws x) = rnds (fn d) (eds ws) (i + 1) := by rw [lround_fn d n ws x hx h.wok, hf]; rfl
      cases hc : chg d ws x with
      | true =>
        rw [if_pos rfl, w64 (by omega) (by omega)]
        have := ih (i + 1) k' (lround d ws x) (by omega) (by rw [lround_len]; exact hx) hnext (by omega)
        rw [Int.natCast_add, Int.natCast_one] at this
        exact this
      | false =>
        rw [if_neg (by decide)]
        refine ⟨_, rfl, by rw [lround_len]; exact hx, ?_⟩
        rw [chg_false hc]
        have hfix : rnd (fn d) (eds ws) (rnds (fn d) (eds ws) i) = rnds (fn d) (eds ws) i := by
          have : rnds (fn d) (eds ws) (i + 1) = rnds (fn d) (eds ws) i := by rw [← hnext, chg_false hc, hf]
          exact this
        have := rnds_fixed hfix (e + 1)
        rw [show i + (e + 1) = n by omega] at this
        rw [hf, ← this]
        funext v; exact h.rnk v
theorem spec_slow {d : List Int} {ws : List S55} {n : Nat} {D : Nat → Int} (h : Slow d ws n D) (k : Nat) (hk : 300 < k) : ∃ y, spec_l08Behind.f k d ws = some (y, true) ∧ y.length = n ∧ fn y = D := by
  have hn := h.n8
  have hl := h.len
  obtain ⟨y, h1, h2⟩ := spec_out h n 0 k d (by omega) hl rfl (by omega)
  refine ⟨y, ?_, h2⟩
  unfold spec_l08Behind.f spec_l00Own.f
  rw [Option.bind_some, if_pos (by simp; omega), Option.bind_some, List.nil_append]
  exact h1
def mxl (a : Int) (l : List Int) : Int := l.foldl max a
theorem smax_loop (z : List Int) (hz : z.length ≤ 1000) : ∀ (e i k : Nat) (a : Int), i + e = z.length → e < k → spec_l08Period.l0 k z a i = some (mxl a (z.drop i))
  | 0, i, k, a, hi, hk => by
    cases k with
    | zero => omega
    | succ k => rw [spec_l08Period.l0, if_neg (by omega), List.drop_of_length_le (by omega)]; rfl
  | e + 1, i, k, a, hi, hk => by
    cases k with
    | zero => omega
    | succ k =>
      have hlt : i < z.length := by omega
      have ih := smax_loop z hz e (i + 1) k (max a z[i]) (by omega) (by omega)
      rw [Int.natCast_add, Int.natCast_one] at ih
      have hmx : spec_l00Max.f a z[i] = some (max a z[i]) := by unfold spec_l00Max.f; split <;> (congr 1; omega)
      rw [spec_l08Period.l0, if_pos (by omega), if_pos (by omega), rd_at z i hlt, hmx, Option.bind_some, w64 (by omega) (by omega), ih, List.drop_eq_getElem_cons hlt]; rfl
theorem imax_loop (z : List Int) (hz : z.length ≤ 1000) : ∀ (e i k : Nat) (a : Int), i + e = z.length → e < k → slices_Max_int64_int64.l0 k z a i = some (mxl a (z.drop i))
  | 0, i, k, a, hi, hk => by
    cases k with
    | zero => omega
    | succ k => rw [slices_Max_int64_int64.l0, if_neg (by omega), List.drop_of_length_le (by omega)]; rfl
  | e + 1, i, k, a, hi, hk => by
    cases k with
    | zero => omega
    | succ k =>
      have hlt : i < z.length := by omega
      have ih := imax_loop z hz e (i + 1) k (max a z[i]) (by omega) (by omega)
      rw [Int.natCast_add, Int.natCast_one] at ih
      rw [slices_Max_int64_int64.l0, if_pos (by omega), if_pos (by omega), rd_at z i hlt, mx_eq, w64 (by omega) (by omega), ih, List.drop_eq_getElem_cons hlt]; rfl
theorem imax_eq (z : List Int) (hz : z.length ≤ 1000) (h1 : 1 ≤ z.length) (k : Nat) (hk : 1000 < k) : slices_Max_int64_int64.f k z = some (mxl z[0] (z.drop 1)) := by
  unfold slices_Max_int64_int64.f
  have := imax_loop z hz (z.length - 1) 1 k z[0] (by omega) (by omega)
  have hr : rd z 0 = z[0] := rd_at z 0 (by omega)
  rw [if_neg (by omega), if_pos (by omega), hr]
  exact this
theorem period_both {d : List Int} {ws : List S55} {n : Nat} {D : Nat → Int} (h : Slow d ws n D) (k : Nat) (hk : 2000 < k) : ∃ z : List Int, z.length = n ∧ fn z = D ∧ spec_l08Period.f k d ws = some (mxl 0 z) ∧ impl_Flow_period.f k d ws = some (mxl 0 z) := by
  have hn := h.n8
  have hn1 := h.n1
  obtain ⟨y, h1, h2, h3⟩ := impl_slow h
  obtain ⟨z, g1, g2, g3⟩ := spec_slow h k (by omega)
  have e : z = y := fn_ext (by omega) (fun v => by rw [g3, h3])
  subst e
  refine ⟨z, g2, g3, ?_, ?_⟩
  · unfold spec_l08Period.f
    rw [g1, Option.bind_some]
    have := smax_loop z (by omega) z.length 0 k 0 (by omega) (by omega)
    rw [show ((0 : Nat) : Int) = 0 from rfl] at this
    rw [this, List.drop_zero]
  · unfold impl_Flow_period.f
    rw [h1, Option.bind_some, imax_eq z (by omega) (by omega) k (by omega), Option.bind_some]
    congr 1
    have h0 : 0 ≤ z[0] := by
      have := h.slow.own 0
      have hd := (h.del 0).1
      have : fn z 0 = z[0] := by unfold fn; rw [List.getD_eq_getElem?_getD, List.getElem?_eq_getElem]; rfl
      rw [← this, h3]; omega
    have hz : z = z[0] :: z.drop 1 := by
      have := List.drop_eq_getElem_cons (l := z) (i := 0) (by omega)
      rw [List.drop_zero] at this
      exact this
    conv => rhs; rw [hz]
    unfold mxl
    have h0' : max (0 : Int) z[0] = z[0] := Int.max_eq_right h0
    rw [List.foldl_cons, h0']
end Go.Proofs.Ytojpibpjieanhaa.X
end
section
namespace Go.Proofs.Ytojpibpjieanhaa.ConsMath
open Go.RowKit Go.Proofs.YtojpibpjieanhaaW.PrintWords Go.Proofs.YtojpibpjieanhaaW.PrintLast Go.Proofs.YtojpibpjieanhaaW.PrintMore
open Go.Proofs.Ytojpibpjieanhaa.X Go.Proofs.Ytojpibpjieanhaa.FlowMath
open Go.Proofs.Ytojpibpjieanhaa.FewMath (Fl T Wi WI dl Back U Sound Full Bd key hit)
set_option linter.unusedVariables false
set_option linter.unusedSimpArgs false
theorem mxl_over (b : Int) : ∀ (l : List Int) (a : Int), b < mxl a l ↔ b < a ∨ ∃ x, x ∈ l ∧ b < x
  | [], a => by simp [mxl]
  | x :: l, a => by
    have ih := mxl_over b l (max a x)
    unfold mxl at ih ⊢
    rw [List.foldl_cons, ih]
    simp only [List.mem_cons, exists_eq_or_imp]
    have : b < max a x ↔ b < a ∨ b < x := by omega
    rw [this, or_assoc]
theorem max_over (d : List Int) (b : Int) (h1 : 1 ≤ d.length) (h2 : d.length ≤ 8) (k : Nat) (hk : 1000 < k) : ∃ x, slices_Max_int64_int64.f k d = some x ∧ (x > b ↔ overN b d d.length = true) := by
  refine ⟨_, imax_eq d (by omega) h1 k hk, ?_⟩
  rw [over_iff]
  show b < mxl d[0] (d.drop 1) ↔ _
  rw [mxl_over]
  have hd : d = d[0] :: d.drop 1 := by
    have := List.drop_eq_getElem_cons (l := d) (i := 0) (by omega)
    rw [List.drop_zero] at this
    exact this
  have hm : (b < d[0] ∨ ∃ x, x ∈ d.drop 1 ∧ b < x) ↔ ∃ x, x ∈ d ∧ b < x := by
    conv => rhs; rw [hd]
    simp only [List.mem_cons, exists_eq_or_imp]
  rw [hm]
  constructor
  · rintro ⟨x, h3, h4⟩
    obtain ⟨i, hi, rfl⟩ := List.getElem_of_mem h3
    exact ⟨i, hi, by rw [rd_nat _ _ hi]; exact h4⟩
  · rintro ⟨v, hv, h4⟩
    exact ⟨d[v], List.getElem_mem hv, by rw [rd_nat _ _ hv] at h4; exact h4⟩
theorem can_moves {d : List Int} {ws : List S55} {m : List Int} (h : canB d ws m = true) : m.all mv = true := by
  unfold canB at h
  rw [Bool.and_eq_true, Bool.and_eq_true, Bool.and_eq_true] at h
  exact h.2.2.1
theorem can_small {d : List Int} {ws : List S55} {m : List Int} (h : canB d ws m = true) (v : Nat) : rd m (v : Int) ≤ 20 := by
  have := can_moves h
  rw [List.all_eq_true] at this
  rcases Nat.lt_or_ge v m.length with hv | hv
  · have h2 := this _ (List.getElem_mem hv)
    rw [rd_nat _ _ hv]
    unfold mv at h2
    rw [decide_eq_true_eq] at h2
    omega
  · rw [rd_out _ _ hv]; omega
theorem for_same {d : List Int} {ws : List S55} {M : Nat → Nat → Bt} (h : Tab d ws d.length M) (P : Int) (K : Nat) (hK : 4000000 < K) :
    ∃ p q, spec_l08For.f K d ws P = some p ∧ impl_Flow_movesFor.f K d ws P (rowsS d.length M) = some q ∧ ((p.2 = false ∧ q.2 = false) ∨ p = q) ∧ (p.2 = true → p.1.length ≤ 8) := by
  have h1 := h.fl.n1
  have h8 := h.fl.n8
  have h16 := h.fl.m16
  have hw : ∀ w, w ∈ ws → WireIn d.length w := fun w hw => by
    have := h.fl.wok w hw
    unfold WireOk at this
    unfold WireIn
    omega
  obtain ⟨x, hx, hxo⟩ := max_over d P h1 h8 K (by omega)
  unfold spec_l08For.f impl_Flow_movesFor.f
  have hc1 : 1 ≤ d.length ∧ d.length ≤ 1000000 ∧ ws.length ≤ 1000000 ∧ ∀ w, w ∈ ws → WireIn d.length w := ⟨by omega, by omega, by omega, hw⟩
  have hc2 : 1 ≤ d.length ∧ d.length ≤ 1000000 ∧ ws.length ≤ 1000000 ∧ (∀ w, w ∈ ws → WireIn d.length w) ∧ (rowsS d.length M).length = d.length ∧ ∀ r, r ∈ rowsS d.length M → r.length = d.length := ⟨by omega, by omega, by omega, hw, by simp [rowsS], fun r hr => by
    unfold rowsS at hr
    obtain ⟨i, _, rfl⟩ := List.mem_map.1 hr
    simp [rowS]⟩
  rw [if_pos hc1, if_pos hc2, hx, Option.bind_some]
  by_cases ho : overN P d d.length = true
  · rw [if_pos ho, if_pos (hxo.2 ho)]
    exact ⟨_, _, rfl, rfl, .inr rfl, fun h => Bool.noConfusion h⟩
  · rw [if_neg ho, if_neg (fun hh => ho (hxo.1 hh))]
    have hP : ∀ v : Nat, v < d.length → rd d (v : Int) ≤ P := fun v hv => by
      rcases Int.lt_or_le P (rd d (v : Int)) with hq | hq
      · exact absurd ((over_iff P d d.length).2 ⟨v, hv, hq⟩) ho
      · exact hq
    obtain ⟨p, hp, hp2⟩ := for_res (P := P) h hP K hK
    obtain ⟨q, hq, hq2⟩ := mv_res (d := d) (P := P) (M := M) K h8 h16 h.fl.wok (fun i j hf => by have := h.bd i j hf; omega) hK
    refine ⟨p, q, hp, hq, ?_, ?_⟩
    rotate_left
    · rcases hp2 with ⟨rfl, hp3⟩ | ⟨m, hm, rfl⟩
      · exact fun h => Bool.noConfusion h
      · intro _
        show m.length ≤ 8
        rw [hm.len]; exact h8
    rcases hp2 with ⟨rfl, hp3⟩ | ⟨m, hm, rfl⟩
    · rcases hq2 with ⟨rfl, hq3⟩ | ⟨m', hm', rfl⟩
      · exact .inr rfl
      · refine .inl ⟨rfl, ?_⟩
        obtain ⟨v, hv, hlt⟩ := hp3 _ hm'.sol
        cases hc : canB d ws m' with
        | false => rfl
        | true => have := can_small hc v; have hlt : 20 < rd m' (v : Int) := hlt; omega
    · rcases hq2 with ⟨rfl, hq3⟩ | ⟨m', hm', rfl⟩
      · exact absurd hm.sol (hq3 _)
      · exact .inr (by rw [hm.same hm'])
end Go.Proofs.Ytojpibpjieanhaa.ConsMath
end
section
-- Written by a program of this session out of the kit's print of the loaded functions: a plain function of a Go function, and its contract.
namespace Go.Proofs.Ytojpibpjieanhaa.X
open Go.RowKit Go.Proofs.YtojpibpjieanhaaW.PrintWords Go.Proofs.YtojpibpjieanhaaW.PrintLast Go.Proofs.YtojpibpjieanhaaW.PrintMore
attribute [local go_sem] max2_int min2_int max_two min_two max_three min_three max_four min_four   -- for this text's walks alone
set_option linter.unusedVariables false
set_option linter.unusedSimpArgs false
def laws_markWireS.l0 : Nat → List (S55) → Int → Int → Option (Int × (List (S55)))
 | 0, _, _, _ => none
 | k + 1, x0, x1, x5 => if x5 < (x0.length : Int) then (if 0 ≤ x5 then ((some (x0.set (x5 : Int).toNat (⟨x1, (rd_T55 x0 x5).f1, (rd_T55 x0 x5).f2⟩ : S55) : List (S55))).bind fun y533 => ((some (y533.set (x5 : Int).toNat (⟨(rd_T55 y533 x5).f0, wrap64 (x1 + 1), (rd_T55 y533 x5).f2⟩ : S55) : List (S55))).bind fun y534 => (laws_markWireS.l0 k (y534.set (x5 : Int).toNat (⟨(rd_T55 y534 x5).f0, (rd_T55 y534 x5).f1, wrap64 ((wrap64 (x1 + 1)) + 1)⟩ : S55)) (wrap64 ((wrap64 ((wrap64 (x1 + 1)) + 1)) + 1)) (wrap64 (x5 + 1))))) else (none)) else (some (x1, x0))
def laws_markWireS.f (k : Nat) (l0 : List (S55)) (a1 : Int) : Option (Int × (List (S55))) := laws_markWireS.l0 k l0 a1 0
set_option maxHeartbeats 8000000 in
set_option maxRecDepth 100000 in
theorem laws_markWireS.calls (k : Nat) (P0_ : Nat → Prop) (u9000_ : Value) (l0 : List (S55)) (a1 : Int) (r1 : Int) (r2 : List (S55)) (w0 w : World) (hB : Below w0.heap.size w0 w) (ho0 : Kd.R k55 55 w w0.heap.size P0_ u9000_ l0) (h : laws_markWireS.f k l0 a1 = some (r1, r2)) :
  Calls Try.prog 64 #[u9000_, .int .i64 a1] w fun e w' => e = .returned (.int .i64 r1) ∧ Kd.R k55 55 w' w0.heap.size (fun k_ => (P0_ k_ ∨ w.heap.size ≤ k_)) u9000_ r2 ∧ Below w0.heap.size w0 w' ∧ Kept w w' (fun k_ => P0_ k_) := by
 have HO0 := Aside0.mk (show Kd.R k55 55 w w0.heap.size (fun k_ => (P0_ k_ ∨ w.heap.size ≤ k_)) u9000_ l0 from Kd.R_mono ho0 (fun k_ hk => (.inl hk)))
 have HK := Aside0.mk (Kept.refl w (fun k_ => P0_ k_))
 have HW0 := Aside0.mk hB.size
 have HB := Aside0.mk hB
 clear hB
 have H : (laws_markWireS.l0 k l0 a1 0) = some (r1, r2) := h
 clear h
 have H' := Aside0.mk H
 clear H
 go_enter Try.func64, Try.ntmps64
 go_wp2
 go_loopg [1, 5] k (fun kq v1 v5 w' => ∃ (x0_1 : List (S55)) (x1_1 : Int) (x5_1 : Int), v1 = .int .i64 x1_1 ∧ v5 = .int .i64 x5_1 ∧ Aside0 (laws_markWireS.l0 kq x0_1 x1_1 x5_1 = some (r1, r2)) ∧ Aside0 (kq ≤ k) ∧ Aside0 (Kd.R k55 55 w' w0.heap.size (fun k_ => (P0_ k_ ∨ w.heap.size ≤ k_)) u9000_ x0_1) ∧ Aside0 (Kept w w' (fun k_ => P0_ k_)) ∧ Aside0 (Below w0.heap.size w0 w'))
 case atStart => exact ⟨(l0), (a1), (0), (by first | rfl | (simp; done) | (simp [*]; done)), (by first | rfl | (simp; done) | (simp [*]; done)), H', ⟨Nat.le_refl _⟩, ⟨by (with_reducible repeat (first | apply Kd.R_alloc | apply Kd.R_drewN | apply Kd.R_drew)); exact HO0.out⟩, ⟨by repeat (first | (with_reducible first | exact HK.out | apply Kept.alloc | apply Kept.drewN | apply Kept.drew) | exact HK.out)⟩, ⟨by repeat (first | (with_reducible first | exact HB.out | apply below_alloc | apply pw_below_drewN | apply below_drew1) | exact HB.out)⟩⟩
 case round =>
  clear H'
  try clear p2
  obtain ⟨x0_1, x1_1, x5_1, rfl, rfl, HA, HK1, HO_0, HK, HB⟩ := hrel
  cases gk with
  | zero => exact absurd HA.out (by simp [laws_markWireS.l0])
  | succ k1 =>
   have H := HA.out
   clear HA
   simp only [laws_markWireS.l0] at H
   by_cases c3 : x5_1 < (x0_1.length : Int)
   ·rw [if_pos c3] at H
    have c3b0 : decide (x5_1 < (x0_1.length : Int)) = true := decide_eq_true c3
    clear c3
    by_cases c4 : 0 ≤ x5_1
    ·rw [if_pos c4] at H
     have c4b0 : decide (0 ≤ x5_1) = true := decide_eq_true c4
     clear c4
     obtain ⟨y533, hy533⟩ : ∃ y_ : List (S55), y_ = (x0_1.set (x5_1 : Int).toNat (⟨x1_1, (rd_T55 x0_1 x5_1).f1, (rd_T55 x0_1 x5_1).f2⟩ : S55)) := ⟨_, rfl⟩
     replace H : ((some (y533.set (x5_1 : Int).toNat (⟨(rd_T55 y533 x5_1).f0, wrap64 (x1_1 + 1), (rd_T55 y533 x5_1).f2⟩ : S55) : List (S55))).bind fun y534 => (laws_markWireS.l0 k1 (y534.set (x5_1 : Int).toNat (⟨(rd_T55 y534 x5_1).f0, (rd_T55 y534 x5_1).f1, wrap64 ((wrap64 (x1_1 + 1)) + 1)⟩ : S55)) (wrap64 ((wrap64 ((wrap64 (x1_1 + 1)) + 1)) + 1)) (wrap64 (x5_1 + 1)))) = some (r1, r2) := by first | (rw [hy533]; with_reducible exact H) | (have H2_ := (Option.bind_some _ _).symm.trans H; rw [hy533]; with_reducible exact H2_) | (have H2_ := (Option.bind_some _ _).symm.trans H; with_reducible exact H2_) | with_reducible exact H | (rw [hy533]; exact H) | exact H
     have Ny533 := Aside0.mk hy533
     clear hy533
     obtain ⟨y534, hy534⟩ : ∃ y_ : List (S55), y_ = (y533.set (x5_1 : Int).toNat (⟨(rd_T55 y533 x5_1).f0, wrap64 (x1_1 + 1), (rd_T55 y533 x5_1).f2⟩ : S55)) := ⟨_, rfl⟩
     replace H : (laws_markWireS.l0 k1 (y534.set (x5_1 : Int).toNat (⟨(rd_T55 y534 x5_1).f0, (rd_T55 y534 x5_1).f1, wrap64 ((wrap64 (x1_1 + 1)) + 1)⟩ : S55)) (wrap64 ((wrap64 ((wrap64 (x1_1 + 1)) + 1)) + 1)) (wrap64 (x5_1 + 1))) = some (r1, r2) := by first | (rw [hy534]; with_reducible exact H) | (have H2_ := (Option.bind_some _ _).symm.trans H; rw [hy534]; with_reducible exact H2_) | (have H2_ := (Option.bind_some _ _).symm.trans H; with_reducible exact H2_) | with_reducible exact H | (rw [hy534]; exact H) | exact H
     have Ny534 := Aside0.mk hy534
     clear hy534
     obtain ⟨y535, hy535⟩ : ∃ y_ : List (S55), y_ = (y534.set (x5_1 : Int).toNat (⟨(rd_T55 y534 x5_1).f0, (rd_T55 y534 x5_1).f1, wrap64 ((wrap64 (x1_1 + 1)) + 1)⟩ : S55)) := ⟨_, rfl⟩
     replace H : (laws_markWireS.l0 k1 y535 (wrap64 ((wrap64 ((wrap64 (x1_1 + 1)) + 1)) + 1)) (wrap64 (x5_1 + 1))) = some (r1, r2) := by first | (rw [hy535]; with_reducible exact H) | (have H2_ := (Option.bind_some _ _).symm.trans H; rw [hy535]; with_reducible exact H2_) | (have H2_ := (Option.bind_some _ _).symm.trans H; with_reducible exact H2_) | with_reducible exact H | (rw [hy535]; exact H) | exact H
     have Ny535 := Aside0.mk hy535
     clear hy535
     have H' := Aside0.mk H
     clear H
     obtain ⟨Ao8, co8, eo8⟩ := Kd.R_slice HO_0.out
     subst eo8
     have p5 : 0 ≤ (x5_1 : Int) := of_decide_eq_true (by first | (with_reducible assumption) | assumption)
     have q5 : (x5_1 : Int) < ((x0_1.length : Int) : Int) := of_decide_eq_true (by first | (with_reducible assumption) | assumption)
     obtain ⟨go5, co5, eo5, gb5, gl5, cl5, HG5⟩ := Kd.R_form HO_0.out (by omega)
     (first | cases eo5 | (injection eo5 with ea_ en_ ec_; (first | subst ea_ | (injection ea_ with ea_; subst ea_)); subst ec_; clear en_))
     have GB5 := Aside0.mk gb5
     have GG5 := Aside0.mk HG5
     clear gb5 gl5 HG5
     have HMgo5 := Aside0.mk (show (P0_ go5 ∨ w.heap.size ≤ go5) from (HO_0.out.1 _ rfl))
     obtain ⟨ce5, hcl5, hM5, hcc5, hfr5⟩ := Kd.R_elem HO_0.out z55 (x5_1 : Int) p5 q5
     obtain rfl := k55_openM hM5
     have hx5_0 : wr.cell? ⟨go5, (x5_1 : Int).toNat * 3, none⟩ = some (.int .i64 ((rd_T55 x0_1 x5_1).f0)) := hcc5 0 _ rfl
     have hx5_1 : wr.cell? ⟨go5, (x5_1 : Int).toNat * 3 + 1, none⟩ = some (.int .i64 ((rd_T55 x0_1 x5_1).f1)) := hcc5 1 _ rfl
     have hx5_2 : wr.cell? ⟨go5, (x5_1 : Int).toNat * 3 + 2, none⟩ = some (.int .i64 ((rd_T55 x0_1 x5_1).f2)) := hcc5 2 _ rfl
     have hf5_0 : wr.frozen? ⟨go5, (x5_1 : Int).toNat * 3, none⟩ = false := hfr5 0
     have hf5_1 : wr.frozen? ⟨go5, (x5_1 : Int).toNat * 3 + 1, none⟩ = false := hfr5 1
     have hf5_2 : wr.frozen? ⟨go5, (x5_1 : Int).toNat * 3 + 2, none⟩ = false := hfr5 2
     clear hcl5 hcc5 hfr5 hM5
     replace p5 := eq_true p5
     replace q5 := eq_true q5
     have HX9 := Aside0.mk (show Kd.R k55 55 wr w0.heap.size (fun k_ => (P0_ k_ ∨ w.heap.size ≤ k_)) (.slice (some ⟨go5, 0, none⟩) x0_1.length co8) x0_1 from (by (with_reducible repeat (first | apply Kd.R_alloc | apply Kd.R_drewN | apply Kd.R_drew)); exact HO_0.out))
     obtain ⟨ce9, hcl9, hM9, hcc9, hfr9⟩ := Kd.R_elem HX9.out z55 (x5_1 : Int) (of_decide_eq_true (by first | (with_reducible assumption) | assumption)) (by have h_ : (x5_1 : Int) < ((x0_1.length : Int) : Int) := of_decide_eq_true (by first | (with_reducible assumption) | assumption); first | exact h_ | (have e_ := (Kd.R_reads' HO_0.out).1; omega) | simpa using h_)
     obtain rfl := k55_openM hM9
     have HP9 := Kd.R_seg HX9.out (x5_1 : Int) (of_decide_eq_true (by first | (with_reducible assumption) | assumption)) (by have h_ : (x5_1 : Int) < ((x0_1.length : Int) : Int) := of_decide_eq_true (by first | (with_reducible assumption) | assumption); first | exact h_ | (have e_ := (Kd.R_reads' HO_0.out).1; omega) | simpa using h_) (seg := [.int .i64 x1_1]) (j := 0) hcl9 hcc9 (show 1 ≤ 3 from by decide) (x' := (⟨x1_1, (rd_T55 x0_1 x5_1).f1, (rd_T55 x0_1 x5_1).f2⟩ : S55)) (k55_mkM _ _ _ (⟨x1_1, (rd_T55 x0_1 x5_1).f1, (rd_T55 x0_1 x5_1).f2⟩ : S55) ) (fun _ hk => hk)
     have hx9_0 := hcc9 0 _ rfl
     (try simp only [show (k55).sz = 3 from rfl, Nat.mul_one, Nat.add_zero] at hx9_0)
     have hf9_0 := hfr9 0
     (try simp only [show (k55).sz = 3 from rfl, Nat.mul_one, Nat.add_zero] at hf9_0)
     clear hcl9 hcc9 hfr9 hM9
     go_wp2_with (first | ((with_reducible refine gate_store (t := 2) (p := 16) rfl ?_); refine store_event (t := 2) (p := 16) (v := ?vo_w10) (w1 := (wr.setCell ⟨go5, (x5_1 : Int).toNat * 3, none⟩ (.int .i64 x1_1))) ?hg ?ho ?hn ?hr ?_; (case ho => rfl); (case hg => rfl); (case hn => rfl); (case hr => first | (go_simp; done) | (go_simp; rfl)); intro w10 hw; have hg : wr.grownBy w10 (some go5) := (by rw [hw]; exact HP9.2); have hp_ : Kd.R k55 55 w10 w0.heap.size (fun k_ => (P0_ k_ ∨ w.heap.size ≤ k_)) (.slice (some ⟨go5, 0, none⟩) x0_1.length co8) y533 := (by rw [hw, Ny533.out]; exact HP9.1); clear HP9; have n0_ := Aside0.mk (hp_); have n1_ := Aside0.mk ((by rw [hw]; exact below_set (HB.out) GB5.out : Below w0.heap.size w0 w10)); have n2_ := Aside0.mk (Kept.of_grown (S := (fun k_ => P0_ k_)) hg (by repeat (first | (with_reducible first | exact HK.out | apply Kept.alloc | apply Kept.drewN | apply Kept.drew) | exact HK.out)) (fun k_ e_ => (HO_0.out.1 k_ e_))); clear HO_0; clear HB; clear HK; have HO_0 := n0_; have HB := n1_; have HK := n2_; clear n0_ n1_ n2_; clear hg hw hp_; have p6 : 0 ≤ (x5_1 : Int) := of_decide_eq_true (by first | (with_reducible assumption) | assumption); have q6 : (x5_1 : Int) < ((x0_1.length : Int) : Int) := of_decide_eq_true (by first | (with_reducible assumption) | assumption); obtain ⟨ce6, hcl6, hM6, hcc6, hfr6⟩ := Kd.R_elem HO_0.out z55 (x5_1 : Int) p6 q6; obtain rfl := k55_openM hM6; have hx6_0 : w10.cell? ⟨go5, (x5_1 : Int).toNat * 3, none⟩ = some (.int .i64 ((rd_T55 y533 x5_1).f0)) := hcc6 0 _ rfl; have hx6_1 : w10.cell? ⟨go5, (x5_1 : Int).toNat * 3 + 1, none⟩ = some (.int .i64 ((rd_T55 y533 x5_1).f1)) := hcc6 1 _ rfl; have hx6_2 : w10.cell? ⟨go5, (x5_1 : Int).toNat * 3 + 2, none⟩ = some (.int .i64 ((rd_T55 y533 x5_1).f2)) := hcc6 2 _ rfl; have hf6_0 : w10.frozen? ⟨go5, (x5_1 : Int).toNat * 3, none⟩ = false := hfr6 0; have hf6_1 : w10.frozen? ⟨go5, (x5_1 : Int).toNat * 3 + 1, none⟩ = false := hfr6 1; have hf6_2 : w10.frozen? ⟨go5, (x5_1 : Int).toNat * 3 + 2, none⟩ = false := hfr6 2; clear hcl6 hcc6 hfr6 hM6; replace p6 := eq_true p6; replace q6 := eq_true q6; have HX11 := Aside0.mk (show Kd.R k55 55 w10 w0.heap.size (fun k_ => (P0_ k_ ∨ w.heap.size ≤ k_)) (.slice (some ⟨go5, 0, none⟩) x0_1.length co8) y533 from (by (with_reducible repeat (first | apply Kd.R_alloc | apply Kd.R_drewN | apply Kd.R_drew)); exact HO_0.out)); obtain ⟨ce11, hcl11, hM11, hcc11, hfr11⟩ := Kd.R_elem HX11.out z55 (x5_1 : Int) (of_decide_eq_true (by first | (with_reducible assumption) | assumption)) (by have h_ : (x5_1 : Int) < ((x0_1.length : Int) : Int) := of_decide_eq_true (by first | (with_reducible assumption) | assumption); first | exact h_ | (have e_ := (Kd.R_reads' HO_0.out).1; omega) | simpa using h_); obtain rfl := k55_openM hM11; have HP11 := Kd.R_seg HX11.out (x5_1 : Int) (of_decide_eq_true (by first | (with_reducible assumption) | assumption)) (by have h_ : (x5_1 : Int) < ((x0_1.length : Int) : Int) := of_decide_eq_true (by first | (with_reducible assumption) | assumption); first | exact h_ | (have e_ := (Kd.R_reads' HO_0.out).1; omega) | simpa using h_) (seg := [.int .i64 (wrap64 (x1_1 + 1))]) (j := 1) hcl11 hcc11 (show 2 ≤ 3 from by decide) (x' := (⟨(rd_T55 y533 x5_1).f0, wrap64 (x1_1 + 1), (rd_T55 y533 x5_1).f2⟩ : S55)) (k55_mkM _ _ _ (⟨(rd_T55 y533 x5_1).f0, wrap64 (x1_1 + 1), (rd_T55 y533 x5_1).f2⟩ : S55) ) (fun _ hk => hk); have hx11_1 := hcc11 1 _ rfl; (try simp only [show (k55).sz = 3 from rfl, Nat.mul_one, Nat.add_zero] at hx11_1); have hf11_1 := hfr11 1; (try simp only [show (k55).sz = 3 from rfl, Nat.mul_one, Nat.add_zero] at hf11_1); clear hcl11 hcc11 hfr11 hM11) | ((with_reducible refine gate_store (t := 2) (p := 23) rfl ?_); refine store_event (t := 2) (p := 23) (v := ?vo_w12) (w1 := (w10.setCell ⟨go5, (x5_1 : Int).toNat * 3 + 1, none⟩ (.int .i64 (wrap64 (x1_1 + 1))))) ?hg ?ho ?hn ?hr ?_; (case ho => rfl); (case hg => rfl); (case hn => rfl); (case hr => first | (go_simp; done) | (go_simp; rfl)); intro w12 hw; have hg : w10.grownBy w12 (some go5) := (by rw [hw]; exact HP11.2); have hp_ : Kd.R k55 55 w12 w0.heap.size (fun k_ => (P0_ k_ ∨ w.heap.size ≤ k_)) (.slice (some ⟨go5, 0, none⟩) x0_1.length co8) y534 := (by rw [hw, Ny534.out]; exact HP11.1); clear HP11; have n0_ := Aside0.mk (hp_); have n1_ := Aside0.mk ((by rw [hw]; exact below_set (HB.out) GB5.out : Below w0.heap.size w0 w12)); have n2_ := Aside0.mk (Kept.of_grown (S := (fun k_ => P0_ k_)) hg (by repeat (first | (with_reducible first | exact HK.out | apply Kept.alloc | apply Kept.drewN | apply Kept.drew) | exact HK.out)) (fun k_ e_ => (HO_0.out.1 k_ e_))); clear HO_0; clear HB; clear HK; have HO_0 := n0_; have HB := n1_; have HK := n2_; clear n0_ n1_ n2_; clear hg hw hp_; have p7 : 0 ≤ (x5_1 : Int) := of_decide_eq_true (by first | (with_reducible assumption) | assumption); have q7 : (x5_1 : Int) < ((x0_1.length : Int) : Int) := of_decide_eq_true (by first | (with_reducible assumption) | assumption); obtain ⟨ce7, hcl7, hM7, hcc7, hfr7⟩ := Kd.R_elem HO_0.out z55 (x5_1 : Int) p7 q7; obtain rfl := k55_openM hM7; have hx7_0 : w12.cell? ⟨go5, (x5_1 : Int).toNat * 3, none⟩ = some (.int .i64 ((rd_T55 y534 x5_1).f0)) := hcc7 0 _ rfl; have hx7_1 : w12.cell? ⟨go5, (x5_1 : Int).toNat * 3 + 1, none⟩ = some (.int .i64 ((rd_T55 y534 x5_1).f1)) := hcc7 1 _ rfl; have hx7_2 : w12.cell? ⟨go5, (x5_1 : Int).toNat * 3 + 2, none⟩ = some (.int .i64 ((rd_T55 y534 x5_1).f2)) := hcc7 2 _ rfl; have hf7_0 : w12.frozen? ⟨go5, (x5_1 : Int).toNat * 3, none⟩ = false := hfr7 0; have hf7_1 : w12.frozen? ⟨go5, (x5_1 : Int).toNat * 3 + 1, none⟩ = false := hfr7 1; have hf7_2 : w12.frozen? ⟨go5, (x5_1 : Int).toNat * 3 + 2, none⟩ = false := hfr7 2; clear hcl7 hcc7 hfr7 hM7; replace p7 := eq_true p7; replace q7 := eq_true q7; have HX13 := Aside0.mk (show Kd.R k55 55 w12 w0.heap.size (fun k_ => (P0_ k_ ∨ w.heap.size ≤ k_)) (.slice (some ⟨go5, 0, none⟩) x0_1.length co8) y534 from (by (with_reducible repeat (first | apply Kd.R_alloc | apply Kd.R_drewN | apply Kd.R_drew)); exact HO_0.out)); obtain ⟨ce13, hcl13, hM13, hcc13, hfr13⟩ := Kd.R_elem HX13.out z55 (x5_1 : Int) (of_decide_eq_true (by first | (with_reducible assumption) | assumption)) (by have h_ : (x5_1 : Int) < ((x0_1.length : Int) : Int) := of_decide_eq_true (by first | (with_reducible assumption) | assumption); first | exact h_ | (have e_ := (Kd.R_reads' HO_0.out).1; omega) | simpa using h_); obtain rfl := k55_openM hM13; have HP13 := Kd.R_seg HX13.out (x5_1 : Int) (of_decide_eq_true (by first | (with_reducible assumption) | assumption)) (by have h_ : (x5_1 : Int) < ((x0_1.length : Int) : Int) := of_decide_eq_true (by first | (with_reducible assumption) | assumption); first | exact h_ | (have e_ := (Kd.R_reads' HO_0.out).1; omega) | simpa using h_) (seg := [.int .i64 (wrap64 ((wrap64 (x1_1 + 1)) + 1))]) (j := 2) hcl13 hcc13 (show 3 ≤ 3 from by decide) (x' := (⟨(rd_T55 y534 x5_1).f0, (rd_T55 y534 x5_1).f1, wrap64 ((wrap64 (x1_1 + 1)) + 1)⟩ : S55)) (k55_mkM _ _ _ (⟨(rd_T55 y534 x5_1).f0, (rd_T55 y534 x5_1).f1, wrap64 ((wrap64 (x1_1 + 1)) + 1)⟩ : S55) ) (fun _ hk => hk); have hx13_2 := hcc13 2 _ rfl; (try simp only [show (k55).sz = 3 from rfl, Nat.mul_one, Nat.add_zero] at hx13_2); have hf13_2 := hfr13 2; (try simp only [show (k55).sz = 3 from rfl, Nat.mul_one, Nat.add_zero] at hf13_2); clear hcl13 hcc13 hfr13 hM13) | ((with_reducible refine gate_store (t := 2) (p := 30) rfl ?_); refine store_event (t := 2) (p := 30) (v := ?vo_w14) (w1 := (w12.setCell ⟨go5, (x5_1 : Int).toNat * 3 + 2, none⟩ (.int .i64 (wrap64 ((wrap64 (x1_1 + 1)) + 1))))) ?hg ?ho ?hn ?hr ?_; (case ho => rfl); (case hg => rfl); (case hn => rfl); (case hr => first | (go_simp; done) | (go_simp; rfl)); intro w14 hw; have hg : w12.grownBy w14 (some go5) := (by rw [hw]; exact HP13.2); have hp_ : Kd.R k55 55 w14 w0.heap.size (fun k_ => (P0_ k_ ∨ w.heap.size ≤ k_)) (.slice (some ⟨go5, 0, none⟩) x0_1.length co8) y535 := (by rw [hw, Ny535.out]; exact HP13.1); clear HP13; have n0_ := Aside0.mk (hp_); have n1_ := Aside0.mk ((by rw [hw]; exact below_set (HB.out) GB5.out : Below w0.heap.size w0 w14)); have n2_ := Aside0.mk (Kept.of_grown (S := (fun k_ => P0_ k_)) hg (by repeat (first | (with_reducible first | exact HK.out | apply Kept.alloc | apply Kept.drewN | apply Kept.drew) | exact HK.out)) (fun k_ e_ => (HO_0.out.1 k_ e_))); clear HO_0; clear HB; clear HK; have HO_0 := n0_; have HB := n1_; have HK := n2_; clear n0_ n1_ n2_; clear hg hw hp_))
     go_roundg k1
     case measure => have := HK1.out; omega
     case rel => exact ⟨(y535), (wrap64 ((wrap64 ((wrap64 (x1_1 + 1)) + 1)) + 1)), (wrap64 (x5_1 + 1)), (by first | rfl | (simp; done) | (simp [*]; done)), (by first | rfl | (simp; done) | (simp [*]; done)), H', ⟨by have := HK1.out; omega⟩, ⟨by (with_reducible repeat (first | apply Kd.R_alloc | apply Kd.R_drewN | apply Kd.R_drew)); exact HO_0.out⟩, ⟨by repeat (first | (with_reducible first | exact HK.out | apply Kept.alloc | apply Kept.drewN | apply Kept.drew) | exact HK.out)⟩, ⟨by repeat (first | (with_reducible first | exact HB.out | apply below_alloc | apply pw_below_drewN | apply below_drew1) | exact HB.out)⟩⟩
    ·rw [if_neg c4] at H
     exact absurd H (by simp)
   ·rw [if_neg c3] at H
    have c3b0 : decide (x5_1 < (x0_1.length : Int)) = false := decide_eq_false c3
    clear c3
    simp only [Option.some.injEq, Prod.mk.injEq] at H
    obtain ⟨rfl, rfl⟩ := H
    obtain ⟨Ao15, co15, eo15⟩ := Kd.R_slice HO_0.out
    subst eo15
    go_wp2
    go_ret
    exact ⟨by first | rfl | (simp [errW_none, errW_some] <;> rfl) | (simp [*, errW_none, errW_some] <;> rfl), by (with_reducible repeat (first | apply Kd.R_alloc | apply Kd.R_drewN | apply Kd.R_drew)); exact HO_0.out, by repeat (first | (with_reducible first | exact HB.out | apply below_alloc | apply pw_below_drewN | apply below_drew1) | exact HB.out), by repeat (first | (with_reducible first | exact HK.out | apply Kept.alloc | apply Kept.drewN | apply Kept.drew) | exact HK.out)⟩
end Go.Proofs.Ytojpibpjieanhaa.X
end
section
-- Written by a program of this session out of the kit's print of the loaded functions: a plain function of a Go function, and its contract.
namespace Go.Proofs.Ytojpibpjieanhaa.X
open Go.RowKit Go.Proofs.YtojpibpjieanhaaW.PrintWords Go.Proofs.YtojpibpjieanhaaW.PrintLast Go.Proofs.YtojpibpjieanhaaW.PrintMore
attribute [local go_sem] max2_int min2_int max_two min_two max_three min_three max_four min_four   -- for this text's walks alone
set_option linter.unusedVariables false
set_option linter.unusedSimpArgs false
def laws_markFlow.f (k : Nat) (l0_0 : List Int) (l0_1 : List (S55)) (a1 : Int) : Option (Int × List Int × (List (S55))) := (laws_markInt64S.f k l0_0 a1).bind fun bt537 => ((laws_markWireS.f k l0_1 bt537.1).bind fun bt539 => (some (bt539.1, bt537.2, bt539.2)))
set_option maxHeartbeats 8000000 in
set_option maxRecDepth 100000 in
theorem laws_markFlow.calls (k : Nat) (P0_0_ : Nat → Prop) (u9000_ : Value) (l0_0 : List Int) (P0_1_ : Nat → Prop) (u9001_ : Value) (l0_1 : List (S55)) (a1 : Int) (r1 : Int) (r2 : List Int) (r3 : List (S55)) (w0 w : World) (hB : Below w0.heap.size w0 w) (ho0_0 : Kd.R (Kd.int .i64) 2 w w0.heap.size P0_0_ u9000_ l0_0) (ho0_1 : Kd.R k55 55 w w0.heap.size P0_1_ u9001_ l0_1) (h : laws_markFlow.f k l0_0 l0_1 a1 = some (r1, r2, r3)) :
  Calls Try.prog 35 #[.agg #[u9000_, u9001_], .int .i64 a1] w fun e w' => e = .returned (.int .i64 r1) ∧ Kd.R (Kd.int .i64) 2 w' w0.heap.size (fun k_ => ((P0_0_ k_ ∨ P0_1_ k_) ∨ w.heap.size ≤ k_)) u9000_ r2 ∧ Kd.R k55 55 w' w0.heap.size (fun k_ => ((P0_0_ k_ ∨ P0_1_ k_) ∨ w.heap.size ≤ k_)) u9001_ r3 ∧ Below w0.heap.size w0 w' ∧ Kept w w' (fun k_ => P0_0_ k_ ∨ P0_1_ k_) := by
 have hu36 := Try.underlying36
 have HO0_0 := Aside0.mk (show Kd.R (Kd.int .i64) 2 w w0.heap.size (fun k_ => ((P0_0_ k_ ∨ P0_1_ k_) ∨ w.heap.size ≤ k_)) u9000_ l0_0 from Kd.R_mono ho0_0 (fun k_ hk => (.inl (.inl hk))))
 have HO0_1 := Aside0.mk (show Kd.R k55 55 w w0.heap.size (fun k_ => ((P0_0_ k_ ∨ P0_1_ k_) ∨ w.heap.size ≤ k_)) u9001_ l0_1 from Kd.R_mono ho0_1 (fun k_ hk => (.inl (.inr hk))))
 have HK := Aside0.mk (Kept.refl w (fun k_ => P0_0_ k_ ∨ P0_1_ k_))
 have HW0 := Aside0.mk hB.size
 have HB := Aside0.mk hB
 clear hB
 have H : ((laws_markInt64S.f k l0_0 a1).bind fun bt537 => ((laws_markWireS.f k l0_1 bt537.1).bind fun bt539 => (some (bt539.1, bt537.2, bt539.2)))) = some (r1, r2, r3) := h
 clear h
 replace H := Option.bind_eq_some_iff.mp H
 obtain ⟨⟨t537, t538⟩, A30, H⟩ := H
 replace H : ((laws_markWireS.f k l0_1 t537).bind fun bt539 => (some (bt539.1, t538, bt539.2))) = some (r1, r2, r3) := H
 have A3 := Aside0.mk A30
 clear A30
 replace H := Option.bind_eq_some_iff.mp H
 obtain ⟨⟨t539, t540⟩, A40, H⟩ := H
 replace H : (some (t539, t538, t540)) = some (r1, r2, r3) := H
 have A4 := Aside0.mk A40
 clear A40
 simp only [Option.some.injEq, Prod.mk.injEq] at H
 obtain ⟨rfl, rfl, rfl⟩ := H
 obtain ⟨Ao5, co5, eo5⟩ := Kd.R_slice HO0_0.out
 subst eo5
 obtain ⟨Ao6, co6, eo6⟩ := Kd.R_slice HO0_1.out
 subst eo6
 go_enter Try.func35, Try.ntmps35
 go_wp2_with (first | ((with_reducible refine gate_dst (N := 2) rfl ?_); refine box_event ?hg (N := 2) ?hd (cs := #[.slice Ao5 l0_0.length co5, .slice Ao6 l0_1.length co6]) (t := 36) ?hr ?_; (case hd => rfl); (case hg => rfl); (case hr => first | (go_simp; done) | (go_simp; rfl)); intro gb536 hg w7 hbox hb; have n0_ := Aside0.mk (Kd.R_below (by (with_reducible repeat (first | apply Kd.R_alloc | apply Kd.R_drewN | apply Kd.R_drew)); exact HO0_0.out) hb); have n1_ := Aside0.mk (Kd.R_below (by (with_reducible repeat (first | apply Kd.R_alloc | apply Kd.R_drewN | apply Kd.R_drew)); exact HO0_1.out) hb); have n2_ := Aside0.mk (Kept.below (S := (fun k_ => P0_0_ k_ ∨ P0_1_ k_)) (by repeat (first | (with_reducible first | exact HK.out | apply Kept.alloc | apply Kept.drewN | apply Kept.drew) | exact HK.out)) hb); have n3_ := Aside0.mk (below_step (by repeat (first | (with_reducible first | exact HB.out | apply below_alloc | apply pw_below_drewN | apply below_drew1) | exact HB.out)) hb); have n4_ := Aside0.mk (hbox); have n5_ := Aside0.mk ((by rw [hg]; exact (by first | exact HK.out.1 | exact (show Kept w _ (fun k_ => P0_0_ k_ ∨ P0_1_ k_) from by repeat (first | (with_reducible first | exact HK.out | apply Kept.alloc | apply Kept.drewN | apply Kept.drew) | exact HK.out)).1) : w.heap.size ≤ gb536)); have n6_ := Aside0.mk ((by rw [hg]; exact (below_size (by repeat (first | (with_reducible first | exact HB.out | apply below_alloc | apply pw_below_drewN | apply below_drew1) | exact HB.out))) : w0.heap.size ≤ gb536)); clear HO0_0; clear HO0_1; clear HK; clear HB; have HO0_0 := n0_; have HO0_1 := n1_; have HK := n2_; have HB := n3_; have BK536 := n4_; have GW536 := n5_; have GE536 := n6_; clear n0_ n1_ n2_ n3_ n4_ n5_ n6_; clear hb hbox hg; have hcz8_0 : w7.cell? ⟨gb536, 0, none⟩ = some (.slice Ao5 l0_0.length co5) := (blk_cell BK536.out 0).trans rfl; have hcz8_1 : w7.cell? ⟨gb536, 1, none⟩ = some (.slice Ao6 l0_1.length co6) := (blk_cell BK536.out 1).trans rfl; have hfz8_0 := blk_frozen BK536.out 0; have hfz8_1 := blk_frozen BK536.out 1) | ((with_reducible refine gate_callee (f := 18) rfl ?_); refine goesL_ (some 8) rfl rfl Try.func18 (by kernel_rfl) rfl #[.slice Ao5 l0_0.length co5, .int .i64 a1] rfl (by (try simp only [List.map_toArray, List.map_cons, List.map_nil]); first | done | rfl | (simp only [List.length_drop, List.length_take]; rfl)) ?_; (with_reducible refine (laws_markInt64S.calls k (fun k_ => some k_ = (.slice Ao5 l0_0.length co5 : Value).ownBlock) (.slice Ao5 l0_0.length co5) l0_0 a1 t537 t538 w0 _ ?side1 ?side2 A3.out).mono ?_); (case side1 => repeat (first | (with_reducible first | exact HB.out | apply below_alloc | apply pw_below_drewN | apply below_drew1 | refine below_set ?_ GE536.out) | exact HB.out)); (case side2 => exact Kd.R_tight rfl HO0_0.out); rintro e w9 ⟨rfl, hy0, hb, hkp⟩; refine ⟨_, rfl, ?_⟩; have n0_ := Aside0.mk (Kd.R_reok rfl hy0 (fun k_ e_ => HO0_0.out.1 k_ e_)); have n1_ := Aside0.mk (Kd.R_mono (ok' := fun k_ => ((P0_0_ k_ ∨ P0_1_ k_) ∨ w.heap.size ≤ k_)) (Kd.R_keptB ((Kd.R_apart' HO0_1.out (Kd.R_typed HO0_0.out) (by decide))) hkp (fun k_ hk_ hs_ => (hk_.2) hs_)) (fun k_ hk_ => hk_.1.1)); have n2_ := Aside0.mk (blk_kept (by (with_reducible repeat (first | refine blk_drewN ?_ _ | refine blk_drew ?_ | refine blk_alloc ?_ _)); exact BK536.out) hkp (fun hs_ => (fun e_ => (Kd.R_ne HO0_0.out BK536.out (by decide)) e_) hs_)); have n3_ := Aside0.mk (Kept.then_ (S := (fun k_ => P0_0_ k_ ∨ P0_1_ k_)) (by repeat (first | (with_reducible first | exact HK.out | apply Kept.alloc | apply Kept.drewN | apply Kept.drew | refine Kept.setCell ?_ (.inr GW536.out) _) | exact HK.out)) hkp (fun k_ hs_ => (fun e_ => (HO0_0.out.1 k_ e_.symm)) hs_)); have n4_ := Aside0.mk (hb); clear HO0_0; clear HO0_1; clear BK536; clear HK; clear HB; have HO0_0 := n0_; have HO0_1 := n1_; have BK536 := n2_; have HK := n3_; have HB := n4_; clear n0_ n1_ n2_ n3_ n4_; (try clear hb); (try clear hkp); (try clear hy0); have hcz10_0 : w9.cell? ⟨gb536, 0, none⟩ = some (.slice Ao5 l0_0.length co5) := (blk_cell BK536.out 0).trans rfl; have hcz10_1 : w9.cell? ⟨gb536, 1, none⟩ = some (.slice Ao6 l0_1.length co6) := (blk_cell BK536.out 1).trans rfl; have hfz10_0 := blk_frozen BK536.out 0; have hfz10_1 := blk_frozen BK536.out 1) | ((with_reducible refine gate_callee (f := 64) rfl ?_); refine goesL_ (some 12) rfl rfl Try.func64 (by kernel_rfl) rfl #[.slice Ao6 l0_1.length co6, .int .i64 t537] rfl (by (try simp only [List.map_toArray, List.map_cons, List.map_nil]); first | done | rfl | (simp only [List.length_drop, List.length_take]; rfl)) ?_; (with_reducible refine (laws_markWireS.calls k (fun k_ => some k_ = (.slice Ao6 l0_1.length co6 : Value).ownBlock) (.slice Ao6 l0_1.length co6) l0_1 t537 t539 t540 w0 _ ?side1 ?side2 A4.out).mono ?_); (case side1 => repeat (first | (with_reducible first | exact HB.out | apply below_alloc | apply pw_below_drewN | apply below_drew1 | refine below_set ?_ GE536.out) | exact HB.out)); (case side2 => exact Kd.R_tight rfl HO0_1.out); rintro e w11 ⟨rfl, hy0, hb, hkp⟩; refine ⟨_, rfl, ?_⟩; have n0_ := Aside0.mk (Kd.R_mono (ok' := fun k_ => ((P0_0_ k_ ∨ P0_1_ k_) ∨ w.heap.size ≤ k_)) (Kd.R_keptB ((Kd.R_apart' HO0_0.out (Kd.R_typed HO0_1.out) (by decide))) hkp (fun k_ hk_ hs_ => (hk_.2) hs_)) (fun k_ hk_ => hk_.1.1)); have n1_ := Aside0.mk (Kd.R_reok rfl hy0 (fun k_ e_ => HO0_1.out.1 k_ e_)); have n2_ := Aside0.mk (blk_kept (by (with_reducible repeat (first | refine blk_drewN ?_ _ | refine blk_drew ?_ | refine blk_alloc ?_ _)); exact BK536.out) hkp (fun hs_ => (fun e_ => (Kd.R_ne HO0_1.out BK536.out (by decide)) e_) hs_)); have n3_ := Aside0.mk (Kept.then_ (S := (fun k_ => P0_0_ k_ ∨ P0_1_ k_)) (by repeat (first | (with_reducible first | exact HK.out | apply Kept.alloc | apply Kept.drewN | apply Kept.drew | refine Kept.setCell ?_ (.inr GW536.out) _) | exact HK.out)) hkp (fun k_ hs_ => (fun e_ => (HO0_1.out.1 k_ e_.symm)) hs_)); have n4_ := Aside0.mk (hb); clear HO0_0; clear HO0_1; clear BK536; clear HK; clear HB; have HO0_0 := n0_; have HO0_1 := n1_; have BK536 := n2_; have HK := n3_; have HB := n4_; clear n0_ n1_ n2_ n3_ n4_; (try clear hb); (try clear hkp); (try clear hy0)))
 go_ret
 exact ⟨by first | rfl | (simp [errW_none, errW_some] <;> rfl) | (simp [*, errW_none, errW_some] <;> rfl), by (with_reducible repeat (first | apply Kd.R_alloc | apply Kd.R_drewN | apply Kd.R_drew)); exact HO0_0.out, by (with_reducible repeat (first | apply Kd.R_alloc | apply Kd.R_drewN | apply Kd.R_drew)); exact HO0_1.out, by repeat (first | (with_reducible first | exact HB.out | apply below_alloc | apply pw_below_drewN | apply below_drew1 | refine below_set ?_ GE536.out) | exact HB.out), by repeat (first | (with_reducible first | exact HK.out | apply Kept.alloc | apply Kept.drewN | apply Kept.drew | refine Kept.setCell ?_ (.inr GW536.out) _) | exact HK.out)⟩
end Go.Proofs.Ytojpibpjieanhaa.X
end
section
-- Written by a program of this session out of the kit's print of the loaded functions: a plain function of a Go function, and its contract.
namespace Go.Proofs.Ytojpibpjieanhaa.X
open Go.RowKit Go.Proofs.YtojpibpjieanhaaW.PrintWords Go.Proofs.YtojpibpjieanhaaW.PrintLast Go.Proofs.YtojpibpjieanhaaW.PrintMore
attribute [local go_sem] max2_int min2_int max_two min_two max_three min_three max_four min_four   -- for this text's walks alone
set_option linter.unusedVariables false
set_option linter.unusedSimpArgs false
end Go.Proofs.Ytojpibpjieanhaa.X
end
section
-- Written by a program of this session out of the kit's print of the loaded functions: a plain function of a Go function, and its contract.
namespace Go.Proofs.Ytojpibpjieanhaa.X
open Go.RowKit Go.Proofs.YtojpibpjieanhaaW.PrintWords Go.Proofs.YtojpibpjieanhaaW.PrintLast Go.Proofs.YtojpibpjieanhaaW.PrintMore
attribute [local go_sem] max2_int min2_int max_two min_two max_three min_three max_four min_four   -- for this text's walks alone
set_option linter.unusedVariables false
set_option linter.unusedSimpArgs false
end Go.Proofs.Ytojpibpjieanhaa.X
end
section
namespace Go.Proofs.Ytojpibpjieanhaa.X
open Go.RowKit Go.Proofs.YtojpibpjieanhaaW.PrintWords Go.Proofs.YtojpibpjieanhaaW.PrintLast Go.Proofs.YtojpibpjieanhaaW.PrintMore
set_option linter.unusedVariables false
set_option linter.unusedSimpArgs false
def wel (m : Int) (i : Nat) : S55 := ⟨m + 3 * (i : Int), m + 3 * (i : Int) + 1, m + 3 * (i : Int) + 1 + 1⟩
def wiota (m : Int) (n : Nat) : List S55 := (List.range n).map (wel m)
theorem wiota_len (m : Int) (n : Nat) : (wiota m n).length = n := by simp [wiota]
theorem wiota_get (m : Int) (n j : Nat) (h : j < n) : (wiota m n)[j]? = some (wel m j) := by simp [wiota, h]
theorem markW_loop (m : Int) (n : Nat) (hm : 0 ≤ m) (hm2 : m ≤ 1000000000) (hn : n ≤ 4000000) : ∀ (d k i : Nat) (x : List S55), x.length = n → i + d = n → d < k → (∀ j, j < i → x[j]? = some (wel m j)) →
    laws_markWireS.l0 k x (m + 3 * (i : Int)) i = some (m + 3 * (n : Int), wiota m n)
  | 0, k, i, x, hx, hi, hk, hj => by
    cases k with
    | zero => omega
    | succ k =>
      have e : x = wiota m n := by
        apply List.ext_getElem?
        intro j
        rcases Nat.lt_or_ge j n with h | h
        · rw [hj j (by omega), wiota_get m n j h]
        · rw [List.getElem?_eq_none (by omega), List.getElem?_eq_none (by rw [wiota_len]; omega)]
      rw [laws_markWireS.l0, if_neg (by omega), e, show i = n by omega]
  | d + 1, k, i, x, hx, hi, hk, hj => by
    cases k with
    | zero => omega
    | succ k =>
      have ih := markW_loop m n hm hm2 hn d k (i + 1) (x.set i (wel m i)) (by simpa using hx) (by omega) (by omega) (by
        intro j hlt
        rw [List.getElem?_set]
        by_cases h : i = j
        · subst h; rw [if_pos rfl, if_pos (by omega)]
        · rw [if_neg h]; exact hj j (by omega))
      have a1 : ∀ v : S55, rd_T55 (x.set i v) (i : Int) = v := fun v => by rw [rdT_at _ i (by simp; omega), List.getElem_set_self]
      rw [laws_markWireS.l0, if_pos (by omega), if_pos (by omega)]
      simp only [Option.bind_some, Int.toNat_natCast, a1, List.set_set]
      rw [w64 (n := m + 3 * (i : Int) + 1) (by omega) (by omega), w64 (n := m + 3 * (i : Int) + 1 + 1) (by omega) (by omega), w64 (n := m + 3 * (i : Int) + 1 + 1 + 1) (by omega) (by omega), w64 (n := (i : Int) + 1) (by omega) (by omega)]
      have e1 : m + 3 * (i : Int) + 1 + 1 + 1 = m + 3 * ((i + 1 : Nat) : Int) := by omega
      have e2 : (i : Int) + 1 = ((i + 1 : Nat) : Int) := by omega
      rw [e1, e2]
      exact ih
theorem markWireS_eq (k : Nat) (l : List S55) (m : Int) (hm : 0 ≤ m) (hm2 : m ≤ 1000000000) (hl : l.length ≤ 4000000) (hk : l.length < k) :
    laws_markWireS.f k l m = some (m + 3 * (l.length : Int), wiota m l.length) := by
  unfold laws_markWireS.f
  have h := markW_loop m l.length hm hm2 hl l.length k 0 l rfl (by omega) hk (fun j h => absurd h (by omega))
  simpa using h
theorem markFlow_eq (k : Nat) (l : List Int) (ws : List S55) (hl : l.length ≤ 4000000) (hw : ws.length ≤ 4000000) (hk : 9000000 < k) : laws_markFlow.f k l ws 1 = some (1 + (l.length : Int) + 3 * (ws.length : Int), iota 1 l.length, wiota (1 + (l.length : Int)) ws.length) := by
  unfold laws_markFlow.f
  rw [markInt64S_eq k l 1 (by omega) (by omega) hl (by omega), Option.bind_some, markWireS_eq k ws _ (by simp only; omega) (by simp only; omega) hw (by omega), Option.bind_some]
end Go.Proofs.Ytojpibpjieanhaa.X
end
section
namespace Go.Proofs.Ytojpibpjieanhaa.X
open Go.RowKit Go.Proofs.YtojpibpjieanhaaW.PrintWords Go.Proofs.YtojpibpjieanhaaW.PrintLast Go.Proofs.YtojpibpjieanhaaW.PrintMore
set_option linter.unusedVariables false
set_option linter.unusedSimpArgs false
end Go.Proofs.Ytojpibpjieanhaa.X
end
section
-- Written by a program of this session out of the kit's print of the loaded functions: a plain function of a Go function, and its contract.
namespace Go.Proofs.Ytojpibpjieanhaa.X
open Go.RowKit Go.Proofs.YtojpibpjieanhaaW.PrintWords Go.Proofs.YtojpibpjieanhaaW.PrintLast Go.Proofs.YtojpibpjieanhaaW.PrintMore
attribute [local go_sem] max2_int min2_int max_two min_two max_three min_three max_four min_four   -- for this text's walks alone
set_option linter.unusedVariables false
set_option linter.unusedSimpArgs false
end Go.Proofs.Ytojpibpjieanhaa.X
end
section
-- Written by a program of this session out of the kit's print of the loaded functions: a plain function of a Go function, and its contract.
namespace Go.Proofs.Ytojpibpjieanhaa.X
open Go.RowKit Go.Proofs.YtojpibpjieanhaaW.PrintWords Go.Proofs.YtojpibpjieanhaaW.PrintLast Go.Proofs.YtojpibpjieanhaaW.PrintMore
attribute [local go_sem] max2_int min2_int max_two min_two max_three min_three max_four min_four   -- for this text's walks alone
set_option linter.unusedVariables false
set_option linter.unusedSimpArgs false
end Go.Proofs.Ytojpibpjieanhaa.X
end
section
namespace Go.Proofs.Ytojpibpjieanhaa.X
open Go.RowKit Go.Proofs.YtojpibpjieanhaaW.PrintWords Go.Proofs.YtojpibpjieanhaaW.PrintLast Go.Proofs.YtojpibpjieanhaaW.PrintMore Go.Proofs.Ytojpibpjieanhaa.FlowMath Go.Proofs.Ytojpibpjieanhaa.ConsMath
set_option linter.unusedVariables false
set_option linter.unusedSimpArgs false
theorem flow_of (d : List Int) (ws : List S55) (h : validB d ws = true) : FewMath.Fl d ws d.length := by
  unfold validB at h
  rw [Bool.and_eq_true] at h
  obtain ⟨hn, hm, hd, hw⟩ := form_ok h.1
  refine ⟨rfl, hn.1, hn.2, hm, hw, fun v => ?_, fun v hv => ?_⟩
  · unfold FewMath.dl
    rw [List.getD_eq_getElem?_getD]
    rcases Nat.lt_or_ge v d.length with hv | hv
    · rw [List.getElem?_eq_getElem hv]; exact hd _ (List.getElem_mem hv)
    · rw [List.getElem?_eq_none hv]; simp
  · have := h.2
    rw [@decide_eq_true _ (Classical.propDecidable _) ⟨v, hv⟩] at this
    simp at this
theorem tab_all (K : Nat) (d : List Int) (ws : List S55) (h : validB d ws = true) (hK : 100 < K) : ∃ M, impl_Flow_allBetween.f K d ws = some (rowsS d.length M) ∧ Tab d ws d.length M := by
  have hf := flow_of d ws h
  obtain ⟨M, h1, h2, h3, h4, h5⟩ := FewMath.impl_few hf K hK
  exact ⟨M, h1, tab_of hf h2 h3 h5⟩
theorem bne_same (b : Bool) : (b != b) = false := by cases b <;> rfl
end Go.Proofs.Ytojpibpjieanhaa.X
end
