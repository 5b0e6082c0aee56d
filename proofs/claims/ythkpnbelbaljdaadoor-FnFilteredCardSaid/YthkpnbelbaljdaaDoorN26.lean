/- My own texts of this seat and its words, merged: CFiltered. Conditions: as each lemma says. -/
import Derived.Test.YthkpnbelbaljdaaDoorN23
import Derived.Test.YthkpnbelbaljdaaDoorN24
section
namespace Go.Proofs.YthkpnbelbaljdaaDoor.X
open Go.RowKit Go.Proofs.YthkpnbelbaljdaaDoorW.PrintWords Go.Proofs.YthkpnbelbaljdaaDoorW.PrintLast Go.Proofs.YthkpnbelbaljdaaDoorW.PrintMore
set_option linter.unusedVariables false
set_option linter.unusedSimpArgs false
theorem j5_ok (s calm lg D F : ByteArray) (n t c i : Int) (k : Nat) (i0 : 0 ≤ i) (z0 : i < (s.size : Int)) (z1 : i < (calm.size : Int)) (z2 : i < (lg.size : Int)) (z3 : i < (D.size : Int)) (z4 : i < (F.size : Int)) (c0 : 0 ≤ c) (c1 : c ≤ 1000) (i1 : i ≤ 1000)
    (hs : bt s i = 48 ∨ bt s i = 49) (hc : bt calm i = 48 ∨ bt calm i = 49) (hd : bt D i = 48 ∨ bt D i = 49) (hl : bt lg i = 48 ∨ bt lg i = 49) (hf : bt F i = 48 ∨ bt F i = 49)
    (f1 : c + 1 < t ∨ bt calm i = bt s i) (f2 : bt s i = 48 ∨ (bt lg i = 49 ∧ bt F i = 49)) (f3 : bt D i = 48 ∨ bt s i = 49) (f4 : bt calm i = 48 ∨ t ≤ i + 1) :
    laws_FnFiltered.j5 (k + 1) s n t calm lg D F c i = laws_FnFiltered.j6 k s n t calm lg D F (c + 1) i false := by
  have e1 : wrap64 (c + 1) = c + 1 := w64 (by omega) (by omega)
  have e2 : wrap64 (i + 1) = i + 1 := w64 (by omega) (by omega)
  rw [laws_FnFiltered.j5]
  simp only [e1, e2]
  by_cases h1 : t ≤ c + 1
  · by_cases h5 : i + 1 < t
    · rcases hs with hs | hs <;> rcases hc with hc | hc <;> rcases hd with hd | hd <;> rcases hl with hl | hl <;> rcases hf with hf | hf <;> first | (exfalso; omega) | simp [hs, hc, hd, hl, hf, h1, h5, i0, z0, z1, z2, z3, z4]
    · rcases hs with hs | hs <;> rcases hc with hc | hc <;> rcases hd with hd | hd <;> rcases hl with hl | hl <;> rcases hf with hf | hf <;> first | (exfalso; omega) | simp [hs, hc, hd, hl, hf, h1, h5, i0, z0, z1, z2, z3, z4]
  · by_cases h5 : i + 1 < t
    · rcases hs with hs | hs <;> rcases hc with hc | hc <;> rcases hd with hd | hd <;> rcases hl with hl | hl <;> rcases hf with hf | hf <;> first | (exfalso; omega) | simp [hs, hc, hd, hl, hf, h1, h5, i0, z0, z1, z2, z3, z4]
    · rcases hs with hs | hs <;> rcases hc with hc | hc <;> rcases hd with hd | hd <;> rcases hl with hl | hl <;> rcases hf with hf | hf <;> first | (exfalso; omega) | simp [hs, hc, hd, hl, hf, h1, h5, i0, z0, z1, z2, z3, z4]
theorem calm_same (s : ByteArray) (hL : Lev s) (t i : Nat) (ht : 1 ≤ t) (hi : i < s.size) (hti : t ≤ i + 1) (h : ∀ j : Nat, j ≤ i → i < j + t → bt s (j : Int) = bt s (i : Int)) : bt (strOfNums (lvs (fun i => dlv s t (i + 1)) s.size)) (i : Int) = bt s (i : Int) := by
  rw [lvs_bt' _ _ i hi]
  show (if dlv s t (i + 1) = true then (49 : Int) else 48) = _
  rcases hL i hi with hb | hb
  · have hd : dlv s t (i + 1) = false := by rw [dlv, if_pos (cnt_none s i t hi (fun j h1 h2 => by rw [h j h1 h2, hb]))]
    rw [if_neg (by rw [hd]; decide), hb]
  · have hc := cnt_all s i t hi hti (fun j h1 h2 => by rw [h j h1 h2, hb])
    have hd : dlv s t (i + 1) = true := by rw [dlv, if_neg (by omega), if_pos hc]
    rw [if_pos hd, hb]
theorem main_loop (s calm lg D F : ByteArray) (t : Nat) (hL : Lev s) (hn : s.size ≤ 400) (ht : 1 ≤ t) (z1 : calm.size = s.size) (z2 : lg.size = s.size) (z3 : D.size = s.size) (z4 : F.size = s.size) (lc : Lev calm) (ll : Lev lg) (ld : Lev D) (lf : Lev F)
    (g1 : ∀ i : Nat, i < s.size → t ≤ i + 1 → (∀ j : Nat, j ≤ i → i < j + t → bt s (j : Int) = bt s (i : Int)) → bt calm (i : Int) = bt s (i : Int))
    (g2 : ∀ i : Nat, i < s.size → bt s (i : Int) = 49 → bt lg (i : Int) = 49 ∧ bt F (i : Int) = 49) (g3 : ∀ i : Nat, i < s.size → bt D (i : Int) = 49 → bt s (i : Int) = 49) (g4 : ∀ i : Nat, i < s.size → bt calm (i : Int) = 49 → t ≤ i + 1) :
    ∀ (d i k c : Nat), i + d = s.size → 4 * d + 2 ≤ k → c ≤ i → (∀ j : Nat, j < i → i ≤ j + c → bt s (j : Int) = bt s ((i - 1 : Nat) : Int)) →
    laws_FnFiltered.l2 k s (s.size : Int) (t : Int) calm lg D F (c : Int) (i : Int) = some true
  | 0, i, k, c, hi, hk, hc, hinv => by
    obtain ⟨k, rfl⟩ : ∃ q, k = q + 1 := ⟨k - 1, by omega⟩
    rw [laws_FnFiltered.l2, if_neg (by omega)]
  | d + 1, i, k, c, hi, hk, hc, hinv => by
    obtain ⟨k, rfl⟩ : ∃ q, k = q + 4 := ⟨k - 4, by omega⟩
    have hlt : i < s.size := by omega
    -- what the round does with the number of like levels
    have body : ∀ c' : Nat, c' ≤ i → (∀ j : Nat, j ≤ i → i < j + (c' + 1) → bt s (j : Int) = bt s (i : Int)) → laws_FnFiltered.j5 (k + 2) s (s.size : Int) (t : Int) calm lg D F (c' : Int) (i : Int) = some true := by
      intro c' hc' hrun
      have ih := main_loop s calm lg D F t hL hn ht z1 z2 z3 z4 lc ll ld lf g1 g2 g3 g4 d (i + 1) k (c' + 1) (by omega) (by omega) (by omega) (fun j h1 h2 => by
        rw [show i + 1 - 1 = i by omega]
        exact hrun j (by omega) (by omega))
      rw [Int.natCast_add, Int.natCast_one, Int.natCast_add, Int.natCast_one] at ih
      rw [j5_ok s calm lg D F _ _ _ _ (k + 1) (by omega) (by omega) (by omega) (by omega) (by omega) (by omega) (by omega) (by omega) (by omega) (hL i hlt) (lc i (by omega)) (ld i (by omega)) (ll i (by omega)) (lf i (by omega))
        (by
          rcases Nat.lt_or_ge (c' + 1) t with h | h
          · exact .inl (by omega)
          · exact .inr (g1 i hlt (by omega) (fun j h1 h2 => hrun j h1 (by omega))))
        (by
          rcases hL i hlt with h | h
          · exact .inl h
          · exact .inr (g2 i hlt h))
        (by
          rcases ld i (by omega) with h | h
          · exact .inl h
          · exact .inr (g3 i hlt h))
        (by
          rcases lc i (by omega) with h | h
          · exact .inl h
          · exact .inr (by have := g4 i hlt h; omega)), laws_FnFiltered.j6, if_neg (by decide), w64 (by omega) (by omega)]
      exact ih
    rw [laws_FnFiltered.l2, if_pos (by omega)]
    rcases Nat.eq_zero_or_pos i with h0 | h0
    · subst h0
      obtain rfl : c = 0 := by omega
      rw [if_neg (by omega), laws_FnFiltered.j4, if_neg (by decide)]
      exact body 0 (by omega) (fun j h1 h2 => by rw [show j = 0 by omega])
    · have ew : wrap64 ((i : Int) - 1) = ((i - 1 : Nat) : Int) := by rw [w64 (by omega) (by omega)]; omega
      rw [if_pos (by omega), if_pos (by omega), if_pos (by omega), ew, if_pos (by omega), if_pos (by omega), laws_FnFiltered.j4]
      by_cases hb : bt s (i : Int) = bt s ((i - 1 : Nat) : Int)
      · rw [hb, bne_self_eq_false, if_neg (by decide)]
        exact body c hc (fun j h1 h2 => by
          rcases Nat.lt_or_eq_of_le h1 with h3 | h3
          · rw [hinv j h3 (by omega), hb]
          · rw [h3])
      · rw [if_pos (by simpa using hb)]
        exact body 0 (by omega) (fun j h1 h2 => by rw [show j = i by omega])
theorem pulse_loop (s calm lg D F : ByteArray) (n t : Int) (P : List Int) (hP : P.length ≤ 1000) (h : ∀ x, x ∈ P → t ≤ x) (K : Nat) (hR : ∀ k, K ≤ k → laws_FnFiltered.l2 k s n t calm lg D F 0 0 = some true) :
    ∀ (d i k : Nat), i + d = P.length → d + 1 + K ≤ k → laws_FnFiltered.l1 k s n t calm lg D F P (i : Int) = some true
  | 0, i, k, hi, hk => by
    obtain ⟨k, rfl⟩ : ∃ q, k = q + 1 := ⟨k - 1, by omega⟩
    rw [laws_FnFiltered.l1, if_neg (by omega)]
    exact hR k (by omega)
  | d + 1, i, k, hi, hk => by
    obtain ⟨k, rfl⟩ : ∃ q, k = q + 1 := ⟨k - 1, by omega⟩
    have hlt : i < P.length := by omega
    have ih := pulse_loop s calm lg D F n t P hP h K hR d (i + 1) k (by omega) (by omega)
    rw [Int.natCast_add, Int.natCast_one] at ih
    have := h P[i] (List.getElem_mem hlt)
    rw [laws_FnFiltered.l1, if_pos (by omega), if_pos (by omega), rd_nat P i hlt, if_neg (by omega), w64 (by omega) (by omega), ih]
theorem gap_loop (s calm lg D F : ByteArray) (n t : Int) (G P : List Int) (hG : G.length ≤ 1000) (h : ∀ x, x ∈ G → t ≤ x) (hP : impl_PulsesOf.f D = some (P, true)) (K : Nat) (hR : ∀ k, K ≤ k → laws_FnFiltered.l1 k s n t calm lg D F P 0 = some true) :
    ∀ (d i k : Nat), i + d = G.length → d + 1 + K ≤ k → laws_FnFiltered.l0 k s n t calm lg D F G (i : Int) = some true
  | 0, i, k, hi, hk => by
    obtain ⟨k, rfl⟩ : ∃ q, k = q + 1 := ⟨k - 1, by omega⟩
    rw [laws_FnFiltered.l0, if_neg (by omega), hP, Option.bind_some, if_pos rfl]
    exact hR k (by omega)
  | d + 1, i, k, hi, hk => by
    obtain ⟨k, rfl⟩ : ∃ q, k = q + 1 := ⟨k - 1, by omega⟩
    have hlt : i < G.length := by omega
    have ih := gap_loop s calm lg D F n t G P hG h hP K hR d (i + 1) k (by omega) (by omega)
    rw [Int.natCast_add, Int.natCast_one] at ih
    have := h G[i] (List.getElem_mem hlt)
    rw [laws_FnFiltered.l0, if_pos (by omega), if_pos (by omega), rd_nat G i hlt, if_neg (by omega), w64 (by omega) (by omega), ih]
theorem filter_yes (s : ByteArray) (a : Int) (hs : s.size ≤ 400) (hL : Lev s) (h1 : 1 ≤ a) (h2 : a ≤ 50) : impl_isFilter.f s a = some true := by
  unfold impl_isFilter.f impl_IsWave.f
  rw [if_pos (by omega), Option.bind_some, (isW_iff s).2 ⟨hs, hL⟩, if_pos rfl, within_eq, Option.bind_some, decide_eq_true (show 1 ≤ a ∧ a ≤ 50 from ⟨h1, h2⟩)]
theorem cutsN_len (c : UInt8) (s : ByteArray) : (lenN (cuts c s) (cuts c s).length).length ≤ s.size + 1 := by
  have h1 := lenN_len (cuts c s) (cuts c s).length
  have h2 : (cuts c s).length = Lib.countByte s.data.toList c + 1 := by
    unfold cuts
    rw [cutN_eq, List.length_append, headN_len]; rfl
  have h3 := count_le s c
  omega
theorem FnFiltered_pure : laws_FnFiltered.Pure := by
  intro l0 l1 _ _ hw0 _ _ hw1
  have b0 := byt_wf hw0
  have b1 := byt_wf hw1
  obtain ⟨k, hkl⟩ : ∃ k : Nat, 500000 < k := ⟨500001, by omega⟩
  refine ⟨k, ?_⟩
  unfold laws_FnFiltered.f laws_b10Long.f
  by_cases hl0 : (l0.length : Int) > 1048576
  · rw [if_pos hl0, Option.bind_some, if_pos rfl]
  · rw [if_neg hl0, Option.bind_some]
    by_cases hl1 : (l1.length : Int) > 1048576
    · rw [if_pos (decide_eq_true hl1)]
    · rw [if_neg (by rw [decide_eq_false hl1]; decide)]
      obtain ⟨w, ew, zw, lw⟩ := wave_ok k l0 b0 (by omega)
      rw [ew, Option.bind_some]
      obtain ⟨tv, htv, t0, t1⟩ := at_ok l1 b1 0 6 (by omega) (by omega) (by omega)
      obtain ⟨mv, hmv, m0, m1⟩ := at_ok l1 b1 1 4 (by omega) (by omega) (by omega)
      rw [show ((0 : Nat) : Int) = 0 from rfl, show ((6 : Nat) : Int) = 6 from rfl] at htv
      rw [show ((1 : Nat) : Int) = 1 from rfl, show ((4 : Nat) : Int) = 4 from rfl] at hmv
      obtain ⟨t, ht⟩ : ∃ t : Nat, 1 + tv = (t : Int) := ⟨(1 + tv).toNat, by omega⟩
      have ht1 : 1 ≤ t := by omega
      have ht2 : t ≤ 6 := by omega
      have eD : impl_Debounce.f w (t : Int) = some (strOfNums (lvs (fun i => dlv w t (i + 1)) w.size), true) := by
        unfold impl_Debounce.f
        rw [filter_yes w t (by omega) lw (by omega) (by omega), Option.bind_some, if_pos rfl, Int.toNat_natCast]
      have eS : impl_StretchPulses.f w (t : Int) = some (strOfNums (lvs (fun i => decide (0 < cnt w i t)) w.size), true) := by
        unfold impl_StretchPulses.f
        rw [filter_yes w t (by omega) lw (by omega) (by omega), Option.bind_some, if_pos rfl, Int.toNat_natCast]
      have eP : impl_DropPulses.f w (t : Int) = some (dropW w t, true) := by
        unfold impl_DropPulses.f
        rw [filter_yes w t (by omega) lw (by omega) (by omega), Option.bind_some, if_pos rfl]; rfl
      have eF : impl_FillGaps.f w (t : Int) = some (fillW w t, true) := by
        unfold impl_FillGaps.f
        rw [filter_yes w t (by omega) lw (by omega) (by omega), Option.bind_some, if_pos rfl]; rfl
      have eM : ∃ most : ByteArray, most.size = w.size ∧ impl_MajorityWave.f w (2 * mv + 1) = some (most, true) := by
        refine ⟨strOfNums (lvs (fun i => decide (2 * (cnt w i (2 * mv + 1).toNat : Int) > 2 * mv + 1)) w.size), lvs_size _ _, ?_⟩
        unfold impl_MajorityWave.f
        rw [filter_yes w (2 * mv + 1) (by omega) lw (by omega) (by omega), Option.bind_some, if_pos rfl, if_neg (by rw [tmodp (by omega)]; simp)]
      obtain ⟨most, zm, eM⟩ := eM
      have zc := lvs_size (fun i => dlv w t (i + 1)) w.size
      have zl := lvs_size (fun i => decide (0 < cnt w i t)) w.size
      have lc := lvs_lev' (fun i => dlv w t (i + 1)) w.size
      have ll := lvs_lev' (fun i => decide (0 < cnt w i t)) w.size
      have e1 := short_none k (strOfNums (lvs (fun i => dlv w t (i + 1)) w.size)) (t : Int) (by omega) lc (by omega) (by omega) (fun a n hp hlt => by
        rw [lvs_size] at hlt
        have := calm_long w t ht1 a n hp hlt
        omega) (by omega)
      have e2 := short_none k (strOfNums (lvs (fun i => decide (0 < cnt w i t)) w.size)) (t : Int) (by omega) ll (by omega) (by omega) (fun a n hp hlt => by
        rw [lvs_size] at hlt
        have := long_long w lw t ht1 a n hp hlt
        omega) (by omega)
      have zF := fillW_size w t
      have zD := dropW_size w t
      have lF := fillW_lev w lw t
      have lD := dropW_lev w lw t
      have eG : ∃ G : List Int, G.length ≤ 1000 ∧ (∀ x, x ∈ G → (t : Int) ≤ x) ∧ impl_GapsOf.f (fillW w t) = some (G, true) := by
        have hr : (⟨(Lib.trimB (fillW w t).data.toList 48).toArray⟩ : ByteArray).data.toList = Lib.trimB (fillW w t).data.toList 48 := by simp
        have hrs : (⟨(Lib.trimB (fillW w t).data.toList 48).toArray⟩ : ByteArray).size ≤ 400 := by
          obtain ⟨p, m, hpm, e, _⟩ := trim_is 48 (fillW w t).data.toList
          have hsz : (fillW w t).data.toList.length = w.size := by rw [← zF]; simp
          show (Lib.trimB (fillW w t).data.toList 48).toArray.size ≤ 400
          rw [e, List.size_toArray, List.length_take, List.length_drop]; omega
        refine ⟨lenN (cuts 49 ⟨(Lib.trimB (fillW w t).data.toList 48).toArray⟩) (cuts 49 ⟨(Lib.trimB (fillW w t).data.toList 48).toArray⟩).length, ?_, fun x hx => fill_lens w lw t x ⟨(Lib.trimB (fillW w t).data.toList 48).toArray⟩ hr hx, ?_⟩
        · have := cutsN_len 49 ⟨(Lib.trimB (fillW w t).data.toList 48).toArray⟩
          omega
        · unfold impl_GapsOf.f impl_IsWave.f
          rw [if_pos (by omega), Option.bind_some, (isW_iff _).2 ⟨by omega, lF⟩, if_pos rfl]
          have eT : strings_Trim.f (fillW w t) ⟨#[48]⟩ = some ⟨(Lib.trimB (fillW w t).data.toList 48).toArray⟩ := by
            unfold strings_Trim.f
            show (if (48 : UInt8).toNat < 128 ∧ (fillW w t).size ≤ 2000000 then _ else none) = _
            rw [if_pos ⟨by decide, by omega⟩]
          rw [eT, Option.bind_some]
          unfold impl_lengthsOf.f
          rw [if_pos ⟨by omega, rfl⟩, Option.bind_some]; rfl
      obtain ⟨G, hG1, hG2, eG⟩ := eG
      have eL : ∃ P : List Int, P.length ≤ 1000 ∧ (∀ x, x ∈ P → (t : Int) ≤ x) ∧ impl_PulsesOf.f (dropW w t) = some (P, true) := by
        refine ⟨lenN (cuts 48 (dropW w t)) (cuts 48 (dropW w t)).length, ?_, fun x hx => drop_lens w lw t x hx, ?_⟩
        · have := cutsN_len 48 (dropW w t)
          omega
        · unfold impl_PulsesOf.f impl_IsWave.f
          rw [if_pos (by omega), Option.bind_some, (isW_iff _).2 ⟨by omega, lD⟩, if_pos rfl]
          unfold impl_lengthsOf.f
          rw [if_pos ⟨by omega, rfl⟩, Option.bind_some]; rfl
      obtain ⟨P, hP1, hP2, eL⟩ := eL
      have fin : ∀ q, 2000 ≤ q → laws_FnFiltered.l2 q w (w.size : Int) (t : Int) (strOfNums (lvs (fun i => dlv w t (i + 1)) w.size)) (strOfNums (lvs (fun i => decide (0 < cnt w i t)) w.size)) (dropW w t) (fillW w t) 0 0 = some true := fun q hq =>
        main_loop w _ _ _ _ t lw (by omega) ht1 zc zl zD zF lc ll lD lF (fun i hi hti h => calm_same w lw t i ht1 hi hti h)
          (fun i hi h => ⟨by
            rw [lvs_bt' _ _ i hi]
            exact if_pos (decide_eq_true (cnt_pos w i t hi i (Nat.le_refl _) (by omega) h)), fill_keeps w lw t i hi h⟩)
          (fun i hi h => drop_low w lw t i hi h)
          (fun i hi h => by
            rw [lvs_bt' _ _ i hi] at h
            cases hd : dlv w t (i + 1) with
            | true => exact dlv_far w t (i + 1) (by omega) hd
            | false => simp only [hd] at h; cases h)
          w.size 0 q 0 (Nat.zero_add _) (by omega) (Nat.le_refl _) (fun j h => by omega)
      rw [htv, Option.bind_some, w64 (n := 1 + tv) (by omega) (by omega), ht, eD, Option.bind_some, eS, Option.bind_some, eP, Option.bind_some, eF, Option.bind_some, e1, Option.bind_some, e2, Option.bind_some, eG, Option.bind_some, hmv, Option.bind_some, w64 (n := 2 * mv) (by omega) (by omega), w64 (n := 2 * mv + 1) (by omega) (by omega), eM, Option.bind_some]
      generalize strOfNums (lvs (fun i => dlv w t (i + 1)) w.size) = calm at *
      generalize strOfNums (lvs (fun i => decide (0 < cnt w i t)) w.size) = lg at *
      dsimp only
      rw [if_pos rfl, if_pos rfl, if_pos rfl, if_pos rfl, if_pos rfl, if_pos rfl, if_pos rfl, if_pos rfl, if_pos (by simp), if_pos (by simp), if_pos (by omega), if_pos (by omega), if_pos (by omega), if_pos (by omega), zm, bne_self_eq_false]
      obtain ⟨k, rfl⟩ : ∃ q, k = q + 1 := ⟨k - 1, by omega⟩
      rw [laws_FnFiltered.j0, if_neg (by decide)]
      exact gap_loop w calm lg (dropW w t) (fillW w t) _ _ G P hG1 hG2 eL 4000 (fun q hq => pulse_loop w calm lg (dropW w t) (fillW w t) _ _ P hP1 hP2 2000 fin P.length 0 q (Nat.zero_add _) (by omega)) G.length 0 k (Nat.zero_add _) (by omega)
end Go.Proofs.YthkpnbelbaljdaaDoor.X
end
