/- My own texts of this seat and its words, merged: CGated. Conditions: as each lemma says. -/
import Derived.Test.YthkpnbelbaljdaaDoorM23
import Derived.Test.YthkpnbelbaljdaaDoorM25
section
/- A gated clock and its reset: the plain law of FnGated. Conditions: as each lemma says. -/
namespace Go.Proofs.YthkpnbelbaljdaaDoor.X
open Go.RowKit Go.Proofs.YthkpnbelbaljdaaDoorW.PrintWords Go.Proofs.YthkpnbelbaljdaaDoorW.PrintLast Go.Proofs.YthkpnbelbaljdaaDoorW.PrintMore
set_option linter.unusedVariables false
set_option linter.unusedSimpArgs false
theorem lvs_bt' (lv : Nat → Bool) (n i : Nat) (hi : i < n) : bt (strOfNums (lvs lv n)) (i : Int) = if lv i = true then 49 else 48 := by
  have hl : i < (lvs lv n).length := by rw [lvs_len]; exact hi
  have e : (lvs lv n)[i] = if lv i = true then 49 else 48 := by simp [lvs]
  rw [bt_str _ i hl (by rw [e]; split <;> omega) (by rw [e]; split <;> omega), e]
theorem lvs_lev' (lv : Nat → Bool) (n : Nat) : Lev (strOfNums (lvs lv n)) := by
  intro i hi
  rw [lvs_size] at hi
  rw [lvs_bt' lv n i hi]
  cases lv i
  · exact .inl rfl
  · exact .inr rfl
theorem are2_true (s z : ByteArray) (hs : isW s = true) (hz : isW z = true) (h : z.size = s.size) : impl_areWaves.f [s, z] = some true := by
  have h1 := (isW_iff s).1 hs
  have h2 := (isW_iff z).1 hz
  unfold impl_areWaves.f areW badW
  rw [if_pos ⟨by simp, by simp, by intro x hx; rcases List.mem_cons.1 hx with rfl | hx; omega; rcases List.mem_cons.1 hx with rfl | hx; omega; simp at hx⟩]
  congr 1
  simp [hs, hz, h]
/-- A gated clock goes with the clock. -/
theorem gate_goes (s z o : ByteArray) (hs : Lev s) (hn : s.size = o.size) (hlv : ∀ i : Nat, i < o.size → (bt o (i : Int) = 49 ↔ glv s z i = true)) (i : Nat) (hi : i < o.size) (hE : isE o 49 i = true) : Goes o s i := by
  have gl : ∀ j : Nat, j < o.size → (bt o (j : Int) = 49 ↔ (bt s (j : Int) = 49 ∧ bt z (lst s j) = 49)) := by
    intro j hj
    rw [hlv j hj]
    unfold glv
    rcases hs j (by omega) with h | h <;> simp [h]
  have lk : ∀ j : Nat, bt s (j : Int) = 49 → lst s (j + 1) = lst s j := fun j h => by rw [lst, if_neg (by omega)]
  obtain ⟨h49, hpre⟩ := (isE_one o i).1 hE
  obtain ⟨h1, h2⟩ := (gl i hi).1 h49
  refine ⟨(isE_one s i).2 ⟨h1, ?_⟩, ?_⟩
  · rcases hpre with h | h
    · exact .inl h
    · right
      intro hs49
      rcases Nat.eq_zero_or_pos i with h0 | h0
      · subst h0; exact h h49
      · apply h
        obtain ⟨q, rfl⟩ : ∃ q, i = q + 1 := ⟨i - 1, by omega⟩
        rw [Nat.add_sub_cancel] at hs49 ⊢
        exact (gl q (by omega)).2 ⟨hs49, by rw [← lk q hs49]; exact h2⟩
  · intro j hij hj hall
    have key : ∀ d : Nat, i + d ≤ j → lst s (i + d) = lst s i := by
      intro d
      induction d with
      | zero => intro _; rfl
      | succ d ih =>
        intro hd
        have hq := (gl (i + d) (by omega)).1 (hall (i + d) (by omega) (by omega))
        rw [← Nat.add_assoc, lk (i + d) hq.1, ih (by omega)]
    have hk := key (j - i) (by omega)
    rw [show i + (j - i) = j by omega] at hk
    rw [gl j hj, hk]
    exact ⟨fun h => h.1, fun h => ⟨h, h2⟩⟩
/-- How often a wave goes up before a tick. -/
def upc (s : ByteArray) : Nat → Int
  | 0 => 0
  | n + 1 => if isE s 49 n = true then upc s n + 1 else upc s n
theorem upc_rng (s : ByteArray) : ∀ n : Nat, 0 ≤ upc s n ∧ upc s n ≤ n
  | 0 => by simp [upc]
  | n + 1 => by
    have := upc_rng s n
    unfold upc
    split <;> omega
theorem ups_loop (s : ByteArray) (hL : Lev s) (hs : s.size ≤ 1000) (m : Nat) (hm : m ≤ s.size) : ∀ (d k i : Nat), i + d = m → 2 * d + 1 < k → laws_b10Ups.l0 k s m (upc s i) i = some (upc s m)
  | 0, k, i, hi, hk => by
    cases k with
    | zero => omega
    | succ k =>
      cases k with
      | zero => omega
      | succ k => rw [laws_b10Ups.l0, if_neg (by omega), laws_b10Ups.j1, if_neg (by decide), show i = m by omega]
  | d + 1, k, i, hi, hk => by
    cases k with
    | zero => omega
    | succ k =>
      cases k with
      | zero => omega
      | succ k =>
        have ih := ups_loop s hL hs m hm d k (i + 1) (by omega) (by omega)
        have hr := upc_rng s i
        rw [laws_b10Ups.l0, if_pos (by omega), laws_b10Ups.j1, if_pos (decide_eq_true (by omega)), if_pos (by omega), if_pos (by omega), w64 (n := upc s i + 1) (by omega) (by omega), w64 (n := (i : Int) + 1) (by omega) (by omega)]
        rw [show upc s (i + 1) = if isE s 49 i = true then upc s i + 1 else upc s i from rfl, Int.natCast_add, Int.natCast_one] at ih
        by_cases h1 : bt s (i : Int) = 49
        · rw [if_pos h1]
          by_cases h0 : i = 0
          · have e : isE s 49 i = true := (isE_one s i).2 ⟨h1, .inl h0⟩
            rw [e, if_pos rfl] at ih
            rw [if_pos (by omega)]; exact ih
          · obtain ⟨q, rfl⟩ : ∃ q, i = q + 1 := ⟨i - 1, by omega⟩
            have e1 : wrap64 (((q + 1 : Nat) : Int) - 1) = (q : Int) := by rw [w64 (by omega) (by omega)]; omega
            rw [if_neg (by omega), e1, if_pos (by omega), if_pos (by omega)]
            by_cases h2 : bt s (q : Int) = 48
            · have e : isE s 49 (q + 1) = true := (isE_one s (q + 1)).2 ⟨h1, .inr (by rw [Nat.add_sub_cancel]; omega)⟩
              rw [e, if_pos rfl] at ih
              rw [if_pos h2]; exact ih
            · have e : isE s 49 (q + 1) = false := by
                rw [Bool.eq_false_iff]
                intro h
                obtain ⟨_, h3⟩ := (isE_one s (q + 1)).1 h
                rw [Nat.add_sub_cancel] at h3
                rcases hL q (by omega) with h4 | h4
                · exact h2 h4
                · rcases h3 with h3 | h3
                  · omega
                  · exact h3 h4
              rw [e, if_neg (by decide)] at ih
              rw [if_neg h2]; exact ih
        · have e : isE s 49 i = false := by
            rw [Bool.eq_false_iff]
            intro h
            exact h1 ((isE_one s i).1 h).1
          rw [e, if_neg (by decide)] at ih
          rw [if_neg h1]; exact ih
theorem ups_eq (s : ByteArray) (hL : Lev s) (hs : s.size ≤ 1000) (m : Nat) (hm : m ≤ s.size) (k : Nat) (hk : 2 * m + 1 < k) : laws_b10Ups.f k s m = some (upc s m) := ups_loop s hL hs m hm m k 0 (by omega) hk
/-- Behind the last tick at which a level was on, ahead of a tick. -/
def lon (z : ByteArray) : Nat → Nat
  | 0 => 0
  | i + 1 => if bt z (i : Int) = 49 then i + 1 else lon z i
theorem lon_le (z : ByteArray) : ∀ i, lon z i ≤ i
  | 0 => Nat.le_refl _
  | i + 1 => by have := lon_le z i; unfold lon; split <;> omega
theorem rst_upc (s z : ByteArray) : ∀ i : Nat, rst s z i = upc s i - upc s (lon z i)
  | 0 => rfl
  | i + 1 => by
    have ih := rst_upc s z i
    rw [rst, upc, lon]
    by_cases h : bt z (i : Int) = 49
    · rw [if_pos h, if_pos h, upc]; omega
    · rw [if_neg h, if_neg h]
      split <;> omega
section
variable {w z pl rs : ByteArray} {n : Nat} {st least : Int} {sp us ln : List Int}
theorem gt_round (hL : Lev w) (zw : w.size = n) (zz : z.size = n) (zp : pl.size = n) (zr : rs.size = n) (hn : n ≤ 400) (hst : 1 ≤ st) (hst2 : st ≤ 100)
    (hpl : ∀ i : Nat, i < n → (bt pl (i : Int) == 49) = ((bt w (i : Int) == 49) && (bt z (i : Int) == 49))) (hrs : ∀ i : Nat, i < n → (bt rs (i : Int) == 49) = decide (rst w z (i + 1) < st)) (i : Nat) (hi : i < n) (k : Nat) (hk : 2 * n + 4 < k) :
    laws_FnGated.l0 (k + 3) w n z pl st rs least sp us ln ((lon z i : Int) - 1) i = laws_FnGated.l0 k w n z pl st rs least sp us ln ((lon z (i + 1) : Int) - 1) ((i + 1 : Nat) : Int) := by
  have hp := hpl i hi
  have hr := hrs i hi
  have hll := lon_le z i
  have hll1 := lon_le z (i + 1)
  have s1 : laws_FnGated.l0 (k + 3) w n z pl st rs least sp us ln ((lon z i : Int) - 1) i = laws_FnGated.j2 (k + 2) w n z pl st rs least sp us ln ((lon z i : Int) - 1) i false := by
    rw [laws_FnGated.l0, if_pos (by omega), if_pos (by omega), if_pos (by omega), if_pos (by omega)]
    by_cases h : bt w (i : Int) = 49
    · rw [if_pos h, if_pos (by omega), hp, h]
      cases (bt z (i : Int) == 49) <;> rfl
    · rw [if_neg h, hp, beq_eq_false_iff_ne.mpr h]; rfl
  have s2 : laws_FnGated.j2 (k + 2) w n z pl st rs least sp us ln ((lon z i : Int) - 1) i false = laws_FnGated.j3 (k + 1) w n z pl st rs least sp us ln ((lon z (i + 1) : Int) - 1) i := by
    rw [laws_FnGated.j2, if_neg (by decide), if_pos (by omega), if_pos (by omega)]
    by_cases h : bt z (i : Int) = 49
    · rw [if_pos h, show lon z (i + 1) = i + 1 by rw [lon, if_pos h], show ((i + 1 : Nat) : Int) - 1 = (i : Int) by omega]
    · rw [if_neg h, show lon z (i + 1) = lon z i by rw [lon, if_neg h]]
  have u1 := ups_eq w hL (by omega) (i + 1) (by omega) k (by omega)
  have u2 := ups_eq w hL (by omega) (lon z (i + 1)) (by omega) k (by omega)
  have q1 := upc_rng w (i + 1)
  have q2 := upc_rng w (lon z (i + 1))
  rw [s1, s2, laws_FnGated.j3, w64 (n := (i : Int) + 1) (by omega) (by omega), w64 (n := (lon z (i + 1) : Int) - 1 + 1) (by omega) (by omega), show (lon z (i + 1) : Int) - 1 + 1 = (lon z (i + 1) : Int) by omega]
  rw [Int.natCast_add, Int.natCast_one] at u1
  rw [u1, Option.bind_some, u2, Option.bind_some, if_pos (by omega), if_pos (by omega), if_pos (by omega), Int.natCast_add, Int.natCast_one]
  have hz0 : bt z (i : Int) = 49 → rst w z (i + 1) = 0 := fun h => by rw [rst, if_pos h]
  by_cases h : bt z (i : Int) = 49
  · have e : (bt rs (i : Int) == 49) = true := by rw [hr, hz0 h]; exact decide_eq_true (by omega)
    rw [if_pos h, e, if_neg (by decide)]
  · have e : (bt rs (i : Int) == 49) = decide (wrap64 (upc w (i + 1) - upc w (lon z (i + 1))) < st) := by rw [hr, rst_upc w z (i + 1), w64 (by omega) (by omega)]
    rw [if_neg h, e, if_neg (by simp)]
theorem gt_loop (hL : Lev w) (zw : w.size = n) (zz : z.size = n) (zp : pl.size = n) (zr : rs.size = n) (hn : n ≤ 400) (hst : 1 ≤ st) (hst2 : st ≤ 100)
    (hpl : ∀ i : Nat, i < n → (bt pl (i : Int) == 49) = ((bt w (i : Int) == 49) && (bt z (i : Int) == 49))) (hrs : ∀ i : Nat, i < n → (bt rs (i : Int) == 49) = decide (rst w z (i + 1) < st)) (K : Nat) (hK : 2 * n + 4 < K) (hend : ∀ k, K ≤ k → laws_FnGated.l1 k n least sp us ln 0 0 = some true) :
    ∀ (d i k : Nat), i + d = n → 3 * d + K < k → laws_FnGated.l0 k w n z pl st rs least sp us ln ((lon z i : Int) - 1) i = some true
  | 0, i, k, hi, hk => by
    cases k with
    | zero => omega
    | succ k => rw [laws_FnGated.l0, if_neg (by omega)]; exact hend k (by omega)
  | d + 1, i, k, hi, hk => by
    obtain ⟨k, rfl⟩ : ∃ q, k = q + 3 := ⟨k - 3, by omega⟩
    rw [gt_round hL zw zz zp zr hn hst hst2 hpl hrs i (by omega) k (by omega)]
    exact gt_loop hL zw zz zp zr hn hst hst2 hpl hrs K hK hend d (i + 1) k (by omega) (by omega)
end
/-- The begins of the short pulses among the first ones. -/
def shr (us ln : List Int) (c : Int) (n : Int) : Nat → List Int
  | 0 => []
  | k + 1 => shr us ln c n k ++ (if ln.getD k 0 < c ∧ us.getD k 0 + ln.getD k 0 < n then [us.getD k 0] else [])
theorem shr_len (us ln : List Int) (c n : Int) : ∀ k, (shr us ln c n k).length ≤ k
  | 0 => Nat.le_refl _
  | k + 1 => by
    have := shr_len us ln c n k
    rw [shr, List.length_append]
    split <;> simp <;> omega
theorem shr_pre (us ln : List Int) (c n : Int) (k : Nat) : ∀ d, ∃ r, shr us ln c n (k + d) = shr us ln c n k ++ r
  | 0 => ⟨[], by simp⟩
  | d + 1 => by
    obtain ⟨r, hr⟩ := shr_pre us ln c n k d
    rw [← Nat.add_assoc, shr, hr, List.append_assoc]
    exact ⟨_, rfl⟩
theorem rd_getD (l : List Int) (i : Nat) (h : i < l.length) : rd l (i : Int) = l.getD i 0 := by
  rw [rd_nat l i h, List.getD_eq_getElem?_getD, List.getElem?_eq_getElem h]; rfl
theorem gt_short (us ln : List Int) (c : Int) (n : Nat) (hn : n ≤ 400) (hlen : ln.length = us.length) (hl : us.length ≤ 400) (hb : ∀ k, k < us.length → 0 ≤ us.getD k 0 ∧ 0 ≤ ln.getD k 0 ∧ us.getD k 0 + ln.getD k 0 ≤ n) : ∀ (d i k : Nat), i + d = us.length → 2 * d < k →
    laws_FnGated.l1 k n c (shr us ln c n us.length) us ln (shr us ln c n i).length i = some true
  | 0, i, k, hi, hk => by
    cases k with
    | zero => omega
    | succ k =>
      obtain rfl : i = us.length := by omega
      rw [laws_FnGated.l1, if_neg (by omega)]; simp
  | d + 1, i, k, hi, hk => by
    obtain ⟨k, rfl⟩ : ∃ q, k = q + 2 := ⟨k - 2, by omega⟩
    have ih := gt_short us ln c n hn hlen hl hb d (i + 1) k (by omega) (by omega)
    obtain ⟨b1, b2, b3⟩ := hb i (by omega)
    have hsl := shr_len us ln c n i
    rw [shr, Int.natCast_add, Int.natCast_one] at ih
    have wi : wrap64 ((i : Int) + 1) = (i : Int) + 1 := w64 (by omega) (by omega)
    rw [laws_FnGated.l1, if_pos (by omega), if_pos (by omega), if_pos (by omega), rd_getD ln i (by omega), rd_getD us i (by omega), w64 (n := us.getD i 0 + ln.getD i 0) (by omega) (by omega)]
    have skip : ¬ (ln.getD i 0 < c ∧ us.getD i 0 + ln.getD i 0 < n) → laws_FnGated.j5 (k + 1) n c (shr us ln c n us.length) us ln (shr us ln c n i).length i true = some true := by
      intro hno
      rw [if_neg hno, List.append_nil] at ih
      rw [laws_FnGated.j5, if_pos rfl, wi]; exact ih
    by_cases h1 : ln.getD i 0 ≥ c
    · rw [if_pos h1]
      exact skip (fun h => by omega)
    · rw [if_neg h1]
      by_cases h2 : us.getD i 0 + ln.getD i 0 = (n : Int)
      · rw [beq_iff_eq.mpr h2]
        exact skip (fun h => by omega)
      · have hyes : ln.getD i 0 < c ∧ us.getD i 0 + ln.getD i 0 < n := by omega
        rw [beq_eq_false_iff_ne.mpr h2, laws_FnGated.j5, if_neg (by decide)]
        rw [if_pos hyes, List.length_append] at ih
        obtain ⟨r, hr⟩ := shr_pre us ln c n (i + 1) (us.length - (i + 1))
        rw [show i + 1 + (us.length - (i + 1)) = us.length by omega, shr, if_pos hyes] at hr
        have hlt : (shr us ln c n i).length < (shr us ln c n us.length).length := by rw [hr]; simp
        have hrd : rd (shr us ln c n us.length) ((shr us ln c n i).length : Int) = us.getD i 0 := by
          rw [rd_getD _ _ hlt, hr]; simp
        rw [if_neg (by omega), if_pos (by omega), if_pos (by omega), if_pos (by omega), if_pos (by omega), rd_getD us i (by omega), if_pos hrd, wi, w64 (by omega) (by omega)]
        exact ih
theorem short_get (us ds : List Int) (hl : ds.length = us.length) (i : Nat) (hi : i < us.length) : rd_T61 (pz us ds) (i : Int) = ⟨us.getD i 0, (dif us ds).getD i 0⟩ := by
  have hz : i < (pz us ds).length := by unfold pz; rw [List.length_zipWith]; omega
  have e : rd_T61 (pz us ds) (i : Int) = (pz us ds)[i] := by unfold rd_T61; simp [hz]
  have hd : i < (dif us ds).length := by unfold dif; rw [List.length_zipWith]; omega
  rw [e, List.getD_eq_getElem?_getD, List.getElem?_eq_getElem hi, List.getD_eq_getElem?_getD, List.getElem?_eq_getElem hd]
  simp [pz, dif]
theorem short_loop1 (s : ByteArray) (hs : s.size ≤ 400) (us ds : List Int) (c : Int) (hl : ds.length = us.length) (hu : us.length ≤ 400) (hb : ∀ k, k < us.length → 0 ≤ us.getD k 0 ∧ 0 ≤ (dif us ds).getD k 0 ∧ us.getD k 0 + (dif us ds).getD k 0 ≤ s.size) : ∀ (d i k : Nat), i + d = us.length → d < k →
    impl_ShortPulses.l0 k s c (shr us (dif us ds) c s.size i) (pz us ds) us.length i = some (shr us (dif us ds) c s.size us.length, true)
  | 0, i, k, hi, hk => by
    cases k with
    | zero => omega
    | succ k =>
      obtain rfl : i = us.length := by omega
      rw [impl_ShortPulses.l0, if_neg (by omega)]
  | d + 1, i, k, hi, hk => by
    cases k with
    | zero => omega
    | succ k =>
      have ih := short_loop1 s hs us ds c hl hu hb d (i + 1) k (by omega) (by omega)
      obtain ⟨b1, b2, b3⟩ := hb i (by omega)
      have hsl := shr_len us (dif us ds) c s.size i
      have hz : (pz us ds).length = us.length := by unfold pz; rw [List.length_zipWith]; omega
      rw [shr, Int.natCast_add, Int.natCast_one] at ih
      rw [impl_ShortPulses.l0, if_pos (by omega), if_pos (by omega), if_pos (by omega), short_get us ds hl i (by omega)]
      simp only
      rw [w64 (n := us.getD i 0 + (dif us ds).getD i 0) (by omega) (by omega), w64 (n := (i : Int) + 1) (by omega) (by omega)]
      by_cases h1 : (dif us ds).getD i 0 < c
      · rw [if_pos h1]
        by_cases h2 : us.getD i 0 + (dif us ds).getD i 0 < (s.size : Int)
        · rw [if_pos ⟨h1, h2⟩] at ih
          rw [if_pos h2, if_pos (by omega)]; exact ih
        · rw [if_neg (fun h => h2 h.2), List.append_nil] at ih
          rw [if_neg h2]; exact ih
      · rw [if_neg (fun h => h1 h.1), List.append_nil] at ih
        rw [if_neg h1]; exact ih
theorem runs_bnd (s : ByteArray) : ∀ (us ds : List Int), Runs s us ds → ∀ k, k < us.length → 0 ≤ us.getD k 0 ∧ 0 ≤ (dif us ds).getD k 0 ∧ us.getD k 0 + (dif us ds).getD k 0 ≤ s.size
  | [], [], _, k, hk => by simp at hk
  | u :: us, d :: ds, hr, k, hk => by
    obtain ⟨⟨a, b, rfl, rfl, h1, h2, _⟩, hr2⟩ := hr
    rw [show dif ((a : Int) :: us) ((b : Int) :: ds) = ((b : Int) - a) :: dif us ds from rfl]
    cases k with
    | zero => simp only [List.getD_cons_zero]; omega
    | succ k =>
      rw [List.getD_cons_succ, List.getD_cons_succ]
      exact runs_bnd s us ds hr2 k (by simpa using hk)
  | [], _ :: _, hr, _, _ => hr.elim
  | _ :: _, [], hr, _, _ => hr.elim
theorem short_eq (s : ByteArray) (hs : s.size ≤ 400) (hL : Lev s) (c : Int) (hc : 1 ≤ c ∧ c ≤ 400) (k : Nat) (hk : 300002 < k) : impl_ShortPulses.f k s c = some (shr (edg s 49 s.size) (dif (edg s 49 s.size) (dns s)) c s.size (edg s 49 s.size).length, true) := by
  unfold impl_ShortPulses.f
  have hw : isW s = true := (isW_iff s).2 ⟨hs, hL⟩
  rw [wave_eq s (by omega), Option.bind_some, hw, if_pos rfl, within_eq, Option.bind_some, decide_eq_true hc]
  have hr := runs_all s hL
  have hel := edg_len s 49 s.size
  cases k with
  | zero => omega
  | succ k =>
    rw [impl_ShortPulses.j0, if_neg (by decide), pulses_eq k s hs hL (by omega), Option.bind_some]
    have hz : (pz (edg s 49 s.size) (dns s)).length = (edg s 49 s.size).length := by unfold pz; rw [List.length_zipWith]; have := hr.len; omega
    rw [hz]
    exact short_loop1 s hs _ _ c hr.len.symm (by omega) (runs_bnd s _ _ hr) (edg s 49 s.size).length 0 k (Nat.zero_add _) (by omega)
theorem FnGated_pure : laws_FnGated.Pure := by
  intro l0 l1 _ _ hw0 _ _ hw1
  have b0 := byt_wf hw0
  have b1 := byt_wf hw1
  obtain ⟨k, hkl⟩ : ∃ k : Nat, 400000 < k := ⟨400001, by omega⟩
  refine ⟨k, ?_⟩
  unfold laws_FnGated.f laws_b10Long.f
  by_cases hl0 : (l0.length : Int) > 1048576
  · rw [if_pos hl0, Option.bind_some, if_pos rfl]
  · rw [if_neg hl0, Option.bind_some]
    by_cases hl1 : (l1.length : Int) > 1048576
    · rw [if_pos (decide_eq_true hl1)]
    · rw [if_neg (by rw [decide_eq_false hl1]; decide)]
      obtain ⟨w, ew, zw, lw⟩ := wave_ok k l0 b0 (by omega)
      rw [ew, Option.bind_some]
      obtain ⟨n, hn⟩ : ∃ n, n = w.size := ⟨_, rfl⟩
      obtain ⟨z, ez, zz, lz⟩ := levels_ok k l1 b1 w.size (by omega) (by omega)
      rw [ez, Option.bind_some]
      have ww : isW w = true := (isW_iff w).2 ⟨by omega, lw⟩
      have wz : isW z = true := (isW_iff z).2 ⟨by omega, lz⟩
      have e2 : impl_areWaves.f [w, z] = some true := are2_true w z ww wz zz
      obtain ⟨st, hst, s0, s1⟩ := at_ok l1 b1 0 4 (by omega) (by omega) (by omega)
      obtain ⟨le, hle, f0, f1⟩ := at_ok l1 b1 1 6 (by omega) (by omega) (by omega)
      rw [show ((0 : Nat) : Int) = 0 from rfl, show ((4 : Nat) : Int) = 4 from rfl] at hst
      rw [show ((1 : Nat) : Int) = 1 from rfl, show ((6 : Nat) : Int) = 6 from rfl] at hle
      have eG : impl_GateWave.f w z = some (strOfNums (lvs (fun i => glv w z i) w.size), true) := by
        unfold impl_GateWave.f
        rw [e2, Option.bind_some, if_pos rfl]
      have eP : impl_PlainGate.f w z = some (strOfNums (lvs (fun i => jlv w z i) w.size), true) := by
        unfold impl_PlainGate.f impl_JoinWaves.f
        rw [if_pos ⟨rfl, by rw [wave_eq w (by omega), ww], by rw [wave_eq z (by omega), wz], zz.symm, by omega⟩]; rfl
      have eR : impl_ResetWave.f w z (1 + st) = some (strOfNums (lvs (fun i => decide (rst w z (i + 1) < 1 + st)) w.size), true) := by
        unfold impl_ResetWave.f
        rw [e2, Option.bind_some, if_pos rfl, within_eq, decide_eq_true (show 1 ≤ 1 + st ∧ 1 + st ≤ 4 by omega), Option.bind_some, if_pos rfl]
      have eS := short_eq w (by omega) lw (1 + le) (by omega) k (by omega)
      have eU : impl_UpsOf.f k w = some (edg w 49 w.size, true) := by
        unfold impl_UpsOf.f
        rw [wave_eq w (by omega), Option.bind_some, ww, if_pos rfl, changes_eq k w 49 (by omega) (by omega), Option.bind_some]
      have eL : impl_PulsesOf.f w = some (dif (edg w 49 w.size) (dns w), true) := by
        unfold impl_PulsesOf.f impl_lengthsOf.f
        rw [wave_eq w (by omega), Option.bind_some, ww, if_pos rfl, if_pos ⟨by omega, rfl⟩, Option.bind_some]
        show some (lenN (cuts 48 w) (cuts 48 w).length, true) = _
        rw [lens_pulses w lw]
      have hr := runs_all w lw
      have hel := edg_len w 49 w.size
      have hdl : (dif (edg w 49 w.size) (dns w)).length = (edg w 49 w.size).length := by unfold dif; rw [List.length_zipWith]; have := hr.len; omega
      rw [eG, Option.bind_some, eP, Option.bind_some, hst, Option.bind_some, w64 (n := 1 + st) (by omega) (by omega), eR, Option.bind_some, hle, Option.bind_some, w64 (n := 1 + le) (by omega) (by omega), eS, Option.bind_some, eU, Option.bind_some, eL, Option.bind_some]
      have bG : ∀ i : Nat, i < w.size → bt (strOfNums (lvs (fun i => glv w z i) w.size)) (i : Int) = if glv w z i = true then 49 else 48 := fun i hi => lvs_bt' _ _ i hi
      have lG := lvs_lev' (fun i => glv w z i) w.size
      have zG := lvs_size (fun i => glv w z i) w.size
      generalize strOfNums (lvs (fun i => glv w z i) w.size) = g at bG lG zG ⊢
      have bP : ∀ i : Nat, i < w.size → (bt (strOfNums (lvs (fun i => jlv w z i) w.size)) (i : Int) == 49) = jlv w z i := fun i hi => lvs_at _ _ i hi
      have zP := lvs_size (fun i => jlv w z i) w.size
      generalize strOfNums (lvs (fun i => jlv w z i) w.size) = pl at bP zP ⊢
      have bR : ∀ i : Nat, i < w.size → (bt (strOfNums (lvs (fun i => decide (rst w z (i + 1) < 1 + st)) w.size)) (i : Int) == 49) = decide (rst w z (i + 1) < 1 + st) := fun i hi => lvs_at _ _ i hi
      have zR := lvs_size (fun i => decide (rst w z (i + 1) < 1 + st)) w.size
      generalize strOfNums (lvs (fun i => decide (rst w z (i + 1) < 1 + st)) w.size) = rs at bR zR ⊢
      have eC : impl_IsClean.f g w w = some true := by
        unfold impl_IsClean.f
        rw [are3_eq g w w (by omega) (by omega) (by omega), (isW_iff g).2 ⟨by omega, lG⟩, ww, decide_eq_true (show g.size = w.size by omega), decide_eq_true (show w.size = w.size from rfl), Option.bind_some]
        rw [if_pos (by rfl), clean_of g w w lG lw lw (by omega) (by omega) (fun i hi hE => .inl (gate_goes w z g lw (by omega) (fun j hj => by rw [bG j (by omega)]; cases glv w z j <;> simp) i hi hE))]
      simp only [if_true]
      rw [eC, Option.bind_some, if_pos rfl, if_pos (by omega), if_pos (by omega)]
      cases k with
      | zero => omega
      | succ k =>
        rw [laws_FnGated.j0, if_neg (by rw [hdl]; simp)]
        have hend : ∀ q, 1000 ≤ q → laws_FnGated.l1 q w.size (1 + le) (shr (edg w 49 w.size) (dif (edg w 49 w.size) (dns w)) (1 + le) w.size (edg w 49 w.size).length) (edg w 49 w.size) (dif (edg w 49 w.size) (dns w)) 0 0 = some true := fun q hq =>
          gt_short (edg w 49 w.size) (dif (edg w 49 w.size) (dns w)) (1 + le) w.size (by omega) hdl (by omega) (runs_bnd w _ _ hr) (edg w 49 w.size).length 0 q (Nat.zero_add _) (by omega)
        exact gt_loop lw rfl zz zP zR (by omega) (by omega) (by omega) (fun i hi => bP i hi) (fun i hi => bR i hi) 1000 (by omega) hend w.size 0 k (Nat.zero_add _) (by omega)
end Go.Proofs.YthkpnbelbaljdaaDoor.X
end
