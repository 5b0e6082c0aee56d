/- My own texts of this seat, merged: CShots. Conditions: as each lemma says. -/
import Derived.Test.YtcpfkfaiakpfjaaDoorG6
import Derived.Test.YtcpfkfaiakpfjaaDoorG7
import Derived.Test.YtcpfkfaiakpfjaaDoorG8
/- What FnShots says of shots and timeouts: the plain law. Conditions: as each lemma says. -/
namespace Go.Proofs.YtcpfkfaiakpfjaaDoor.X
open Go.RowKit Go.Proofs.YtcpfkfaiakpfjaaDoorW.PrintWords Go.Proofs.YtcpfkfaiakpfjaaDoorW.PrintLast Go.Proofs.YtcpfkfaiakpfjaaDoorW.PrintMore
set_option linter.unusedVariables false
set_option linter.unusedSimpArgs false

theorem bt_str (xs : List Int) (i : Nat) (hi : i < xs.length) (h0 : 0 ≤ xs[i]) (h1 : xs[i] < 256) : bt (strOfNums xs) (i : Int) = xs[i] := by
  have hs : i < (strOfNums xs).size := by rw [strOfNums_size]; exact hi
  rw [bt_get _ i hs]
  have : (strOfNums xs).data[i] = (strOfNums xs).data.toList[i]'(by simpa using hs) := by simp
  rw [this]
  have e : (strOfNums xs).data.toList = xs.map fun n => UInt8.ofNat n.toNat := strOfNums_data xs
  simp only [e, List.getElem_map]
  rw [UInt8.toNat_ofNat']
  omega
theorem lev_str (xs : List Int) (h : ∀ x ∈ xs, x = 48 ∨ x = 49) : Lev (strOfNums xs) := by
  intro i hi
  rw [strOfNums_size] at hi
  have := h _ (List.getElem_mem hi)
  rw [bt_str xs i hi (by omega) (by omega)]
  exact this
theorem lvs_at (lv : Nat → Bool) (n i : Nat) (hi : i < n) : (bt (strOfNums (lvs lv n)) (i : Int) == 49) = lv i := by
  have hl : i < (lvs lv n).length := by rw [lvs_len]; exact hi
  have e : (lvs lv n)[i] = if lv i = true then 49 else 48 := by simp [lvs]
  rw [bt_str _ i hl (by rw [e]; split <;> omega) (by rw [e]; split <;> omega), e]
  cases lv i <;> rfl
theorem good_loop (l : List Int) (hb : Byt l) (c : Int) (hc : c ≤ 100) : ∀ (n k i : Nat) (o : List Int) (v h : Int), i + 10 * n ≤ 800000 → o.length + n ≤ 1000 → (∀ x ∈ o, x = 48 ∨ x = 49) → (v = 48 ∨ v = 49) → n < k →
    ∃ (o' : List Int) (i' h' : Int), spec_l01DrawGood.l0 k o v c n l i h = some (strOfNums o', i', h') ∧ o'.length = o.length + n ∧ ∀ x ∈ o', x = 48 ∨ x = 49
  | 0, k, i, o, v, h, hi, ho, hx, hv, hk => by
    cases k with
    | zero => omega
    | succ k => rw [spec_l01DrawGood.l0, if_neg (by omega)]; exact ⟨o, _, _, rfl, by omega, hx⟩
  | n + 1, k, i, o, v, h, hi, ho, hx, hv, hk => by
    cases k with
    | zero => omega
    | succ k =>
      obtain ⟨b, j, h1, e1, hj1, hj2⟩ := one_ok l hb i (by omega) h c (by omega)
      rw [spec_l01DrawGood.l0, if_pos (by omega), e1, Option.bind_some, w64 (n := ((n + 1 : Nat) : Int) - 1) (by omega) (by omega), show ((n + 1 : Nat) : Int) - 1 = (n : Int) by omega]
      simp only
      have ap : ∀ u : Int, (u = 48 ∨ u = 49) → ∀ x ∈ o ++ [u], x = 48 ∨ x = 49 := by
        intro u hu x hx2
        rcases List.mem_append.1 hx2 with h2 | h2
        · exact hx x h2
        · rw [List.mem_singleton.1 h2]; exact hu
      cases b
      · rw [if_neg (by decide), if_pos (by omega)]
        obtain ⟨o', i', h', e, hl, hm⟩ := good_loop l hb c hc n k j (o ++ [v]) v h1 (by omega) (by simp; omega) (ap v hv) hv (by omega)
        exact ⟨o', i', h', e, by rw [hl]; simp; omega, hm⟩
      · obtain ⟨p, j2, h2, e2, hj3, hj4, hp0, hp⟩ := pick_ok l hb j (by omega) h1 2 (by omega)
        rw [if_pos rfl, e2, Option.bind_some, if_pos (by omega)]
        simp only
        rw [w64 (n := 48 + p) (by omega) (by omega)]
        have hu : (48 + p) % 256 = 48 ∨ (48 + p) % 256 = 49 := by omega
        obtain ⟨o', i', h', e, hl, hm⟩ := good_loop l hb c hc n k j2 (o ++ [(48 + p) % 256]) ((48 + p) % 256) h2 (by omega) (by simp; omega) (ap _ hu) hu (by omega)
        exact ⟨o', i', h', e, by rw [hl]; simp; omega, hm⟩
theorem b10Wave_ok (l : List Int) (hb : Byt l) (k : Nat) (hk : 100 < k) : ∃ s : ByteArray, spec_B10Wave.f k l = some s ∧ s.size ≤ 40 ∧ Lev s := by
  unfold spec_B10Wave.f spec_l00From.f spec_l01DrawGood.f
  rw [Option.bind_some]
  simp only
  obtain ⟨p, j, h1, e1, _, hj1, hp0, hp⟩ := pick_ok l hb 0 (by omega) 0 2 (by omega)
  rw [Int.natCast_zero] at e1
  rw [e1, Option.bind_some]
  simp only
  obtain ⟨q, j2, h2, e2, _, hj2, hq0, hq⟩ := pick_ok l hb j (by omega) h1 5 (by omega)
  rw [e2, Option.bind_some]
  simp only
  rw [w64 (n := 40 + 1) (by omega) (by omega)]
  obtain ⟨r, j3, h3, e3, _, hj3, hr0, hr⟩ := pick_ok l hb j2 (by omega) h2 (40 + 1) (by omega)
  rw [e3, Option.bind_some]
  simp only
  rw [w64 (n := 48 + p) (by omega) (by omega), w64 (n := 1 + q) (by omega) (by omega)]
  obtain ⟨n, rfl⟩ : ∃ n : Nat, r = n := ⟨r.toNat, by omega⟩
  obtain ⟨o', i', h', e, hl, hm⟩ := good_loop l hb (1 + q) (by omega) n k j3 [] ((48 + p) % 256) h3 (by omega) (by simp; omega) (by simp) (by omega) (by omega)
  rw [e, Option.bind_some]
  exact ⟨_, rfl, by rw [strOfNums_size, hl]; simp; omega, lev_str o' hm⟩
theorem b10At_ok (l : List Int) (hb : Byt l) : ∃ v : Int, laws_b10At.f l 0 6 = some v ∧ 0 ≤ v ∧ v ≤ 5 := by
  unfold laws_b10At.f
  rw [if_neg (by omega)]
  by_cases h : (0 : Int) < l.length
  · have hl : 0 < l.length := by omega
    have hm := hb _ (List.getElem_mem hl)
    have hr := rd_nat l 0 hl
    rw [Int.natCast_zero] at hr
    rw [if_pos h, if_pos (by omega), if_neg (by omega), hr, w64 (by omega) (by omega), tmodp (by omega)]
    exact ⟨_, rfl, by omega, by omega⟩
  · rw [if_neg h, if_neg (by omega)]
    exact ⟨_, rfl, by decide +kernel, by decide +kernel⟩

/-! ## Timeouts, told -/
/-- How many ticks have gone since the wave went up, ahead of a tick. -/
def sinc (s : ByteArray) : Nat → Int
  | 0 => 0
  | i + 1 => if isE s 49 i = true then 0 else sinc s i + 1
theorem sinc_rng (s : ByteArray) : ∀ i : Nat, 0 ≤ sinc s i ∧ sinc s i ≤ i
  | 0 => by simp [sinc]
  | i + 1 => by have := sinc_rng s i; unfold sinc; split <;> omega
/-- The timeouts before a tick. -/
def tl (s : ByteArray) (a : Int) : Nat → List Int
  | 0 => []
  | n + 1 => if sinc s (n + 1) = a then tl s a n ++ [(n : Int)] else tl s a n
theorem tl_succ (s : ByteArray) (a : Int) (n : Nat) : tl s a (n + 1) = if sinc s (n + 1) = a then tl s a n ++ [(n : Int)] else tl s a n := rfl
theorem tl_len (s : ByteArray) (a : Int) : ∀ n : Nat, (tl s a n).length ≤ n
  | 0 => by simp [tl]
  | n + 1 => by have := tl_len s a n; unfold tl; split <;> simp <;> omega
theorem tl_pre (s : ByteArray) (a : Int) (i : Nat) : ∀ n : Nat, i ≤ n → ∃ m, tl s a n = tl s a i ++ m
  | 0, h => ⟨[], by rw [show i = 0 by omega]; simp⟩
  | n + 1, h => by
    rcases Nat.lt_or_ge i (n + 1) with h2 | h2
    · obtain ⟨m, hm⟩ := tl_pre s a i n (by omega)
      by_cases hq : sinc s (n + 1) = a
      · exact ⟨m ++ [(n : Int)], by rw [tl_succ s a n, if_pos hq, hm, List.append_assoc]⟩
      · exact ⟨m, by rw [tl_succ s a n, if_neg hq, hm]⟩
    · exact ⟨[], by rw [show i = n + 1 by omega]; simp⟩
theorem tl_loop (s : ByteArray) (a : Int) (hs : s.size ≤ 400) (h1 : 1 ≤ a) (h2 : a ≤ 50) : ∀ (d k i : Nat), i + d = s.size → 500 + d < k →
    impl_Timeouts.l0 k a (edg s 49 s.size) (tl s a i) (sinc s i) s.size i = some (tl s a s.size, true)
  | 0, k, i, hi, hk => by
    cases k with
    | zero => omega
    | succ k => rw [impl_Timeouts.l0, if_neg (by omega), show i = s.size by omega]
  | d + 1, k, i, hi, hk => by
    cases k with
    | zero => omega
    | succ k =>
      have ih := tl_loop s a hs h1 h2 d k (i + 1) (by omega) (by omega)
      have hl := edg_len' s 49
      have hr := sinc_rng s i
      have hn := tl_len s a i
      rw [tl_succ, Int.natCast_add, Int.natCast_one] at ih
      rw [impl_Timeouts.l0, if_pos (by omega), contains_eq k _ _ (by omega) (by omega), Option.bind_some, w64 (n := sinc s i + 1) (by omega) (by omega), w64 (n := (i : Int) + 1) (by omega) (by omega), if_neg (show ¬ (0 : Int) = a by omega), if_pos (show (tl s a i).length < 17592186044416 by omega)]
      cases he : isE s 49 i
      · have e1 : sinc s (i + 1) = sinc s i + 1 := by rw [sinc, he]; rfl
        rw [e1] at ih
        rw [decide_eq_false (by rw [edg_at s 49 s.size i (by omega), he]; decide), if_neg (by decide)]
        by_cases hq : sinc s i + 1 = a
        · rw [if_pos hq] at ih; rw [if_pos hq]; exact ih
        · rw [if_neg hq] at ih; rw [if_neg hq]; exact ih
      · have e1 : sinc s (i + 1) = 0 := by rw [sinc, he]; rfl
        rw [e1, if_neg (by omega)] at ih
        rw [decide_eq_true (by rw [edg_at s 49 s.size i (by omega), he]), if_pos rfl]
        exact ih
theorem timeouts_told (s : ByteArray) (a : Int) (hs : s.size ≤ 400) (hL : Lev s) (h1 : 1 ≤ a) (h2 : a ≤ 50) (k : Nat) (hk : 1000 < k) : impl_Timeouts.f k s a = some (tl s a s.size, true) := by
  unfold impl_Timeouts.f
  have hw : (isW s && decide (1 ≤ a ∧ a ≤ 50)) = true := by rw [Bool.and_eq_true, decide_eq_true_eq, isW_iff]; exact ⟨⟨hs, hL⟩, h1, h2⟩
  rw [isFilter_eq s a (by omega), hw, Option.bind_some, if_pos rfl, changes_eq k s 49 (by omega) (by omega), Option.bind_some]
  exact tl_loop s a hs h1 h2 s.size k 0 (by omega) (by omega)
theorem shot_told (s : ByteArray) (a c : Int) (hs : s.size ≤ 400) (hL : Lev s) (h1 : 1 ≤ a) (h2 : a ≤ 50) (hc : 0 ≤ c ∧ c ≤ 1) : impl_OneShot.f s a c = some (strOfNums (lvs (fun i => decide (shot1 s a c (shotL s a c i) i > 0)) s.size), true) := by
  unfold impl_OneShot.f
  have hw : (isW s && decide (1 ≤ a ∧ a ≤ 50)) = true := by rw [Bool.and_eq_true, decide_eq_true_eq, isW_iff]; exact ⟨⟨hs, hL⟩, h1, h2⟩
  rw [isFilter_eq s a (by omega), hw, Option.bind_some, if_pos rfl, within_eq, Option.bind_some, decide_eq_true hc, if_pos rfl]

/-! ## A shot with again -/
/-- Whether the wave went up at one of the last k ticks up to a tick. -/
def rcn (s : ByteArray) (i : Nat) : Nat → Bool
  | 0 => false
  | k + 1 => rcn s i k || (decide (k ≤ i) && isE s 49 (i - k))
theorem rcn_succ (s : ByteArray) (i : Nat) : ∀ k : Nat, rcn s (i + 1) (k + 1) = (isE s 49 (i + 1) || rcn s i k)
  | 0 => by simp [rcn]
  | k + 1 => by
    rw [rcn, rcn_succ s i k, rcn, show i + 1 - (k + 1) = i - k by omega, show decide (k + 1 ≤ i + 1) = decide (k ≤ i) by rw [decide_eq_decide]; omega, Bool.or_assoc]
theorem rcn_zero (s : ByteArray) : ∀ k : Nat, rcn s 0 (k + 1) = isE s 49 0
  | 0 => by simp [rcn]
  | k + 1 => by rw [rcn, rcn_zero s k]; simp
theorem rcn_stop (s : ByteArray) (i k : Nat) (h : i < k) : ∀ m : Nat, rcn s i (k + m) = rcn s i k
  | 0 => rfl
  | m + 1 => by
    rw [← Nat.add_assoc, rcn, rcn_stop s i k h m, decide_eq_false (show ¬ k + m ≤ i by omega)]
    simp
theorem shot_rcn (s : ByteArray) (t : Nat) (h1 : 1 ≤ t) (h2 : t ≤ 50) : ∀ i k : Nat, k ≤ t → ((t : Int) - k + 1 ≤ shot1 s t 1 (shotL s t 1 i) i ↔ rcn s i k = true) := by
  intro i
  induction i with
  | zero =>
    intro k hk
    cases k with
    | zero =>
      have : shot1 s t 1 (shotL s t 1 0) 0 ≤ t := by unfold shot1; split <;> simp [shotL] <;> omega
      rw [rcn]
      constructor
      · intro h; omega
      · intro h; cases h
    | succ k =>
      rw [rcn_zero]
      unfold shot1
      cases he : isE s 49 0
      · rw [if_neg (by simp)]
        constructor
        · intro h; simp [shotL] at h; omega
        · intro h; cases h
      · rw [if_pos ⟨rfl, .inl rfl⟩]
        exact ⟨fun _ => rfl, fun _ => by omega⟩
  | succ i ih =>
    intro k hk
    have hr := shotL_rng s t 1 (by omega) (by omega) i
    have hx : shot1 s t 1 (shotL s t 1 i) i ≤ t := by
      by_cases hp : (0 : Nat) ≤ t
      · have h3 := (ih 0 (by omega))
        rw [rcn] at h3
        have : ¬ ((t : Int) - (0 : Nat) + 1 ≤ shot1 s t 1 (shotL s t 1 i) i) := fun h => by cases h3.1 h
        omega
      · omega
    have hy : 0 ≤ shot1 s t 1 (shotL s t 1 i) i := by unfold shot1; split <;> omega
    cases k with
    | zero =>
      rw [rcn]
      constructor
      · intro h
        exfalso
        have : shot1 s t 1 (shotL s t 1 (i + 1)) (i + 1) ≤ t := by
          conv => lhs; unfold shot1
          split
          · omega
          · rw [shotL]; split <;> omega
        omega
      · intro h; cases h
    | succ k =>
      rw [rcn_succ]
      conv => lhs; rhs; unfold shot1
      cases he : isE s 49 (i + 1)
      · rw [if_neg (by simp), Bool.false_or, ← ih k (by omega), shotL]
        split <;> omega
      · rw [if_pos ⟨rfl, .inl rfl⟩, Bool.true_or]
        exact ⟨fun _ => rfl, fun _ => by omega⟩
theorem again_recent (s : ByteArray) (t : Nat) (h1 : 1 ≤ t) (h2 : t ≤ 50) (i : Nat) : decide (shot1 s t 1 (shotL s t 1 i) i > 0) = rcn s i t := by
  have := shot_rcn s t h1 h2 i t (Nat.le_refl _)
  rw [Bool.eq_iff_iff, decide_eq_true_eq, ← this]
  omega

/-! ## The law's loops -/
theorem isE_no (s : ByteArray) (i : Nat) (h : ¬ bt s (i : Int) = 49) : isE s 49 i = false := by unfold isE; rw [decide_eq_false h]; rfl
theorem isE_zero (s : ByteArray) (h : bt s 0 = 49) : isE s 49 0 = true := by unfold isE; rw [show ((0 : Nat) : Int) = 0 from rfl, h]; rfl
theorem isE_pos (s : ByteArray) (hL : Lev s) (i : Nat) (hi : i < s.size) (h0 : i ≠ 0) (h : bt s (i : Int) = 49) : isE s 49 i = (bt s ((i : Int) - 1) == 48) := by
  have hl := hL (i - 1) (by omega)
  rw [show ((i - 1 : Nat) : Int) = (i : Int) - 1 by omega] at hl
  have e : prv s i = bt s ((i : Int) - 1) := by unfold prv; rw [if_neg h0]; congr 1; omega
  unfold isE
  rw [decide_eq_true h, e]
  rcases hl with h2 | h2 <;> rw [h2] <;> rfl
section
variable (w : ByteArray) (t : Nat) (once again : ByteArray) (q : List Int)
theorem recent_loop (hw : w.size ≤ 400) (hL : Lev w) (ht : t ≤ 50) (x14 x15 x16 : Int) (i : Nat) (hi : i < w.size) (up : Bool) (K : Nat) (v : Option Bool)
    (hv : ∀ k, K < k → laws_FnShots.j4 k w w.size t once again q x14 x15 x16 i up (rcn w i t) = v) : ∀ (m kk k : Nat), kk + m = t → K + m + 1 < k →
    laws_FnShots.l1 k w w.size t once again q x14 x15 x16 i up (rcn w i kk) kk = v
  | 0, kk, k, hm, hk => by
    cases k with
    | zero => omega
    | succ k =>
      rw [laws_FnShots.l1, if_neg (by omega), show kk = t by omega]
      exact hv k (by omega)
  | m + 1, kk, k, hm, hk => by
    cases k with
    | zero => omega
    | succ k =>
      have ih := recent_loop hw hL ht x14 x15 x16 i hi up K v hv m (kk + 1) k (by omega) (by omega)
      rw [rcn, Int.natCast_add, Int.natCast_one] at ih
      rw [laws_FnShots.l1, if_pos (by omega), w64 (n := (kk : Int) + 1) (by omega) (by omega)]
      by_cases hki : kk ≤ i
      · rw [if_pos (by omega)]
        rw [decide_eq_true hki, Bool.true_and] at ih
        cases hr : rcn w i kk
        · rw [hr, Bool.false_or] at ih
          rw [if_neg (by decide), w64 (n := (i : Int) - kk) (by omega) (by omega), w64 (n := (i : Int) - kk - 1) (by omega) (by omega), if_pos (by omega), if_pos (by omega), show (i : Int) - kk = ((i - kk : Nat) : Int) by omega]
          by_cases hb : bt w ((i - kk : Nat) : Int) = 49
          · rw [if_pos hb]
            by_cases h0 : i - kk = 0
            · rw [if_pos (by omega)]
              rw [h0, isE_zero w (by rw [h0] at hb; exact hb)] at ih
              exact ih
            · rw [if_neg (by omega), if_pos (by omega), if_pos (by omega), ← isE_pos w hL (i - kk) (by omega) h0 hb]
              exact ih
          · rw [if_neg hb]
            rw [isE_no w _ hb] at ih
            exact ih
        · rw [hr, Bool.true_or] at ih
          rw [if_pos rfl]
          exact ih
      · rw [if_neg (by omega)]
        have : rcn w i kk = rcn w i t := by
          obtain ⟨m2, rfl⟩ : ∃ m2, t = kk + m2 := ⟨t - kk, by omega⟩
          rw [rcn_stop w i kk (by omega) m2]
        rw [this]
        exact hv k (by omega)
theorem shots_loop (hw : w.size ≤ 400) (hL : Lev w) (h1 : 1 ≤ t) (ht : t ≤ 50)
    (ho : once = strOfNums (lvs (fun i => decide (shot1 w t 0 (shotL w t 0 i) i > 0)) w.size)) (ha : again = strOfNums (lvs (fun i => decide (shot1 w t 1 (shotL w t 1 i) i > 0)) w.size)) (hq : q = tl w t w.size) : ∀ (d k i : Nat), i + d = w.size → 200 * d + 200 < k →
    laws_FnShots.l0 k w w.size t once again q (shotL w t 0 i) (sinc w i) (tl w t i).length i = some true
  | 0, k, i, hi, hk => by
    cases k with
    | zero => omega
    | succ k =>
      rw [laws_FnShots.l0, if_neg (by omega), hq, show i = w.size by omega]
      simp
  | d + 1, k, i, hi, hk => by
    obtain ⟨k, rfl⟩ : ∃ k', k = k' + 2 := ⟨k - 2, by omega⟩
    have hi2 : i < w.size := by omega
    have hr := shotL_rng w t 0 (by omega) (by omega) i
    have hs := sinc_rng w i
    have hsz1 : (once.size : Int) = w.size := by rw [ho, strOfNums_size, lvs_len]
    have hsz2 : (again.size : Int) = w.size := by rw [ha, strOfNums_size, lvs_len]
    have hup : laws_FnShots.l0 (k + 2) w w.size t once again q (shotL w t 0 i) (sinc w i) (tl w t i).length i = laws_FnShots.j2 (k + 1) w w.size t once again q (shotL w t 0 i) (sinc w i) (tl w t i).length i (isE w 49 i) := by
      rw [laws_FnShots.l0, if_pos (by omega), if_pos (by omega), if_pos (by omega), w64 (n := (i : Int) - 1) (by omega) (by omega)]
      by_cases hb : bt w i = 49
      · rw [if_pos hb]
        by_cases h0 : i = 0
        · subst h0
          rw [if_pos (by omega), isE_zero w hb]
        · rw [if_neg (by omega), if_pos (by omega), if_pos (by omega), isE_pos w hL i hi2 h0 hb]
      · rw [if_neg hb, isE_no w i hb]
    rw [hup, laws_FnShots.j2]
    have hrec := recent_loop w t once again q hw hL ht (shotL w t 0 i) (sinc w i) (tl w t i).length i hi2 (isE w 49 i) (200 * d + 300) (some true)
    refine hrec ?_ t 0 k (by omega) (by omega)
    intro k hk
    have ih := shots_loop hw hL h1 ht ho ha hq d
    obtain ⟨k, rfl⟩ : ∃ k', k = k' + 6 := ⟨k - 6, by omega⟩
    have ih := ih k (i + 1) (by omega) (by omega)
    have j6 : laws_FnShots.j4 (k + 6) w w.size t once again q (shotL w t 0 i) (sinc w i) (tl w t i).length i (isE w 49 i) (rcn w i t) = laws_FnShots.j6 (k + 4) w w.size t once again q (shot1 w t 0 (shotL w t 0 i) i) (sinc w i) (tl w t i).length i (isE w 49 i) (rcn w i t) := by
      rw [laws_FnShots.j4]
      unfold shot1
      cases he : isE w 49 i
      · rw [if_neg (by decide), laws_FnShots.j5, if_neg (by decide), if_neg (by simp)]
      · rw [if_pos rfl, laws_FnShots.j5]
        by_cases hz : shotL w t 0 i = 0
        · rw [if_pos (by rw [hz]; rfl), if_pos ⟨rfl, .inr hz⟩]
        · rw [if_neg (by rw [beq_eq_false_iff_ne.mpr hz]; decide), if_neg (by intro h; exact h.2.elim (by decide) hz)]
    have hs1 : 0 ≤ shot1 w t 0 (shotL w t 0 i) i ∧ shot1 w t 0 (shotL w t 0 i) i ≤ 50 := by unfold shot1; split <;> omega
    have eo : ((bt once i == 49) != decide (shot1 w t 0 (shotL w t 0 i) i > 0)) = false := by rw [ho, lvs_at _ _ _ hi2]; simp
    have ea : ((bt again i == 49) != rcn w i t) = false := by rw [ha, lvs_at _ _ _ hi2, again_recent w t h1 ht i]; simp
    rw [j6, laws_FnShots.j6, if_pos (by omega), if_pos (by omega), eo, if_neg (by decide), if_pos (by omega), ea, laws_FnShots.j7, if_neg (by decide)]
    have hL2 : shotL w t 0 (i + 1) = if shot1 w t 0 (shotL w t 0 i) i > 0 then shot1 w t 0 (shotL w t 0 i) i - 1 else shot1 w t 0 (shotL w t 0 i) i := by rw [shotL]; split <;> split <;> omega
    have j8 : (if shot1 w t 0 (shotL w t 0 i) i > 0 then laws_FnShots.j8 (k + 2) w w.size t once again q (wrap64 (shot1 w t 0 (shotL w t 0 i) i - 1)) (sinc w i) (tl w t i).length i (isE w 49 i) else laws_FnShots.j8 (k + 2) w w.size t once again q (shot1 w t 0 (shotL w t 0 i) i) (sinc w i) (tl w t i).length i (isE w 49 i)) = laws_FnShots.j8 (k + 2) w w.size t once again q (shotL w t 0 (i + 1)) (sinc w i) (tl w t i).length i (isE w 49 i) := by
      rw [hL2, w64 (by omega) (by omega)]
      split <;> rfl
    rw [j8, laws_FnShots.j8, w64 (n := sinc w i + 1) (by omega) (by omega)]
    have j9 : (if isE w 49 i = true then laws_FnShots.j9 (k + 1) w w.size t once again q (shotL w t 0 (i + 1)) 0 (tl w t i).length i else laws_FnShots.j9 (k + 1) w w.size t once again q (shotL w t 0 (i + 1)) (sinc w i + 1) (tl w t i).length i) = laws_FnShots.j9 (k + 1) w w.size t once again q (shotL w t 0 (i + 1)) (sinc w (i + 1)) (tl w t i).length i := by
      rw [sinc]
      split <;> rfl
    have hn := tl_len w t i
    rw [j9, laws_FnShots.j9, w64 (n := (i : Int) + 1) (by omega) (by omega), w64 (n := ((tl w t i).length : Int) + 1) (by omega) (by omega)]
    rw [tl_succ, Int.natCast_add, Int.natCast_one] at ih
    by_cases hc : sinc w (i + 1) = t
    · rw [if_pos hc] at ih
      obtain ⟨m, hm⟩ := tl_pre w t (i + 1) w.size (by omega)
      rw [tl_succ, if_pos hc, List.append_assoc] at hm
      have hql : (tl w t i).length < q.length := by rw [hq, hm]; simp
      have hqr : rd q ((tl w t i).length : Int) = i := by
        rw [rd_nat _ _ hql]
        simp only [hq, hm]
        simp
      rw [if_pos hc, if_neg (by omega), if_pos (by omega), if_pos (by omega), if_pos hqr]
      rw [List.length_append, List.length_singleton, Int.natCast_add, Int.natCast_one] at ih
      exact ih
    · rw [if_neg hc] at ih
      rw [if_neg hc]
      exact ih
end
theorem FnShots_pure : laws_FnShots.Pure := by
  intro l0 l1 _ _ hb0 _ _ hb1
  obtain ⟨w, hw, hz, hL⟩ := b10Wave_ok l0 (byt_wf hb0) (10000 + 1) (by omega)
  obtain ⟨v, hv, hv0, hv1⟩ := b10At_ok l1 (byt_wf hb1)
  refine ⟨10000 + 1, ?_⟩
  unfold laws_FnShots.f
  have hlong : ∃ b, laws_b10Long.f l0 l1 = some b := by unfold laws_b10Long.f; split <;> exact ⟨_, rfl⟩
  obtain ⟨b, hb⟩ := hlong
  rw [hb, Option.bind_some]
  cases b
  · obtain ⟨t, ht⟩ : ∃ t : Nat, 1 + v = t := ⟨(1 + v).toNat, by omega⟩
    rw [if_neg (by decide), hw, Option.bind_some, hv, Option.bind_some, w64 (n := 1 + v) (by omega) (by omega), ht, shot_told w t 0 (by omega) hL (by omega) (by omega) (by omega), shot_told w t 1 (by omega) hL (by omega) (by omega) (by omega), timeouts_told w t (by omega) hL (by omega) (by omega) _ (by omega), Option.bind_some, Option.bind_some, Option.bind_some]
    simp only
    rw [if_pos trivial, if_pos trivial, if_pos trivial, strOfNums_size, strOfNums_size, lvs_len, lvs_len, if_pos rfl, laws_FnShots.j0, if_neg (by simp)]
    have := shots_loop w t _ _ _ (by omega) hL (by omega) (by omega) rfl rfl rfl w.size 10000 0 (by omega) (by omega)
    exact this
  · rw [if_pos rfl]
end Go.Proofs.YtcpfkfaiakpfjaaDoor.X

