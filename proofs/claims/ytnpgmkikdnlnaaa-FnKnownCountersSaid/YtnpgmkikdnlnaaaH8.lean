/- My own texts of this seat, merged: CTapsA, CKnown. Conditions: as each lemma says. -/
import Derived.Test.YtnpgmkikdnlnaaaH6
import Derived.Test.YtnpgmkikdnlnaaaH7
/- Facts for the law FnTaps in plain numbers: a tap counter is linear, brings in the parity of its tapped bits and moves the others. Conditions: none. -/
namespace Go.Proofs.Ytnpgmkikdnlnaaa.X
open Go.RowKit Go.Proofs.YtnpgmkikdnlnaaaW.PrintWords Go.Proofs.YtnpgmkikdnlnaaaW.PrintLast Go.Proofs.YtnpgmkikdnlnaaaW.PrintMore
set_option linter.unusedVariables false
set_option linter.unusedSimpArgs false
theorem at_ok (l : List Int) (k n : Int) (hk : 0 ≤ k) (hn : 1 ≤ n) (hw : ∀ x ∈ l, (Lit.int .u8 x).wf = true) :
    ∃ v : Nat, laws_r8At.f l k n = some (v : Int) ∧ (v : Int) < n := by
  unfold laws_r8At.f
  by_cases h1 : n ≤ 1
  · exact ⟨0, by rw [if_pos h1]; rfl, by omega⟩
  · by_cases h2 : k ≥ (l.length : Int)
    · exact ⟨0, by rw [if_neg h1, if_pos h2]; rfl, by omega⟩
    · have hlt : k.toNat < l.length := by omega
      have hx := hw (l[k.toNat]) (List.getElem_mem hlt)
      have hr : rd l k = l[k.toNat] := by unfold rd; rw [List.getD_eq_getElem?_getD, List.getElem?_eq_getElem hlt]; rfl
      have hmin : IntKind.u8.min = 0 := rfl
      have hmax : IntKind.u8.max = 255 := rfl
      simp only [Lit.wf, Bool.and_eq_true, decide_eq_true_eq] at hx
      have h3 := Int.emod_nonneg l[k.toNat] (show n ≠ 0 by omega)
      obtain ⟨v, hv⟩ := Int.eq_ofNat_of_zero_le h3
      refine ⟨v, ?_, by rw [← hv]; exact Int.emod_lt_of_pos _ (by omega)⟩
      rw [if_neg h1, if_neg h2, if_pos hk, if_pos (by omega), if_neg (by omega), hr, w64 (by omega) (by omega), tmodp (by omega), hv]
/-- The parity of a state's bits. -/
def par (u : Nat) : Nat := (u + u / 2 + u / 4 + u / 8 + u / 16 + u / 32) % 2
theorem par_lt (u : Nat) : par u < 2 := Nat.mod_lt _ (by omega)
theorem ones_par : ∀ u < 64, ∃ o ∈ List.range 9, impl_onesOf.f ((u : Nat) : Int) = some (o : Int) ∧ o % 2 = par u := by decide +kernel
theorem par_xor : ∀ u < 64, ∀ v < 64, par (u ^^^ v) = par u ^^^ par v := by decide +kernel
theorem nxt_xor : ∀ b < 7, 1 ≤ b → ∀ x < 2 ^ b, ∀ y < 2 ^ b, ∀ ij ∈ [(0, 0), (0, 1), (1, 0), (1, 1)], nxt b (x ^^^ y) (ij.1 ^^^ ij.2) = nxt b x ij.1 ^^^ nxt b y ij.2 := by decide +kernel
theorem nxt_facts : ∀ b < 7, 1 ≤ b → ∀ x < 2 ^ b, ∀ i < 2, nxt b x i < 2 ^ b ∧ Go.bits .and .i64 ((nxt b x i : Nat) : Int) 1 = (i : Int) ∧ ((nxt b x i : Nat) : Int) / 2 = Go.bits .and .i64 ((x : Nat) : Int) (wrap64 ((wrap64 (Int.tdiv ((2 ^ b : Nat) : Int) 2)) - 1)) := by decide +kernel
theorem xor_small : ∀ x < 64, ∀ y < 64, Go.bits .xor .i64 ((x : Nat) : Int) ((y : Nat) : Int) = ((x ^^^ y : Nat) : Int) := by decide +kernel
def pl (x t : Int) : Nat → Int
  | 0 => 0
  | i + 1 => Go.bits .xor .i64 (pl x t i) (Go.bits .and .i64 (Go.bits .and .i64 (shr .i64 x (IntKind.u64.wrap (i : Int))) 1) (Go.bits .and .i64 (shr .i64 t (IntKind.u64.wrap (i : Int))) 1))
theorem pl_par : ∀ b < 7, 1 ≤ b → ∀ x < 2 ^ b, ∀ t < 2 ^ b, pl ((x : Nat) : Int) ((t : Nat) : Int) b = ((par (x &&& t) : Nat) : Int) := by decide +kernel
theorem bits_facts : ∀ b < 7, 1 ≤ b → 0 ≤ IntKind.u64.wrap ((b : Nat) : Int) ∧ shl .i64 1 (IntKind.u64.wrap ((b : Nat) : Int)) = ((2 ^ b : Nat) : Int) ∧ shl .i64 1 ((b : Nat) : Int) = ((2 ^ b : Nat) : Int) ∧ wrap64 (((2 ^ b : Nat) : Int) - 1) = ((2 ^ b : Nat) : Int) - 1 ∧ wrap64 (2 ^ b) = ((2 ^ b : Nat) : Int) ∧ 2 ≤ 2 ^ b ∧ 2 ^ b ≤ 64 := by decide +kernel
theorem xor_lt (b x y : Nat) (hx : x < 2 ^ b) (hy : y < 2 ^ b) : x ^^^ y < 2 ^ b := Nat.xor_lt_two_pow hx hy
theorem rd_lst (b : Nat) (inn : Nat → Nat) (n x : Nat) (hx : x < n) : rd (lst b inn n) (x : Int) = ((nxt b x (inn x) : Nat) : Int) := by
  rw [rd_nat _ _ (by rw [lst_len]; exact hx)]
  simp [lst]
theorem tap_eq (b t : Nat) (hb : b < 7) (hb1 : 1 ≤ b) (ht : t < 2 ^ b) (ht0 : 0 < t) (k : Nat) (hk : 256 < k) : impl_TapCounter.f k b t = some ((b : Int), lst b (fun x => par (x &&& t)) (2 ^ b), true) := by
  obtain ⟨f1, f2, f3, f4, f5, f6, f7⟩ := bits_facts b hb hb1
  unfold impl_TapCounter.f impl_isStateOf.f
  simp only [bits_eq, within_eq, Option.bind_some, f3, f4]
  have hc : ∀ x, x < 2 ^ b → (tapC (b : Int) (t : Int)).f ((x : Nat) : Int) = some ((nxt b x (par (x &&& t)) : Nat) : Int) := by
    intro x hx
    show (impl_onesOf.f (Go.bits .and .i64 (x : Int) (t : Int))).bind (fun o => impl_moved.f b x (o.tmod 2)) = _
    obtain ⟨e, hlt⟩ := and_small x t (by omega) (by omega)
    have hlt2 : x &&& t ≤ x := Nat.and_le_left
    obtain ⟨o, _, h1, h2⟩ := ones_par (x &&& t) (by omega)
    rw [e, h1, Option.bind_some, tmodp (by omega), ← h2]
    have := moved_eq b x (o % 2) (by omega) (by omega) hx (by omega)
    simpa using this
  have h1 : (1 : Int) ≤ b ∧ (b : Int) ≤ 8 := by omega
  have h2 : (0 : Int) ≤ t ∧ (t : Int) ≤ ((2 ^ b : Nat) : Int) - 1 := by omega
  have hz2 : ¬ ((t : Int) = 0) := by omega
  have h00 : (0 : Int) ≤ b := by omega
  simp only [h1, h00, h2, decide_true, and_self, if_true, Option.bind_some, hz2, if_false]
  exact @by_eq (tapC b t) b (by omega) (by omega) (fun x => par (x &&& t)) k hk hc
theorem tap_zero (b : Nat) (hb : b < 7) (hb1 : 1 ≤ b) (k : Nat) : impl_TapCounter.f k b 0 = some (0, [], false) := by
  obtain ⟨f1, f2, f3, f4, f5, f6, f7⟩ := bits_facts b hb hb1
  unfold impl_TapCounter.f impl_isStateOf.f
  simp only [bits_eq, within_eq, Option.bind_some, f3, f4]
  have h1 : (1 : Int) ≤ b ∧ (b : Int) ≤ 8 := by omega
  have h2 : (0 : Int) ≤ 0 ∧ (0 : Int) ≤ ((2 ^ b : Nat) : Int) - 1 := by omega
  have h00 : (0 : Int) ≤ b := by omega
  simp only [h1, h00, h2, decide_true, and_self, if_true, Option.bind_some]
/-- No state of the list is out of its bounds. -/
theorem idx_none [C_slices_IndexFunc_int64_int64] (l : List Int) (hl : l.length ≤ 256) (hall : ∀ i : Nat, i < l.length → C_slices_IndexFunc_int64_int64.f (rd l i) = some false) : ∀ (d i k : Nat), i + d = l.length → d < k →
    slices_IndexFunc_int64_int64.l0 k l (l.length : Int) (i : Int) = some (-1)
  | 0, i, k, hi, hk => by
    cases k with
    | zero => omega
    | succ k => rw [slices_IndexFunc_int64_int64.l0, if_neg (by omega)]
  | d + 1, i, k, hi, hk => by
    cases k with
    | zero => omega
    | succ k =>
      have ih := idx_none l hl hall d (i + 1) k (by omega) (by omega)
      rw [slices_IndexFunc_int64_int64.l0, if_pos (by omega), if_pos (by omega), if_pos (by omega), hall i (by omega), Option.bind_some, if_neg (by decide), w64 (by omega) (by omega)]
      rw [Int.natCast_add, Int.natCast_one] at ih
      exact ih
theorem validC_no (b : Nat) (hb : b < 7) (hb1 : 1 ≤ b) (v : Int) (h0 : 0 ≤ v) (h1 : v < ((2 ^ b : Nat) : Int)) : (validC (b : Int)).f v = some false := by
  obtain ⟨f1, f2, f3, f4, f5, f6, f7⟩ := bits_facts b hb hb1
  show (impl_isStateOf.f (b : Int) v).bind (fun b => some (!b)) = some false
  unfold impl_isStateOf.f
  simp only [bits_eq, within_eq, Option.bind_some, f3, f4]
  have h1 : (1 : Int) ≤ b ∧ (b : Int) ≤ 8 := by omega
  have h2 : (0 : Int) ≤ v ∧ v ≤ ((2 ^ b : Nat) : Int) - 1 := by omega
  have h00 : (0 : Int) ≤ b := by omega
  simp only [h1, h00, h2, decide_true, and_self, if_true, Option.bind_some, Bool.not_true]
theorem valid_yes (b : Nat) (hb : b < 7) (hb1 : 1 ≤ b) (l : List Int) (hl : l.length = 2 ^ b) (hall : ∀ i : Nat, i < l.length → 0 ≤ rd l i ∧ rd l i < ((2 ^ b : Nat) : Int)) (k : Nat) (hk : 256 < k) : impl_ValidCounter.f k b l = some true := by
  obtain ⟨f1, f2, f3, f4, f5, f6, f7⟩ := bits_facts b hb hb1
  have h1 : (1 : Int) ≤ b ∧ (b : Int) ≤ 8 := by omega
  have h2 : ((l.length : Int) == ((2 ^ b : Nat) : Int)) = true := by rw [hl]; exact beq_self_eq_true _
  have hx : @slices_IndexFunc_int64_int64.f (validC (b : Int)) k l 0 = some (-1) := by
    have := @idx_none (validC (b : Int)) l (by omega) (fun i hi => validC_no b hb hb1 _ (hall i hi).1 (hall i hi).2) l.length 0 k (by omega) (by omega)
    unfold slices_IndexFunc_int64_int64.f
    exact this
  unfold impl_ValidCounter.f
  rw [bits_eq, Option.bind_some, decide_eq_true h1, if_pos rfl, if_pos h1, Int.toNat_natCast, f5, if_pos h2, hx, Option.bind_some]
  simp
theorem pl_succ (x t : Int) (i : Nat) : pl x t (i + 1) = Go.bits .xor .i64 (pl x t i) (Go.bits .and .i64 (Go.bits .and .i64 (shr .i64 x (IntKind.u64.wrap (i : Int))) 1) (Go.bits .and .i64 (shr .i64 t (IntKind.u64.wrap (i : Int))) 1)) := rfl
theorem wrap_u (i : Nat) (h : i < 100) : IntKind.u64.wrap (i : Int) = i := by
  have : IntKind.u64.wrap (i : Int) = (i : Int) % 18446744073709551616 := by simp [IntKind.wrap, IntKind.bits, IntKind.signed]
  rw [this]; omega
theorem loop_par (x t all : Int) (b : Nat) (hb : b < 7) (y : Int) (B : Int) (l : List Int) : ∀ (d i k : Nat), i + d = b →
    laws_FnTaps.l0 (k + d) (b : Int) all t x y (pl x t i) i B l = laws_FnTaps.l0 k (b : Int) all t x y (pl x t b) b B l := by
  intro d
  induction d with
  | zero => intro i k hi; rw [Nat.add_zero, show i = b by omega]
  | succ d ih =>
    intro i k hi
    have ih := ih (i + 1) k (by omega)
    have hw : (0 : Int) ≤ IntKind.u64.wrap (i : Int) := by rw [wrap_u i (by omega)]; omega
    rw [← Nat.add_assoc, laws_FnTaps.l0, if_pos (by omega), if_pos hw, w64 (by omega) (by omega), ← pl_succ]
    rw [Int.natCast_add, Int.natCast_one] at ih
    exact ih
end Go.Proofs.Ytnpgmkikdnlnaaa.X

/- The law FnKnownCounters in plain numbers: ring, twisted, reflected and binary counters do what the law asks. Conditions: as each lemma says. -/
namespace Go.Proofs.Ytnpgmkikdnlnaaa.X
open Go.RowKit Go.Proofs.YtnpgmkikdnlnaaaW.PrintWords Go.Proofs.YtnpgmkikdnlnaaaW.PrintLast Go.Proofs.YtnpgmkikdnlnaaaW.PrintMore
set_option linter.unusedVariables false
set_option linter.unusedSimpArgs false
theorem cyc_bin (b m : Nat) (hb : b < 7) (hb1 : 1 ≤ b) (hm : 1 ≤ m) (hm2 : m ≤ 2 ^ b) : Cyc (2 ^ b) m (BL b m) (fun y => y) where
  len := by simp [BL]
  hn := (bits_facts b hb hb1).2.2.2.2.2.2
  hm := hm
  mn := hm2
  lt := fun y hy => by omega
  inj := fun y _ z _ h => h
  zero := rfl
  step := fun y hy => by
    unfold BL
    rw [List.getElem?_map, List.getElem?_range (by omega), Option.map_some]
    by_cases h : y + 1 < m
    · rw [if_pos h, Nat.mod_eq_of_lt h]
    · rw [if_neg h, show y + 1 = m by omega, Nat.mod_self]; rfl
  out := fun s hs ho => by
    have : ¬ s + 1 < m := fun h => ho s (by omega) rfl
    unfold BL
    rw [List.getElem?_map, List.getElem?_range hs, Option.map_some, if_neg this]
theorem cyc_refl (b : Nat) (hb : b < 7) (hb1 : 1 ≤ b) : Cyc (2 ^ b) (2 ^ b) (RL b) gry where
  len := by simp [RL]
  hn := (bits_facts b hb hb1).2.2.2.2.2.2
  hm := Nat.two_pow_pos b
  mn := Nat.le_refl _
  lt := fun y hy => ((gry_dec b hb hb1).1 y hy).1
  inj := fun y hy z hz h => by
    have h1 := ((gry_dec b hb hb1).1 y hy).2.1
    have h2 := ((gry_dec b hb hb1).1 z hz).2.1
    rw [h] at h1
    omega
  zero := rfl
  step := fun y hy => ((gry_dec b hb hb1).1 y hy).2.2
  out := fun s hs ho => by
    obtain ⟨y, hy, he⟩ := (gry_dec b hb hb1).2.2 s hs
    exact absurd he (ho y hy)

theorem after_loop {n m : Nat} {nx : List Int} {c : Nat → Nat} (h : Cyc n m nx c) (b : Int) (x : Nat) (hx : x < m) (s : Nat) (hs : s ≤ 1000) : ∀ (d k i : Nat), i + d = s → d < k →
    impl_StateAfter.l0 k ((c ((x + i) % m) : Nat) : Int) s i b nx = some (((c ((x + s) % m) : Nat) : Int), true)
  | 0, k, i, hi, hk => by
    cases k with
    | zero => omega
    | succ k => rw [impl_StateAfter.l0, if_neg (by omega), show i = s by omega]
  | d + 1, k, i, hi, hk => by
    cases k with
    | zero => omega
    | succ k =>
      have hm := h.hm
      have hlt := h.lt _ (Nat.mod_lt (x + i) hm)
      have hst := h.step ((x + i) % m) (Nat.mod_lt _ hm)
      rw [Nat.mod_add_mod] at hst
      obtain ⟨hr, hl⟩ := rd_some hst
      have ih := after_loop h b x hx s hs d k (i + 1) (by omega) (by omega)
      rw [impl_StateAfter.l0, if_pos (by omega), if_pos (by omega), if_pos (by omega), hr, w64 (by omega) (by omega)]
      rw [Int.natCast_add, Int.natCast_one] at ih
      exact ih
theorem after_is {b m : Nat} {nx : List Int} {c : Nat → Nat} (hb : b < 7) (hb1 : 1 ≤ b) (h : Cyc (2 ^ b) m nx c) (hv : impl_ValidCounter.f 100 ((b : Nat) : Int) nx = some true) (x : Nat) (hx : x < m) (s : Nat) (hs1 : 1 ≤ s) (hs : s ≤ 1000) (k : Nat) (hk : 2000 < k) :
    impl_StateAfter.f k b nx ((c x : Nat) : Int) s = some (((c ((x + s % m) % m) : Nat) : Int), true) := by
  have hm := h.hm
  have hmn := h.mn
  have hn := h.hn
  have hv2 : impl_ValidCounter.f k ((b : Nat) : Int) nx = some true := by
    have := mono_add (fun k => impl_ValidCounter.f k ((b : Nat) : Int) nx) (fun k => impl_ValidCounter.mono _ _ k) 100 (k - 100) _ hv
    rwa [show 100 + (k - 100) = k by omega] at this
  unfold impl_StateAfter.f impl_Counter_isState.f
  rw [hv2, Option.bind_some, if_pos rfl, state_dec b hb hb1 (c x) (h.lt x hx), Option.bind_some, Option.bind_some, if_pos rfl, within_eq, Option.bind_some, decide_eq_true (by omega)]
  obtain ⟨k, rfl⟩ : ∃ j, k = j + 1 + 1 := ⟨k - 2, by omega⟩
  rw [Bool.not_true, impl_StateAfter.j0, if_neg (by decide), from_in h b x hx (k + 1) (by omega), Option.bind_some, if_pos (show (s : Int) > 0 by omega)]
  simp only
  rw [if_neg (by rw [ringL_len]; omega), impl_StateAfter.j1, ringL_len, w64 (n := (s : Int) - 0) (by omega) (by omega), Int.sub_zero, tmodp (by omega)]
  have e : (s : Int) % (m : Int) = ((s % m : Nat) : Int) := by simp
  have hlt := Nat.mod_lt s hm
  rw [e, w64 (by omega) (by omega), Int.zero_add]
  have := after_loop h b x hx (s % m) (by omega) (s % m) k 0 (by omega) (by omega)
  rw [Nat.add_zero, Nat.mod_eq_of_lt hx] at this
  exact this
theorem rings_loop {n m : Nat} {nx : List Int} {c : Nat → Nat} (h : Cyc n m nx c) (b : Int) : ∀ (d k i : Nat), i + d = n → d + 400 < k → 0 < i →
    impl_Counter_rings.l0 k [ringL m c] n i b nx = some [ringL m c]
  | 0, k, i, hi, hk, h0 => by
    cases k with
    | zero => omega
    | succ k => rw [impl_Counter_rings.l0, if_neg (by omega)]
  | d + 1, k, i, hi, hk, h0 => by
    cases k with
    | zero => omega
    | succ k =>
      have hm := h.hm
      have hn := h.hn
      have ih := rings_loop h b d k (i + 1) (by omega) (by omega) (by omega)
      rw [Int.natCast_add, Int.natCast_one] at ih
      rw [impl_Counter_rings.l0, if_pos (by omega), w64 (n := (i : Int) + 1) (by omega) (by omega)]
      by_cases hin : ∃ y, y < m ∧ c y = i
      · obtain ⟨y, hy, rfl⟩ := hin
        have hr0 : rd (ringL m c) 0 = 0 := by
          have := (rd_some (ringL_get m c 0 hm)).1
          rw [h.zero] at this
          exact this
        rw [from_in h b y hy k (by omega), Option.bind_some]
        simp only
        rw [if_pos trivial, if_pos (by rw [ringL_len]; omega), hr0, if_neg (by omega)]
        exact ih
      · obtain ⟨l, hl, he⟩ := from_out h b i (by omega) (fun y hy hc => hin ⟨y, hy, hc⟩) k (by omega)
        rw [he, Option.bind_some]
        simp only
        rw [if_neg (by decide)]
        exact ih
theorem rings_is {n m : Nat} {nx : List Int} {c : Nat → Nat} (h : Cyc n m nx c) (b : Int) (k : Nat) (hk : 2000 < k) : impl_Counter_rings.f k b nx = some [ringL m c] := by
  have hm := h.hm
  have hmn := h.mn
  have hn := h.hn
  obtain ⟨k, rfl⟩ : ∃ j, k = j + 1 := ⟨k - 1, by omega⟩
  unfold impl_Counter_rings.f
  have h1 := from_in h b 0 hm k (by omega)
  rw [h.zero] at h1
  have hr0 : rd (ringL m c) 0 = 0 := by
    have := (rd_some (ringL_get m c 0 hm)).1
    rw [h.zero] at this
    exact this
  have h1' : impl_Counter_ringFrom.f k b nx 0 = some (ringL m c, 0) := h1
  rw [h.len, impl_Counter_rings.l0, if_pos (by omega), h1', Option.bind_some]
  simp only
  rw [if_pos trivial, if_pos (by rw [ringL_len]; omega), hr0, if_pos rfl, if_pos (by simp), w64 (n := 0 + 1) (by omega) (by omega)]
  exact rings_loop h b (n - 1) k 1 (by omega) (by omega) (by omega)
theorem tail_is {b m : Nat} {nx : List Int} {c : Nat → Nat} (hb : b < 7) (hb1 : 1 ≤ b) (h : Cyc (2 ^ b) m nx c) (hv : impl_ValidCounter.f 100 ((b : Nat) : Int) nx = some true) (k : Nat) (hk : 2000 < k) :
    impl_IsSelfStarting.f k b nx 0 = some true := by
  have hm := h.hm
  have hv2 : impl_ValidCounter.f k ((b : Nat) : Int) nx = some true := by
    have := mono_add (fun k => impl_ValidCounter.f k ((b : Nat) : Int) nx) (fun k => impl_ValidCounter.mono _ _ k) 100 (k - 100) _ hv
    rwa [show 100 + (k - 100) = k by omega] at this
  have hs := state_dec b hb hb1 0 (Nat.two_pow_pos b)
  have hs' : impl_isStateOf.f ((b : Nat) : Int) 0 = some true := hs
  have h1 := from_in h b 0 hm k (by omega)
  rw [h.zero] at h1
  have h1' : impl_Counter_ringFrom.f k b nx 0 = some (ringL m c, 0) := h1
  unfold impl_IsSelfStarting.f impl_TailOf.f impl_Counter_isState.f
  rw [hv2, Option.bind_some, if_pos rfl, hs', Option.bind_some, Option.bind_some, if_pos rfl, h1', Option.bind_some, Option.bind_some]
  simp only
  rw [if_pos trivial, if_pos trivial, rings_is h b k hk, Option.bind_some]
  rfl
theorem most_loop (b : Nat) (hb : b < 7) (hb1 : 1 ≤ b) : ∀ (d k i : Nat) (x : Int), i + d = 2 ^ b → d < k → (0 < i → x = 1) → (i = 0 → x = 0) →
    impl_MostChanged.l0 k x (ringL (2 ^ b) gry) ((2 ^ b : Nat) : Int) i b (RL b) = some (1, true)
  | 0, k, i, x, hi, hk, hx, hx0 => by
    have := Nat.two_pow_pos b
    cases k with
    | zero => omega
    | succ k => rw [impl_MostChanged.l0, if_neg (by omega), hx (by omega)]
  | d + 1, k, i, x, hi, hk, hx, hx0 => by
    cases k with
    | zero => omega
    | succ k =>
      have h := cyc_refl b hb hb1
      have hn := h.hn
      obtain ⟨hr, _⟩ := rd_some (ringL_get (2 ^ b) gry i (by omega))
      obtain ⟨hr2, hl2⟩ := rd_some (h.step i (by omega))
      have ih := most_loop b hb hb1 d k (i + 1) 1 (by omega) (by omega) (fun _ => rfl) (fun h => by omega)
      rw [Int.natCast_add, Int.natCast_one] at ih
      rw [impl_MostChanged.l0, if_pos (by omega), if_pos (by omega), if_pos (by rw [ringL_len]; omega), hr, if_pos (by omega), if_pos (by omega), hr2, diff_dec b hb hb1 i (by omega), Option.bind_some, w64 (by omega) (by omega), mx_eq]
      rw [show max x 1 = 1 by
        rcases Nat.eq_zero_or_pos i with h0 | h0
        · rw [hx0 h0]; rfl
        · rw [hx h0]; rfl]
      exact ih
theorem most_is (b : Nat) (hb : b < 7) (hb1 : 1 ≤ b) (k : Nat) (hk : 2000 < k) : impl_MostChanged.f k b (RL b) 0 = some (1, true) := by
  have h := cyc_refl b hb hb1
  have hn := h.hn
  have hv2 : impl_ValidCounter.f k ((b : Nat) : Int) (RL b) = some true := by
    have := mono_add (fun k => impl_ValidCounter.f k ((b : Nat) : Int) (RL b)) (fun k => impl_ValidCounter.mono _ _ k) 100 (k - 100) _ (rl_dec b hb hb1).2
    rwa [show 100 + (k - 100) = k by omega] at this
  have hs' : impl_isStateOf.f ((b : Nat) : Int) 0 = some true := state_dec b hb hb1 0 (Nat.two_pow_pos b)
  have h1' : impl_Counter_ringFrom.f k b (RL b) 0 = some (ringL (2 ^ b) gry, 0) := from_in h b 0 h.hm k (by omega)
  unfold impl_MostChanged.f impl_Counter_isState.f
  rw [hv2, Option.bind_some, if_pos rfl, hs', Option.bind_some, Option.bind_some, if_pos rfl, h1', Option.bind_some]
  simp only
  rw [ringL_len]
  exact most_loop b hb hb1 (2 ^ b) k 0 0 (by omega) (by omega) (fun h => absurd h (by omega)) (fun _ => rfl)
theorem ringsOf_is (b : Nat) (hb : b < 7) (hb1 : 1 ≤ b) (k : Nat) (hk : 2000 < k) : impl_RingsOf.f k b (RL b) = some ([ringL (2 ^ b) gry], true) := by
  have h := cyc_refl b hb hb1
  have hv2 : impl_ValidCounter.f k ((b : Nat) : Int) (RL b) = some true := by
    have := mono_add (fun k => impl_ValidCounter.f k ((b : Nat) : Int) (RL b)) (fun k => impl_ValidCounter.mono _ _ k) 100 (k - 100) _ (rl_dec b hb hb1).2
    rwa [show 100 + (k - 100) = k by omega] at this
  unfold impl_RingsOf.f
  rw [hv2, Option.bind_some, if_pos rfl, rings_is h b k hk, Option.bind_some]
theorem lift {α : Type} (f : Nat → Option α) (hm : ∀ k, LeO (f k) (f (k + 1))) {r : α} (h : f 100 = some r) (k : Nat) (hk : 2000 < k) : f k = some r := by
  have := mono_add f hm 100 (k - 100) r h
  rwa [show 100 + (k - 100) = k by omega] at this
theorem FnKnownCounters_pure : laws_FnKnownCounters.Pure := by
  intro l0 l1 _ _ hw0 _ _ hw1
  suffices h : ∀ k, 2500 < k → laws_FnKnownCounters.f (k + 1 + 1) l0 l1 = some true from ⟨2501 + 1 + 1, h 2501 (by omega)⟩
  intro k hk
  have K2 : 2000 < k + 1 + 1 := by omega
  have K1 : 2000 < k + 1 := by omega
  have K0 : 2000 < k := by omega
  clear hk
  unfold laws_FnKnownCounters.f
  have hlong : ∃ t, laws_r8Long.f l0 l1 = some t := by unfold laws_r8Long.f; split <;> exact ⟨_, rfl⟩
  obtain ⟨t, ht⟩ := hlong
  rw [ht, Option.bind_some]
  cases t with
  | true => rw [if_pos rfl]
  | false =>
    rw [if_neg (by decide)]
    obtain ⟨v, hv, hv6⟩ := at_ok l0 0 6 (by omega) (by omega) hw0
    rw [hv, Option.bind_some]
    obtain ⟨b, hbv⟩ : ∃ b, b = v + 1 := ⟨_, rfl⟩
    have hb : b < 7 := by omega
    have hb1 : 1 ≤ b := by omega
    have E1 : Aside0 (wrap64 (1 + (v : Int)) = (b : Int)) := ⟨by rw [w64 (by omega) (by omega)]; omega⟩
    have W2 : Aside0 (wrap64 (2 * (b : Int)) = 2 * (b : Int)) := ⟨w64 (by omega) (by omega)⟩
    have F := Aside0.mk (bits_facts b hb hb1)
    have f6 := F.out.2.2.2.2.2.1
    have f7 := F.out.2.2.2.2.2.2
    obtain ⟨N, hN⟩ : ∃ N, N = 2 ^ b := ⟨_, rfl⟩
    rw [← hN] at f6 f7
    have n1 : (1 : Int) ≤ (N : Int) := by omega
    have n2 : (0 : Int) ≤ 0 := by omega
    have n3 : (0 : Int) ≤ 1 := by omega
    obtain ⟨mv, hmv, hmlt⟩ := at_ok l1 0 (N : Int) n2 n1 hw1
    obtain ⟨m, hmm⟩ : ∃ m, m = mv + 1 := ⟨_, rfl⟩
    have E2 : Aside0 (wrap64 (1 + (mv : Int)) = (m : Int)) := ⟨by rw [w64 (by omega) (by omega)]; omega⟩
    have hm1 : 1 ≤ m := by omega
    have hm2 : m ≤ N := by omega
    have hm3 : m ≤ 1000 := by omega
    obtain ⟨x, hx, hxlt⟩ := at_ok l1 1 (N : Int) n3 n1 hw1
    have hxb : x < N := by omega
    have hN0 : ¬ ((N : Int) = 0) := by omega
    have E4 : Aside0 ((wrap64 ((x : Int) + 1)).tmod (N : Int) = (((x + 1) % N : Nat) : Int)) := ⟨by
      rw [w64 (by omega) (by omega), tmodp (by omega)]
      simp⟩
    have h1N : 1 % N = 1 := Nat.mod_eq_of_lt (by omega)
    have hml := Nat.mod_lt (x + 1) (show 0 < N by omega)
    subst hN
    clear hbv hmm hv6 hmlt hxlt n1 n2 n3 f6 f7
    rw [E1.out, if_pos F.out.1, F.out.2.1]
    obtain ⟨lr, hr1, hr2⟩ := ring_dec b hb hb1
    obtain ⟨lt, ht1, ht2, ht3⟩ := twist_dec b hb hb1
    rw [lift _ (fun k => impl_RingCounter.mono _ k) hr1 (k + 1 + 1) K2, Option.bind_some, lift _ (fun k => impl_TwistedCounter.mono _ k) ht1 (k + 1 + 1) K2, Option.bind_some,
      lift _ (fun k => impl_ReflectedCounter.mono _ k) (rl_dec b hb hb1).1 (k + 1 + 1) K2, Option.bind_some]
    rw [hmv, Option.bind_some]
    rw [E2.out, lift _ (fun k => impl_BinaryCounter.mono _ _ k) (bl_dec b hb hb1 m hm2 hm1).1 (k + 1 + 1) K2, Option.bind_some]
    simp only [if_true]
    have hcb := cyc_bin b m hb hb1 hm1 hm2
    have hcr := cyc_refl b hb hb1
    have e3 := after_is hb hb1 hcb (bl_dec b hb hb1 m hm2 hm1).2 0 hm1 m hm1 hm3 (k + 1) K1
    rw [Nat.mod_self] at e3
    have e3' : impl_StateAfter.f (k + 1) b (BL b m) 0 m = some (0, true) := by
      have e : (0 + 0) % m = 0 := Nat.zero_mod _
      rw [e] at e3
      exact e3
    rw [laws_FnKnownCounters.j0, Bool.not_true, if_neg (by decide), lift _ (fun k => impl_StateAfter.mono _ _ _ _ k) hr2 (k + 1) K1, Option.bind_some, W2.out,
      lift _ (fun k => impl_StateAfter.mono _ _ _ _ k) ht2 (k + 1) K1, Option.bind_some, lift _ (fun k => impl_StateAfter.mono _ _ _ _ k) ht3 (k + 1) K1, Option.bind_some,
      most_is b hb hb1 (k + 1) K1, Option.bind_some, ringsOf_is b hb hb1 (k + 1) K1, Option.bind_some, e3', Option.bind_some]
    have hrl : ((rd_L2 [ringL (2 ^ b) gry] 0).length : Int) = ((2 ^ b : Nat) : Int) := by
      show ((ringL (2 ^ b) gry).length : Int) = _
      rw [ringL_len]
    simp only [if_true, F.out.2.2.2.1, hrl, List.length_cons, List.length_nil, tail_is hb hb1 hcb (bl_dec b hb hb1 m hm2 hm1).2 (k + 1) K1, Option.bind_some, Bool.not_true]
    rw [if_pos (by decide), if_pos (by decide), laws_FnKnownCounters.j1, if_neg (by decide)]
    obtain ⟨c1, c2⟩ := code_dec b hb hb1 x hxb
    obtain ⟨d1, _⟩ := code_dec b hb hb1 ((x + 1) % 2 ^ b) hml
    have hg := ((gry_dec b hb hb1).1 x hxb).1
    have s1 := state_dec b hb hb1 x hxb
    have s2 := state_dec b hb hb1 (gry x) hg
    have s3 := state_dec b hb hb1 _ hml
    have e5 := after_is hb hb1 hcr (rl_dec b hb hb1).2 x hxb 1 (Nat.le_refl _) (by decide) k K0
    rw [h1N] at e5
    have e5' : impl_StateAfter.f k b (RL b) ((gry x : Nat) : Int) 1 = some (((gry ((x + 1) % 2 ^ b) : Nat) : Int), true) := e5
    rw [hx, Option.bind_some]
    unfold impl_ReflectedOf.f impl_FromReflected.f
    rw [s1, Option.bind_some, if_pos rfl, c1, Option.bind_some, Option.bind_some]
    simp only
    rw [s2, Option.bind_some, if_pos rfl, lift _ (fun k => impl_fromReflected.mono _ k) c2 k K0, Option.bind_some, Option.bind_some, if_neg hN0, E4.out, s3, Option.bind_some, if_pos rfl, d1, Option.bind_some, Option.bind_some, e5', Option.bind_some]
    simp
end Go.Proofs.Ytnpgmkikdnlnaaa.X

