/- My own texts of this seat, merged: CTapsA, CTaps. Conditions: as each lemma says. -/
import Derived.Test.YtnpgmkikdnlnaaaG2
import Derived.Test.YtnpgmkikdnlnaaaG3
/- Facts for the law FnTaps in plain numbers: a tap counter is linear, brings in the parity of its tapped bits and moves the others. Conditions: none. -/
namespace Go.Proofs.Ytnpgmkikdnlnaaa.X
open Go.RowKit Go.Proofs.YtnpgmkikdnlnaaaW.PrintWords Go.Proofs.YtnpgmkikdnlnaaaW.PrintLast Go.Proofs.YtnpgmkikdnlnaaaW.PrintMore
set_option linter.unusedVariables false
set_option linter.unusedSimpArgs false
theorem at_ok (l : List Int) (k n : Int) (hk : 0 ≤ k) (hn : 1 ≤ n) (hw : ∀ x ∈ l, (Lit.int .u8 x).wf = true) :
    ∃ v : Nat, laws_r8At.f l k n = some (v : Int) ∧ (v : Int) < n := by
  unfold laws_r8At.f
  by_cases h1 : n ≤ 1
  · exact ⟨0, by rw [if_pos h1]; rfl, by omega⟩
  · by_cases h2 : k ≥ (l.length : Int)
    · exact ⟨0, by rw [if_neg h1, if_pos h2]; rfl, by omega⟩
    · have hlt : k.toNat < l.length := by omega
      have hx := hw (l[k.toNat]) (List.getElem_mem hlt)
      have hr : rd l k = l[k.toNat] := by unfold rd; rw [List.getD_eq_getElem?_getD, List.getElem?_eq_getElem hlt]; rfl
      have hmin : IntKind.u8.min = 0 := rfl
      have hmax : IntKind.u8.max = 255 := rfl
      simp only [Lit.wf, Bool.and_eq_true, decide_eq_true_eq] at hx
      have h3 := Int.emod_nonneg l[k.toNat] (show n ≠ 0 by omega)
      obtain ⟨v, hv⟩ := Int.eq_ofNat_of_zero_le h3
      refine ⟨v, ?_, by rw [← hv]; exact Int.emod_lt_of_pos _ (by omega)⟩
      rw [if_neg h1, if_neg h2, if_pos hk, if_pos (by omega), if_neg (by omega), hr, w64 (by omega) (by omega), tmodp (by omega), hv]
/-- The parity of a state's bits. -/
def par (u : Nat) : Nat := (u + u / 2 + u / 4 + u / 8 + u / 16 + u / 32) % 2
theorem par_lt (u : Nat) : par u < 2 := Nat.mod_lt _ (by omega)
theorem ones_par : ∀ u < 64, ∃ o ∈ List.range 9, impl_onesOf.f ((u : Nat) : Int) = some (o : Int) ∧ o % 2 = par u := by decide +kernel
theorem par_xor : ∀ u < 64, ∀ v < 64, par (u ^^^ v) = par u ^^^ par v := by decide +kernel
theorem nxt_xor : ∀ b < 7, 1 ≤ b → ∀ x < 2 ^ b, ∀ y < 2 ^ b, ∀ ij ∈ [(0, 0), (0, 1), (1, 0), (1, 1)], nxt b (x ^^^ y) (ij.1 ^^^ ij.2) = nxt b x ij.1 ^^^ nxt b y ij.2 := by decide +kernel
theorem nxt_facts : ∀ b < 7, 1 ≤ b → ∀ x < 2 ^ b, ∀ i < 2, nxt b x i < 2 ^ b ∧ Go.bits .and .i64 ((nxt b x i : Nat) : Int) 1 = (i : Int) ∧ ((nxt b x i : Nat) : Int) / 2 = Go.bits .and .i64 ((x : Nat) : Int) (wrap64 ((wrap64 (Int.tdiv ((2 ^ b : Nat) : Int) 2)) - 1)) := by decide +kernel
theorem xor_small : ∀ x < 64, ∀ y < 64, Go.bits .xor .i64 ((x : Nat) : Int) ((y : Nat) : Int) = ((x ^^^ y : Nat) : Int) := by decide +kernel
def pl (x t : Int) : Nat → Int
  | 0 => 0
  | i + 1 => Go.bits .xor .i64 (pl x t i) (Go.bits .and .i64 (Go.bits .and .i64 (shr .i64 x (IntKind.u64.wrap (i : Int))) 1) (Go.bits .and .i64 (shr .i64 t (IntKind.u64.wrap (i : Int))) 1))
theorem pl_par : ∀ b < 7, 1 ≤ b → ∀ x < 2 ^ b, ∀ t < 2 ^ b, pl ((x : Nat) : Int) ((t : Nat) : Int) b = ((par (x &&& t) : Nat) : Int) := by decide +kernel
theorem bits_facts : ∀ b < 7, 1 ≤ b → 0 ≤ IntKind.u64.wrap ((b : Nat) : Int) ∧ shl .i64 1 (IntKind.u64.wrap ((b : Nat) : Int)) = ((2 ^ b : Nat) : Int) ∧ shl .i64 1 ((b : Nat) : Int) = ((2 ^ b : Nat) : Int) ∧ wrap64 (((2 ^ b : Nat) : Int) - 1) = ((2 ^ b : Nat) : Int) - 1 ∧ wrap64 (2 ^ b) = ((2 ^ b : Nat) : Int) ∧ 2 ≤ 2 ^ b ∧ 2 ^ b ≤ 64 := by decide +kernel
theorem xor_lt (b x y : Nat) (hx : x < 2 ^ b) (hy : y < 2 ^ b) : x ^^^ y < 2 ^ b := Nat.xor_lt_two_pow hx hy
theorem rd_lst (b : Nat) (inn : Nat → Nat) (n x : Nat) (hx : x < n) : rd (lst b inn n) (x : Int) = ((nxt b x (inn x) : Nat) : Int) := by
  rw [rd_nat _ _ (by rw [lst_len]; exact hx)]
  simp [lst]
theorem tap_eq (b t : Nat) (hb : b < 7) (hb1 : 1 ≤ b) (ht : t < 2 ^ b) (ht0 : 0 < t) (k : Nat) (hk : 256 < k) : impl_TapCounter.f k b t = some ((b : Int), lst b (fun x => par (x &&& t)) (2 ^ b), true) := by
  obtain ⟨f1, f2, f3, f4, f5, f6, f7⟩ := bits_facts b hb hb1
  unfold impl_TapCounter.f impl_isStateOf.f
  simp only [bits_eq, within_eq, Option.bind_some, f3, f4]
  have hc : ∀ x, x < 2 ^ b → (tapC (b : Int) (t : Int)).f ((x : Nat) : Int) = some ((nxt b x (par (x &&& t)) : Nat) : Int) := by
    intro x hx
    show (impl_onesOf.f (Go.bits .and .i64 (x : Int) (t : Int))).bind (fun o => impl_moved.f b x (o.tmod 2)) = _
    obtain ⟨e, hlt⟩ := and_small x t (by omega) (by omega)
    have hlt2 : x &&& t ≤ x := Nat.and_le_left
    obtain ⟨o, _, h1, h2⟩ := ones_par (x &&& t) (by omega)
    rw [e, h1, Option.bind_some, tmodp (by omega), ← h2]
    have := moved_eq b x (o % 2) (by omega) (by omega) hx (by omega)
    simpa using this
  have h1 : (1 : Int) ≤ b ∧ (b : Int) ≤ 8 := by omega
  have h2 : (0 : Int) ≤ t ∧ (t : Int) ≤ ((2 ^ b : Nat) : Int) - 1 := by omega
  have hz2 : ¬ ((t : Int) = 0) := by omega
  have h00 : (0 : Int) ≤ b := by omega
  simp only [h1, h00, h2, decide_true, and_self, if_true, Option.bind_some, hz2, if_false]
  exact @by_eq (tapC b t) b (by omega) (by omega) (fun x => par (x &&& t)) k hk hc
theorem tap_zero (b : Nat) (hb : b < 7) (hb1 : 1 ≤ b) (k : Nat) : impl_TapCounter.f k b 0 = some (0, [], false) := by
  obtain ⟨f1, f2, f3, f4, f5, f6, f7⟩ := bits_facts b hb hb1
  unfold impl_TapCounter.f impl_isStateOf.f
  simp only [bits_eq, within_eq, Option.bind_some, f3, f4]
  have h1 : (1 : Int) ≤ b ∧ (b : Int) ≤ 8 := by omega
  have h2 : (0 : Int) ≤ 0 ∧ (0 : Int) ≤ ((2 ^ b : Nat) : Int) - 1 := by omega
  have h00 : (0 : Int) ≤ b := by omega
  simp only [h1, h00, h2, decide_true, and_self, if_true, Option.bind_some]
/-- No state of the list is out of its bounds. -/
theorem idx_none [C_slices_IndexFunc_int64_int64] (l : List Int) (hl : l.length ≤ 256) (hall : ∀ i : Nat, i < l.length → C_slices_IndexFunc_int64_int64.f (rd l i) = some false) : ∀ (d i k : Nat), i + d = l.length → d < k →
    slices_IndexFunc_int64_int64.l0 k l (l.length : Int) (i : Int) = some (-1)
  | 0, i, k, hi, hk => by
    cases k with
    | zero => omega
    | succ k => rw [slices_IndexFunc_int64_int64.l0, if_neg (by omega)]
  | d + 1, i, k, hi, hk => by
    cases k with
    | zero => omega
    | succ k =>
      have ih := idx_none l hl hall d (i + 1) k (by omega) (by omega)
      rw [slices_IndexFunc_int64_int64.l0, if_pos (by omega), if_pos (by omega), if_pos (by omega), hall i (by omega), Option.bind_some, if_neg (by decide), w64 (by omega) (by omega)]
      rw [Int.natCast_add, Int.natCast_one] at ih
      exact ih
theorem validC_no (b : Nat) (hb : b < 7) (hb1 : 1 ≤ b) (v : Int) (h0 : 0 ≤ v) (h1 : v < ((2 ^ b : Nat) : Int)) : (validC (b : Int)).f v = some false := by
  obtain ⟨f1, f2, f3, f4, f5, f6, f7⟩ := bits_facts b hb hb1
  show (impl_isStateOf.f (b : Int) v).bind (fun b => some (!b)) = some false
  unfold impl_isStateOf.f
  simp only [bits_eq, within_eq, Option.bind_some, f3, f4]
  have h1 : (1 : Int) ≤ b ∧ (b : Int) ≤ 8 := by omega
  have h2 : (0 : Int) ≤ v ∧ v ≤ ((2 ^ b : Nat) : Int) - 1 := by omega
  have h00 : (0 : Int) ≤ b := by omega
  simp only [h1, h00, h2, decide_true, and_self, if_true, Option.bind_some, Bool.not_true]
theorem valid_yes (b : Nat) (hb : b < 7) (hb1 : 1 ≤ b) (l : List Int) (hl : l.length = 2 ^ b) (hall : ∀ i : Nat, i < l.length → 0 ≤ rd l i ∧ rd l i < ((2 ^ b : Nat) : Int)) (k : Nat) (hk : 256 < k) : impl_ValidCounter.f k b l = some true := by
  obtain ⟨f1, f2, f3, f4, f5, f6, f7⟩ := bits_facts b hb hb1
  have h1 : (1 : Int) ≤ b ∧ (b : Int) ≤ 8 := by omega
  have h2 : ((l.length : Int) == ((2 ^ b : Nat) : Int)) = true := by rw [hl]; exact beq_self_eq_true _
  have hx : @slices_IndexFunc_int64_int64.f (validC (b : Int)) k l 0 = some (-1) := by
    have := @idx_none (validC (b : Int)) l (by omega) (fun i hi => validC_no b hb hb1 _ (hall i hi).1 (hall i hi).2) l.length 0 k (by omega) (by omega)
    unfold slices_IndexFunc_int64_int64.f
    exact this
  unfold impl_ValidCounter.f
  rw [bits_eq, Option.bind_some, decide_eq_true h1, if_pos rfl, if_pos h1, Int.toNat_natCast, f5, if_pos h2, hx, Option.bind_some]
  simp
theorem pl_succ (x t : Int) (i : Nat) : pl x t (i + 1) = Go.bits .xor .i64 (pl x t i) (Go.bits .and .i64 (Go.bits .and .i64 (shr .i64 x (IntKind.u64.wrap (i : Int))) 1) (Go.bits .and .i64 (shr .i64 t (IntKind.u64.wrap (i : Int))) 1)) := rfl
theorem wrap_u (i : Nat) (h : i < 100) : IntKind.u64.wrap (i : Int) = i := by
  have : IntKind.u64.wrap (i : Int) = (i : Int) % 18446744073709551616 := by simp [IntKind.wrap, IntKind.bits, IntKind.signed]
  rw [this]; omega
theorem loop_par (x t all : Int) (b : Nat) (hb : b < 7) (y : Int) (B : Int) (l : List Int) : ∀ (d i k : Nat), i + d = b →
    laws_FnTaps.l0 (k + d) (b : Int) all t x y (pl x t i) i B l = laws_FnTaps.l0 k (b : Int) all t x y (pl x t b) b B l := by
  intro d
  induction d with
  | zero => intro i k hi; rw [Nat.add_zero, show i = b by omega]
  | succ d ih =>
    intro i k hi
    have ih := ih (i + 1) k (by omega)
    have hw : (0 : Int) ≤ IntKind.u64.wrap (i : Int) := by rw [wrap_u i (by omega)]; omega
    rw [← Nat.add_assoc, laws_FnTaps.l0, if_pos (by omega), if_pos hw, w64 (by omega) (by omega), ← pl_succ]
    rw [Int.natCast_add, Int.natCast_one] at ih
    exact ih
end Go.Proofs.Ytnpgmkikdnlnaaa.X

/- The law FnTaps in plain numbers: a tap counter is linear, brings in the parity of its tapped bits and moves the others. Conditions: none. -/
namespace Go.Proofs.Ytnpgmkikdnlnaaa.X
open Go.RowKit Go.Proofs.YtnpgmkikdnlnaaaW.PrintWords Go.Proofs.YtnpgmkikdnlnaaaW.PrintLast Go.Proofs.YtnpgmkikdnlnaaaW.PrintMore
set_option linter.unusedVariables false
set_option linter.unusedSimpArgs false
theorem FnTaps_pure : laws_FnTaps.Pure := by
  intro l0 l1 _ _ hw0 _ _ hw1
  by_cases h0 : (l0.length : Int) > 48
  · exact ⟨0, by unfold laws_FnTaps.f laws_r8Long.f; rw [if_pos h0]; rfl⟩
  by_cases h1 : (l1.length : Int) > 48
  · exact ⟨0, by unfold laws_FnTaps.f laws_r8Long.f; rw [if_neg h0, Option.bind_some, decide_eq_true h1]; rfl⟩
  obtain ⟨b0, hb0, hb0l⟩ := at_ok l0 0 6 (by omega) (by omega) hw0
  obtain ⟨b, hbe⟩ : ∃ b, b = b0 + 1 := ⟨_, rfl⟩
  have hb : b < 7 := by omega
  have hb1 : 1 ≤ b := by omega
  have e1 : Aside0 (wrap64 (1 + (b0 : Int)) = (b : Int)) := ⟨by rw [w64 (by omega) (by omega)]; omega⟩
  obtain ⟨f1, f2, f3, f4, f5, f6, f7⟩ := bits_facts b hb hb1
  have F1 := Aside0.mk f1
  have F2 := Aside0.mk f2
  have F4 := Aside0.mk f4
  clear f1 f2 f3 f4 f5
  obtain ⟨t0, ht0, ht0l⟩ := at_ok l1 0 (((2 ^ b : Nat) : Int) - 1) (by omega) (by omega) hw1
  obtain ⟨t, hte⟩ : ∃ t, t = t0 + 1 := ⟨_, rfl⟩
  have e2 : Aside0 (wrap64 (1 + (t0 : Int)) = (t : Int)) := ⟨by rw [w64 (by omega) (by omega)]; omega⟩
  obtain ⟨x, hx, hxl⟩ := at_ok l1 1 ((2 ^ b : Nat) : Int) (by omega) (by omega) hw1
  obtain ⟨y, hy, hyl⟩ := at_ok l1 2 ((2 ^ b : Nat) : Int) (by omega) (by omega) hw1
  have hxn : x < 2 ^ b := by omega
  have hyn : y < 2 ^ b := by omega
  have htn : t < 2 ^ b := by omega
  obtain ⟨L, hL⟩ : ∃ L, L = lst b (fun x => par (x &&& t)) (2 ^ b) := ⟨_, rfl⟩
  have hLl : L.length = 2 ^ b := by rw [hL, lst_len]
  have hrd : ∀ z : Nat, z < 2 ^ b → rd L (z : Int) = ((nxt b z (par (z &&& t)) : Nat) : Int) := fun z hz => by rw [hL]; exact rd_lst _ _ _ _ hz
  have hall : ∀ i : Nat, i < L.length → 0 ≤ rd L i ∧ rd L i < ((2 ^ b : Nat) : Int) := by
    intro i hi
    rw [hrd i (by omega)]
    have := (nxt_facts b hb hb1 i (by omega) (par (i &&& t)) (par_lt _)).1
    omega
  obtain ⟨m, hm⟩ : ∃ m : Nat, 3000 < m := ⟨3001, by omega⟩
  refine ⟨m + 1 + b + 1, ?_⟩
  unfold laws_FnTaps.f laws_r8Long.f
  rw [if_neg h0, Option.bind_some, decide_eq_false h1, if_neg (by decide)]
  rw [hb0, Option.bind_some, e1.out, if_pos F1.out, F2.out, F4.out, ht0, Option.bind_some, e2.out, tap_eq b t hb hb1 htn (by omega) (m + 1 + b + 1) (by omega), Option.bind_some]
  simp only
  rw [if_pos trivial, ← hL, valid_yes b hb hb1 L hLl hall (m + 1 + b + 1) (by omega), Option.bind_some, if_pos rfl, if_pos trivial, if_pos (by omega)]
  have hz : (rd L 0 != 0) = false := by
    have := hrd 0 (by omega)
    rw [show ((0 : Nat) : Int) = 0 from rfl] at this
    rw [this]
    simp [nxt, par]
  rw [hz, laws_FnTaps.j0, if_neg (by decide), hx, Option.bind_some, hy, Option.bind_some]
  have hlp := loop_par (x : Int) (t : Int) ((2 ^ b : Nat) : Int) b hb (y : Int) (b : Int) L b 0 (m + 1) (by omega)
  rw [show pl (x : Int) (t : Int) 0 = 0 from rfl, show ((0 : Nat) : Int) = 0 from rfl] at hlp
  rw [hlp, laws_FnTaps.l0, if_neg (by omega), tap_zero b hb hb1, Option.bind_some]
  simp only
  have hxy := xor_lt b x y hxn hyn
  have exy := xor_small x (by omega) y (by omega)
  rw [if_neg (by decide), exy, if_pos (by omega), if_pos (by omega), if_pos (by omega), if_pos (by omega), if_pos (by omega), if_pos (by omega)]
  rw [hrd _ hxy, hrd x hxn, hrd y hyn]
  have n1 := nxt_facts b hb hb1 x hxn (par (x &&& t)) (par_lt _)
  have n2 := nxt_facts b hb hb1 y hyn (par (y &&& t)) (par_lt _)
  rw [xor_small _ (by omega) _ (by omega)]
  have hand1 : x &&& t ≤ x := Nat.and_le_left
  have hand2 : y &&& t ≤ y := Nat.and_le_left
  have hlin : nxt b (x ^^^ y) (par ((x ^^^ y) &&& t)) = nxt b x (par (x &&& t)) ^^^ nxt b y (par (y &&& t)) := by
    rw [Nat.and_xor_distrib_right, par_xor _ (by omega) _ (by omega)]
    exact nxt_xor b hb hb1 x hxn y hyn (par (x &&& t), par (y &&& t)) (by
      have h1 := par_lt (x &&& t)
      have h2 := par_lt (y &&& t)
      have h3 : par (x &&& t) = 0 ∨ par (x &&& t) = 1 := by omega
      have h4 : par (y &&& t) = 0 ∨ par (y &&& t) = 1 := by omega
      rcases h3 with h3 | h3 <;> rcases h4 with h4 | h4 <;> rw [h3, h4] <;> decide)
  rw [hlin, if_pos rfl, n1.2.1, pl_par b hb hb1 x hxn t htn, if_pos rfl, n1.2.2]
  simp
end Go.Proofs.Ytnpgmkikdnlnaaa.X

