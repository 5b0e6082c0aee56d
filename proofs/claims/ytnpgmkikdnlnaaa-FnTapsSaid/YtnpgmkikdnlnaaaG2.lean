/- My own texts of this seat, merged: Xp16, CCtr, Xp8, Xp9, Xp54, XValid. Conditions: as each lemma says. -/
import Derived.Test.YtnpgmkikdnlnaaaG0
import Derived.Test.YtnpgmkikdnlnaaaG1
-- Written by a program of this session out of the kit's print of the loaded functions: a plain function of a Go function, and its contract.
namespace Go.Proofs.Ytnpgmkikdnlnaaa.X
open Go.RowKit Go.Proofs.YtnpgmkikdnlnaaaW.PrintWords Go.Proofs.YtnpgmkikdnlnaaaW.PrintLast Go.Proofs.YtnpgmkikdnlnaaaW.PrintMore
attribute [local go_sem] max2_int min2_int max_two min_two max_three min_three max_four min_four   -- for this text's walks alone
set_option linter.unusedVariables false
set_option linter.unusedSimpArgs false

/-! ### laws_heldCounter: function 16 -/
def laws_heldCounter.f (k : Nat) (a0_0 : Int) (l0_1 : List Int) (a1 : Int) : Option (Int) := (laws_heldInt64S.f k l0_1 a1).bind fun t142 => (if t142 < 0 then (some (-1)) else (some t142))
theorem laws_heldCounter.mono : ∀ a0 a1 a2 k, LeO (laws_heldCounter.f k a0 a1 a2) (laws_heldCounter.f (k + 1) a0 a1 a2) := by
  intro a0 a1 a2 k
  unfold laws_heldCounter.f
  repeat' first
      | (with_reducible exact laws_heldInt64S.mono _ _ _)
      | (with_reducible exact LeO.refl _)
      | (with_reducible exact LeO.none _)
      | (with_reducible refine LeO.ite ?_ ?_)
      | (with_reducible refine LeO.bind ?_ (fun _ => ?_))
      | exact laws_heldInt64S.mono _ _ _
      | exact LeO.none _
      | refine LeO.ite ?_ ?_
      | refine LeO.bind ?_ (fun _ => ?_)
set_option maxHeartbeats 8000000 in
set_option maxRecDepth 100000 in
theorem laws_heldCounter.calls (k : Nat) (a0_0 : Int) (A0_1 : Option Addr) (c0_1 : Nat) (l0_1 : List Int) (a1 : Int) (r : Int) (w : World) (hr0_1 : Kd.C (Kd.int .i64) w A0_1 l0_1.length l0_1) (hc0_1 : l0_1.length ≤ c0_1) (h : laws_heldCounter.f k a0_0 l0_1 a1 = some r) :
    Calls Try.prog 16 #[.agg #[.int .i64 a0_0, .slice A0_1 l0_1.length c0_1], .int .i64 a1] w fun e w' => e = .returned (.int .i64 r) ∧ Below w.heap.size w w' := by
  have hu28 := Try.underlying28
  have HR0_1 := Aside0.mk hr0_1
  have HC0_1 := Aside0.mk hc0_1
  clear hr0_1 hc0_1
  have HB := Aside0.mk (Below.refl w.heap.size w)
  have H : ((laws_heldInt64S.f k l0_1 a1).bind fun t142 => (if t142 < 0 then (some (-1)) else (some t142))) = some r := h
  clear h
  replace H := Option.bind_eq_some_iff.mp H
  obtain ⟨t142, A30, H⟩ := H
  replace H : (if t142 < 0 then (some (-1)) else (some t142)) = some r := H
  have A3 := Aside0.mk A30
  clear A30
  by_cases c4 : t142 < 0
  · rw [if_pos c4] at H
    have c4b0 : decide (t142 < 0) = true := decide_eq_true c4
    clear c4
    obtain rfl := Option.some.inj H
    go_enter Try.func16, Try.ntmps16
    go_wp2_with (first | ((with_reducible refine gate_dst (N := 2) rfl ?_); refine box_event ?hg (N := 2) ?hd (cs := #[.int .i64 a0_0, .slice A0_1 l0_1.length c0_1]) (t := 28) ?hr ?_; (case hd => rfl); (case hg => rfl); (case hr => first | (go_simp; done) | (go_simp; rfl)); intro gb141 hg w5 hbox hb; have n0_ := Aside0.mk (below_step (by repeat (first | (with_reducible first | exact HB.out | apply below_alloc | apply pw_below_drewN | apply below_drew1) | exact HB.out)) hb); have n1_ := Aside0.mk (hbox); have n2_ := Aside0.mk ((by rw [hg]; exact (below_size (by repeat (first | (with_reducible first | exact HB.out | apply below_alloc | apply pw_below_drewN | apply below_drew1) | exact HB.out))) : w.heap.size ≤ gb141)); have n3_ := Aside0.mk ((by rw [hg]; exact (below_size (by repeat (first | (with_reducible first | exact HB.out | apply below_alloc | apply pw_below_drewN | apply below_drew1) | exact HB.out))) : w.heap.size ≤ gb141)); clear HB; have HB := n0_; have BK141 := n1_; have GW141 := n2_; have GE141 := n3_; clear n0_ n1_ n2_ n3_; clear hb hbox hg; have hcz6_0 : w5.cell? ⟨gb141, 0, none⟩ = some (.int .i64 a0_0) := (blk_cell BK141.out 0).trans rfl; have hcz6_1 : w5.cell? ⟨gb141, 1, none⟩ = some (.slice A0_1 l0_1.length c0_1) := (blk_cell BK141.out 1).trans rfl; have hfz6_0 := blk_frozen BK141.out 0; have hfz6_1 := blk_frozen BK141.out 1) | ((with_reducible refine gate_callee (f := 41) rfl ?_); refine goesL_ (some 8) rfl rfl Try.func41 (by kernel_rfl) rfl #[.slice A0_1 l0_1.length c0_1, .int .i64 a1] rfl (by (try simp only [List.map_toArray, List.map_cons, List.map_nil]); first | done | rfl | (simp only [List.length_drop, List.length_take]; rfl)) ?_; (with_reducible refine (laws_heldInt64S.calls k _ _ l0_1 a1 t142 _ ?side1 ?side2 A3.out).mono ?_); (case side1 => repeat (first | exact (Kd.C_below HR0_1.out HB.out) | (with_reducible refine Kd.C_alloc ?_ _) | (with_reducible refine Kd.C_drewN ?_ _) | (with_reducible refine Kd.C_drew ?_))); (case side2 => exact HC0_1.out); rintro e w' ⟨rfl, ⟨nd, rfl⟩⟩; refine ⟨_, rfl, ?_⟩))
    go_ret
    exact ⟨by first | rfl | (simp [errW_none, errW_some] <;> rfl) | (simp [*, errW_none, errW_some] <;> rfl), by repeat (first | (with_reducible first | exact HB.out | apply below_alloc | apply pw_below_drewN | apply below_drew1 | refine below_set ?_ GE141.out) | exact HB.out)⟩
  · rw [if_neg c4] at H
    have c4b0 : decide (t142 < 0) = false := decide_eq_false c4
    clear c4
    obtain rfl := Option.some.inj H
    go_enter Try.func16, Try.ntmps16
    go_wp2_with (first | ((with_reducible refine gate_dst (N := 2) rfl ?_); refine box_event ?hg (N := 2) ?hd (cs := #[.int .i64 a0_0, .slice A0_1 l0_1.length c0_1]) (t := 28) ?hr ?_; (case hd => rfl); (case hg => rfl); (case hr => first | (go_simp; done) | (go_simp; rfl)); intro gb141 hg w7 hbox hb; have n0_ := Aside0.mk (below_step (by repeat (first | (with_reducible first | exact HB.out | apply below_alloc | apply pw_below_drewN | apply below_drew1) | exact HB.out)) hb); have n1_ := Aside0.mk (hbox); have n2_ := Aside0.mk ((by rw [hg]; exact (below_size (by repeat (first | (with_reducible first | exact HB.out | apply below_alloc | apply pw_below_drewN | apply below_drew1) | exact HB.out))) : w.heap.size ≤ gb141)); have n3_ := Aside0.mk ((by rw [hg]; exact (below_size (by repeat (first | (with_reducible first | exact HB.out | apply below_alloc | apply pw_below_drewN | apply below_drew1) | exact HB.out))) : w.heap.size ≤ gb141)); clear HB; have HB := n0_; have BK141 := n1_; have GW141 := n2_; have GE141 := n3_; clear n0_ n1_ n2_ n3_; clear hb hbox hg; have hcz8_0 : w7.cell? ⟨gb141, 0, none⟩ = some (.int .i64 a0_0) := (blk_cell BK141.out 0).trans rfl; have hcz8_1 : w7.cell? ⟨gb141, 1, none⟩ = some (.slice A0_1 l0_1.length c0_1) := (blk_cell BK141.out 1).trans rfl; have hfz8_0 := blk_frozen BK141.out 0; have hfz8_1 := blk_frozen BK141.out 1) | ((with_reducible refine gate_callee (f := 41) rfl ?_); refine goesL_ (some 8) rfl rfl Try.func41 (by kernel_rfl) rfl #[.slice A0_1 l0_1.length c0_1, .int .i64 a1] rfl (by (try simp only [List.map_toArray, List.map_cons, List.map_nil]); first | done | rfl | (simp only [List.length_drop, List.length_take]; rfl)) ?_; (with_reducible refine (laws_heldInt64S.calls k _ _ l0_1 a1 t142 _ ?side1 ?side2 A3.out).mono ?_); (case side1 => repeat (first | exact (Kd.C_below HR0_1.out HB.out) | (with_reducible refine Kd.C_alloc ?_ _) | (with_reducible refine Kd.C_drewN ?_ _) | (with_reducible refine Kd.C_drew ?_))); (case side2 => exact HC0_1.out); rintro e w' ⟨rfl, ⟨nd, rfl⟩⟩; refine ⟨_, rfl, ?_⟩))
    go_ret
    exact ⟨by first | rfl | (simp [errW_none, errW_some] <;> rfl) | (simp [*, errW_none, errW_some] <;> rfl), by repeat (first | (with_reducible first | exact HB.out | apply below_alloc | apply pw_below_drewN | apply below_drew1 | refine below_set ?_ GE141.out) | exact HB.out)⟩

end Go.Proofs.Ytnpgmkikdnlnaaa.X

/- The shifting counters in plain numbers: what the program's ways and the reference's tell of each state is alike. Conditions: as each lemma says. -/
namespace Go.Proofs.Ytnpgmkikdnlnaaa.X
open Go.RowKit Go.Proofs.YtnpgmkikdnlnaaaW.PrintWords Go.Proofs.YtnpgmkikdnlnaaaW.PrintLast Go.Proofs.YtnpgmkikdnlnaaaW.PrintMore
set_option linter.unusedVariables false
set_option linter.unusedSimpArgs false

theorem within_eq (a b c : Int) : impl_within.f a b c = some (decide (b ≤ a ∧ a ≤ c)) := by
  unfold impl_within.f; by_cases h : a ≥ b <;> simp [h] <;> omega
theorem l00In_eq (a b c : Int) : spec_l00In.f a b c = some (decide (b ≤ a ∧ a ≤ c)) := by
  unfold spec_l00In.f; by_cases h : a ≥ b <;> simp [h] <;> omega
theorem bits_eq (b : Int) : impl_isBits.f b = some (decide (1 ≤ b ∧ b ≤ 8)) := by unfold impl_isBits.f; simp [within_eq]
theorem sbits_eq (b : Int) : spec_l02Bits.f b = some (decide (1 ≤ b ∧ b ≤ 8)) := by unfold spec_l02Bits.f; simp [l00In_eq]

theorem join_dec : ∀ b < 9, 1 ≤ b → ∀ x < 256, ∀ i < 2, Go.bits .or .i64 (Go.bits .and .i64 (wrap64 ((x : Nat) * 2 : Int)) (wrap64 (((2 ^ (b : Nat) : Nat) : Int) - 1))) ((i : Nat) : Int) = (((2 * x) % 2 ^ b + i : Nat) : Int) := by decide +kernel
theorem ones_dec : ∀ x < 256, ∃ o ∈ List.range 9, spec_l02Ones.f 20 ((x : Nat) : Int) = some (o : Int) ∧ impl_onesOf.f x = some (o : Int) := by decide +kernel
theorem high_dec : ∀ b < 9, 1 ≤ b → ∀ x < 256, Go.bits .and .i64 (shr .i64 ((x : Nat) : Int) (IntKind.u64.wrap (wrap64 (((b : Nat) : Int) - 1)))) 1 = ((x / 2 ^ (b - 1) % 2 : Nat) : Int) := by decide +kernel
theorem size_dec : ∀ b < 9, 1 ≤ b → spec_l02Size.f ((b : Nat) : Int) = some ((2 ^ b : Nat) : Int) ∧ shl .i64 1 ((b : Nat) : Int) = ((2 ^ b : Nat) : Int) ∧ 2 ^ b ≤ 256 := by decide +kernel
theorem wrap_small (n : Int) (h0 : 0 ≤ n) (h1 : n < 2 ^ 8) : IntKind.i64.wrap n = n := IntWalk.i64_in _ ⟨by omega, by omega⟩
theorem and_small (x t : Nat) (hx : x < 256) (ht : t < 256) : Go.bits .and .i64 ((x : Nat) : Int) ((t : Nat) : Int) = ((x &&& t : Nat) : Int) ∧ x &&& t < 256 :=
  ⟨(bits_nat .i64 8 (by decide) wrap_small x t hx ht).1, Nat.lt_of_le_of_lt Nat.and_le_left hx⟩
theorem top_dec : ∀ b < 9, 1 ≤ b → ∀ x < 2 ^ b, x / 2 ^ (b - 1) < 2 := by decide +kernel
/-- The state that follows when the bits are moved, and a bit comes in. -/
def nxt (b x i : Nat) : Nat := (2 * x) % 2 ^ b + i
def lst (b : Nat) (inn : Nat → Nat) (n : Nat) : List Int := (List.range n).map fun (x : Nat) => ((nxt b x (inn x) : Nat) : Int)
theorem lst_len (b : Nat) (inn : Nat → Nat) (n : Nat) : (lst b inn n).length = n := by simp [lst]
theorem lst_succ (b : Nat) (inn : Nat → Nat) (n : Nat) : lst b inn (n + 1) = lst b inn n ++ [((nxt b n (inn n) : Nat) : Int)] := by simp [lst, List.range_succ]
theorem mono_add {α : Type} (f : Nat → Option α) (hm : ∀ k, LeO (f k) (f (k + 1))) (k d : Nat) (r : α) (h : f k = some r) : f (k + d) = some r := by
  induction d with
  | zero => exact h
  | succ d ih => exact hm _ _ ih

theorem moved_eq (b x i : Nat) (hb : b < 9) (hb1 : 1 ≤ b) (hx : x < 2 ^ b) (hi : i < 2) : impl_moved.f b x i = some ((nxt b x i : Nat) : Int) := by
  obtain ⟨_, hs, hl⟩ := size_dec b hb hb1
  have hp : 0 < 2 ^ b := Nat.two_pow_pos b
  unfold impl_moved.f
  have h1 : ¬ (((2 ^ b : Nat) : Int) = 0) := by omega
  have hm := Nat.mod_lt (2 * x) hp
  rw [if_pos (by omega), hs, if_neg h1, w64 (n := 2 * (x : Int)) (by omega) (by omega), tmodp (by omega)]
  have e : (2 * (x : Int)) % ((2 ^ b : Nat) : Int) = (((2 * x) % 2 ^ b : Nat) : Int) := by simp
  rw [e, w64 (by omega) (by omega)]
  simp [nxt]

/-- The program's way: whatever tells the states that follow. -/
theorem by_loop [C_impl_counterBy] (b : Nat) (inn : Nat → Nat) (n : Nat) (hn : n ≤ 256) (bi : Int) (hc : ∀ x, x < n → C_impl_counterBy.f ((x : Nat) : Int) = some ((nxt b x (inn x) : Nat) : Int)) :
    ∀ (d k i : Nat), i + d = n → d < k → impl_counterBy.l0 k n i bi (lst b inn i) = some (bi, lst b inn n, true)
  | 0, k, i, hi, hk => by
    cases k with
    | zero => omega
    | succ k => rw [impl_counterBy.l0, if_neg (by omega), show i = n by omega]
  | d + 1, k, i, hi, hk => by
    cases k with
    | zero => omega
    | succ k =>
      have ih := by_loop b inn n hn bi hc d k (i + 1) (by omega) (by omega)
      rw [impl_counterBy.l0, if_pos (by omega), hc i (by omega), Option.bind_some, if_pos (by rw [lst_len]; omega), w64 (by omega) (by omega), ← lst_succ]
      rw [Int.natCast_add, Int.natCast_one] at ih
      exact ih
theorem by_eq [C_impl_counterBy] (b : Nat) (hb : b < 9) (hb1 : 1 ≤ b) (inn : Nat → Nat) (k : Nat) (hk : 256 < k) (hc : ∀ x, x < 2 ^ b → C_impl_counterBy.f ((x : Nat) : Int) = some ((nxt b x (inn x) : Nat) : Int)) :
    impl_counterBy.f k b 0 = some ((b : Int), lst b inn (2 ^ b), true) := by
  obtain ⟨_, hs, hl⟩ := size_dec b hb hb1
  unfold impl_counterBy.f
  rw [bits_eq, Option.bind_some, decide_eq_true (by omega), if_pos rfl, if_pos (by omega), hs]
  exact by_loop b inn (2 ^ b) hl b hc (2 ^ b) k 0 (by omega) (by omega)
theorem by_no [C_impl_counterBy] (b : Int) (hb : ¬ (1 ≤ b ∧ b ≤ 8)) (k : Nat) : impl_counterBy.f k b 0 = some (0, [], false) := by
  unfold impl_counterBy.f
  rw [bits_eq, Option.bind_some, decide_eq_false hb]; simp

/-- The reference's way. -/
theorem shift_loop (b : Nat) (hb : b < 9) (hb1 : 1 ≤ b) (kind : Int) (taps : Nat) (ht : taps < 256) (inn : Nat → Nat) (hin : ∀ x, x < 2 ^ b → inn x < 2)
    (h0 : kind ≠ 2 → ∀ x, x < 2 ^ b → (if kind = 1 then wrap64 (1 - ((x / 2 ^ (b - 1) % 2 : Nat) : Int)) else ((x / 2 ^ (b - 1) % 2 : Nat) : Int)) = ((inn x : Nat) : Int))
    (h2 : kind = 2 → ∀ x : Nat, x < 2 ^ b → ∃ o : Nat, spec_l02Ones.f 20 (Go.bits .and .i64 (x : Int) (taps : Int)) = some (o : Int) ∧ o % 2 = inn x) :
    ∀ (d k i : Nat), i + d = 2 ^ b → 2 * d + 25 < k → spec_l02Shift.l0 k b kind taps i b (lst b inn i) = some ((b : Int), lst b inn (2 ^ b))
  | 0, k, i, hi, hk => by
    obtain ⟨hs, _, hl⟩ := size_dec b hb hb1
    cases k with
    | zero => omega
    | succ k => rw [spec_l02Shift.l0, hs, Option.bind_some, if_neg (by omega), show i = 2 ^ b by omega]
  | d + 1, k, i, hi, hk => by
    obtain ⟨hs, _, hl⟩ := size_dec b hb hb1
    obtain ⟨k, rfl⟩ : ∃ m, k = m + 1 + 1 := ⟨k - 2, by omega⟩
    have ih := shift_loop b hb hb1 kind taps ht inn hin h0 h2 d k (i + 1) (by omega) (by omega)
    rw [Int.natCast_add, Int.natCast_one] at ih
    have hw : IntKind.u64.wrap (wrap64 ((b : Int) - 1)) = (b : Int) - 1 := by rw [w64 (by omega) (by omega)]; exact IntWalk.u64_in _ ⟨by omega, by omega⟩
    have hh := high_dec b hb hb1 i (by omega)
    have hj := join_dec b hb hb1 i (by omega) (inn i) (hin i (by omega))
    have step : ∀ y : Int, y = ((inn i : Nat) : Int) → (if (lst b inn i).length < 17592186044416 then spec_l02Shift.l0 k b kind taps (wrap64 ((i : Int) + 1)) b (lst b inn i ++ [Go.bits .or .i64 (Go.bits .and .i64 (wrap64 ((i : Int) * 2)) (wrap64 (((2 ^ b : Nat) : Int) - 1))) y]) else none) = some ((b : Int), lst b inn (2 ^ b)) := by
      intro y hy
      rw [hy, if_pos (by rw [lst_len]; omega), hj, show (2 * i) % 2 ^ b + inn i = nxt b i (inn i) from rfl, ← lst_succ, w64 (by omega) (by omega)]
      exact ih
    rw [spec_l02Shift.l0, hs, Option.bind_some, if_pos (by omega), if_pos (by rw [hw]; omega), hh]
    by_cases hk1 : kind = 1
    · rw [if_pos hk1, spec_l02Shift.j1, if_neg (by omega), hs, Option.bind_some]
      have := h0 (by omega) i (by omega)
      rw [if_pos hk1] at this
      exact step _ this
    · rw [if_neg hk1, spec_l02Shift.j1]
      by_cases hk2 : kind = 2
      · obtain ⟨o, ho, hp⟩ := h2 hk2 i (by omega)
        have ho2 : spec_l02Ones.f k (Go.bits .and .i64 (i : Int) (taps : Int)) = some (o : Int) := by
          have := mono_add (fun k => spec_l02Ones.f k (Go.bits .and .i64 (i : Int) (taps : Int))) (fun k => spec_l02Ones.mono _ k) 20 (k - 20) _ ho
          rwa [show 20 + (k - 20) = k by omega] at this
        rw [if_pos hk2, ho2, Option.bind_some, hs, Option.bind_some]
        refine step _ ?_
        rw [tmodp (by omega), ← hp]; simp
      · rw [if_neg hk2, hs, Option.bind_some]
        have := h0 hk2 i (by omega)
        rw [if_neg hk1] at this
        exact step _ this
theorem shift_eq (b : Nat) (hb : b < 9) (hb1 : 1 ≤ b) (kind : Int) (taps : Nat) (ht : taps < 256) (inn : Nat → Nat) (hin : ∀ x, x < 2 ^ b → inn x < 2)
    (h0 : kind ≠ 2 → ∀ x, x < 2 ^ b → (if kind = 1 then wrap64 (1 - ((x / 2 ^ (b - 1) % 2 : Nat) : Int)) else ((x / 2 ^ (b - 1) % 2 : Nat) : Int)) = ((inn x : Nat) : Int))
    (h2 : kind = 2 → ∀ x : Nat, x < 2 ^ b → ∃ o : Nat, spec_l02Ones.f 20 (Go.bits .and .i64 (x : Int) (taps : Int)) = some (o : Int) ∧ o % 2 = inn x) (k : Nat) (hk : 600 < k) :
    spec_l02Shift.f k b kind taps = some ((b : Int), lst b inn (2 ^ b)) := by
  obtain ⟨_, _, hl⟩ := size_dec b hb hb1
  unfold spec_l02Shift.f
  exact shift_loop b hb hb1 kind taps ht inn hin h0 h2 (2 ^ b) k 0 (by omega) (by omega)

/-- Counters that are held against each other, marked, and held against their marks. -/
theorem eqC (k : Nat) (b : Int) (l : List Int) (hl : l.length ≤ 256) (hk : 256 < k) : laws_eqCounter.f k b l b l = some true := by
  unfold laws_eqCounter.f; rw [if_pos rfl, eqInt64S_refl k l (by omega) (by omega)]; rfl
theorem markC (k : Nat) (b : Int) (l : List Int) (hl : l.length ≤ 256) (hk : 256 < k) : laws_markCounter.f k b l 1 = some (1 + (l.length : Int), iota 1 l.length) := by
  unfold laws_markCounter.f; rw [markInt64S_eq k l 1 (by omega) (by omega) (by omega) (by omega)]; rfl
theorem heldC (k : Nat) (b : Int) (n : Nat) (hn : n ≤ 256) (hk : 256 < k) : laws_heldCounter.f k b (iota 1 n) 1 = some (1 + (n : Int)) := by
  unfold laws_heldCounter.f; rw [heldInt64S_eq k 1 n (by omega) (by omega) (by omega) (by omega), Option.bind_some, if_neg (by omega)]
end Go.Proofs.Ytnpgmkikdnlnaaa.X

-- Written by a program of this session out of the kit's print of the loaded functions: a plain function of a Go function, and its contract.
namespace Go.Proofs.Ytnpgmkikdnlnaaa.X
open Go.RowKit Go.Proofs.YtnpgmkikdnlnaaaW.PrintWords Go.Proofs.YtnpgmkikdnlnaaaW.PrintLast Go.Proofs.YtnpgmkikdnlnaaaW.PrintMore
attribute [local go_sem] max2_int min2_int max_two min_two max_three min_three max_four min_four   -- for this text's walks alone
set_option linter.unusedVariables false
set_option linter.unusedSimpArgs false

/-! ### laws_r8Long: function 8 -/
def laws_r8Long.f (l0 : List Int) (l1 : List Int) : Option (Bool) := if (l0.length : Int) > 48 then (some true) else (some (decide ((l1.length : Int) > 48)))
set_option maxHeartbeats 8000000 in
set_option maxRecDepth 100000 in
theorem laws_r8Long.calls (A0 : Option Addr) (c0 : Nat) (l0 : List Int) (A1 : Option Addr) (c1 : Nat) (l1 : List Int) (r : Bool) (w : World) (hr0 : Kd.C (Kd.int .u8) w A0 l0.length l0) (hc0 : l0.length ≤ c0) (hr1 : Kd.C (Kd.int .u8) w A1 l1.length l1) (hc1 : l1.length ≤ c1) (h : laws_r8Long.f l0 l1 = some r) :
    Calls Try.prog 8 #[.slice A0 l0.length c0, .slice A1 l1.length c1] w fun e w' => e = .returned (.bool r) ∧ Drawn0 w w' := by
  have HR0 := Aside0.mk hr0
  have HC0 := Aside0.mk hc0
  clear hr0 hc0
  have HR1 := Aside0.mk hr1
  have HC1 := Aside0.mk hc1
  clear hr1 hc1
  have H : (if (l0.length : Int) > 48 then (some true) else (some (decide ((l1.length : Int) > 48)))) = some r := h
  clear h
  by_cases c3 : (l0.length : Int) > 48
  · rw [if_pos c3] at H
    have c3b0 : decide (48 < (l0.length : Int)) = true := decide_eq_true c3
    have c3b1 : decide (48 < l0.length) = true := decide_eq_true (by omega)
    clear c3
    obtain rfl := Option.some.inj H
    go_enter Try.func8, Try.ntmps8
    go_wp2
    go_ret
    exact ⟨by first | rfl | (simp; done) | (simp [*]; done), by repeat (first | exact Drawn0.refl _ | apply Drawn0.step)⟩
  · rw [if_neg c3] at H
    have c3b0 : decide (48 < (l0.length : Int)) = false := decide_eq_false c3
    have c3b1 : decide (48 < l0.length) = false := decide_eq_false (by omega)
    clear c3
    obtain rfl := Option.some.inj H
    go_enter Try.func8, Try.ntmps8
    go_wp2
    go_ret
    exact ⟨by first | rfl | (simp; done) | (simp [*]; done), by repeat (first | exact Drawn0.refl _ | apply Drawn0.step)⟩

end Go.Proofs.Ytnpgmkikdnlnaaa.X

-- Written by a program of this session out of the kit's print of the loaded functions: a plain function of a Go function, and its contract.
namespace Go.Proofs.Ytnpgmkikdnlnaaa.X
open Go.RowKit Go.Proofs.YtnpgmkikdnlnaaaW.PrintWords Go.Proofs.YtnpgmkikdnlnaaaW.PrintLast Go.Proofs.YtnpgmkikdnlnaaaW.PrintMore
attribute [local go_sem] max2_int min2_int max_two min_two max_three min_three max_four min_four   -- for this text's walks alone
set_option linter.unusedVariables false
set_option linter.unusedSimpArgs false

/-! ### laws_r8At: function 9 -/
def laws_r8At.f (l0 : List Int) (a1 : Int) (a2 : Int) : Option (Int) := if a2 ≤ 1 then (some 0) else (if a1 ≥ (l0.length : Int) then (some 0) else (if 0 ≤ a1 then (if a1 < (l0.length : Int) then (if a2 = 0 then (none) else (some (Int.tmod (wrap64 (rd l0 a1)) a2))) else (none)) else (none)))
set_option maxHeartbeats 8000000 in
set_option maxRecDepth 100000 in
theorem laws_r8At.calls (A0 : Option Addr) (c0 : Nat) (l0 : List Int) (a1 : Int) (a2 : Int) (r : Int) (w : World) (hr0 : Kd.C (Kd.int .u8) w A0 l0.length l0) (hc0 : l0.length ≤ c0) (h : laws_r8At.f l0 a1 a2 = some r) :
    Calls Try.prog 9 #[.slice A0 l0.length c0, .int .i64 a1, .int .i64 a2] w fun e w' => e = .returned (.int .i64 r) ∧ Drawn0 w w' := by
  have HR0 := Aside0.mk hr0
  have HC0 := Aside0.mk hc0
  clear hr0 hc0
  have H : (if a2 ≤ 1 then (some 0) else (if a1 ≥ (l0.length : Int) then (some 0) else (if 0 ≤ a1 then (if a1 < (l0.length : Int) then (if a2 = 0 then (none) else (some (Int.tmod (wrap64 (rd l0 a1)) a2))) else (none)) else (none)))) = some r := h
  clear h
  by_cases c4 : a2 ≤ 1
  · rw [if_pos c4] at H
    have c4b0 : decide (a2 ≤ 1) = true := decide_eq_true c4
    clear c4
    obtain rfl := Option.some.inj H
    go_enter Try.func9, Try.ntmps9
    go_wp2
    go_ret
    exact ⟨by first | rfl | (simp; done) | (simp [*]; done), by repeat (first | exact Drawn0.refl _ | apply Drawn0.step)⟩
  · rw [if_neg c4] at H
    have c4b0 : decide (a2 ≤ 1) = false := decide_eq_false c4
    clear c4
    by_cases c5 : a1 ≥ (l0.length : Int)
    · rw [if_pos c5] at H
      have c5b0 : decide ((l0.length : Int) ≤ a1) = true := decide_eq_true c5
      clear c5
      obtain rfl := Option.some.inj H
      go_enter Try.func9, Try.ntmps9
      go_wp2
      go_ret
      exact ⟨by first | rfl | (simp; done) | (simp [*]; done), by repeat (first | exact Drawn0.refl _ | apply Drawn0.step)⟩
    · rw [if_neg c5] at H
      have c5b0 : decide ((l0.length : Int) ≤ a1) = false := decide_eq_false c5
      clear c5
      by_cases c6 : 0 ≤ a1
      · rw [if_pos c6] at H
        have c6b0 : decide (0 ≤ a1) = true := decide_eq_true c6
        clear c6
        by_cases c7 : a1 < (l0.length : Int)
        · rw [if_pos c7] at H
          have c7b0 : decide (a1 < (l0.length : Int)) = true := decide_eq_true c7
          clear c7
          by_cases c8 : a2 = 0
          · rw [if_pos c8] at H
            exact absurd H (by simp)
          · rw [if_neg c8] at H
            have c8b0 : (a2 == 0) = false := beq_eq_false_iff_ne.mpr c8
            have c8b1 : (a2 != 0) = true := bne_iff_ne.mpr c8
            obtain rfl := Option.some.inj H
            have p232 : 0 ≤ (a1 : Int) := of_decide_eq_true (by first | (with_reducible assumption) | assumption)
            have q232 : a1 < (l0.length : Int) := of_decide_eq_true (by first | (with_reducible assumption) | assumption)
            obtain ⟨ad232, e232, hx232_0⟩ := Kd.at_int HR0.out a1 p232 q232
            cases e232
            replace p232 := eq_true p232
            replace q232 := eq_true q232
            go_enter Try.func9, Try.ntmps9
            go_wp2
            go_ret
            exact ⟨by first | rfl | (simp; done) | (simp [*]; done), by repeat (first | exact Drawn0.refl _ | apply Drawn0.step)⟩
        · rw [if_neg c7] at H
          exact absurd H (by simp)
      · rw [if_neg c6] at H
        exact absurd H (by simp)

end Go.Proofs.Ytnpgmkikdnlnaaa.X

-- Written by a program of this session out of the kit's print of the loaded functions: a plain function of a Go function, and its contract.
namespace Go.Proofs.Ytnpgmkikdnlnaaa.X
open Go.RowKit Go.Proofs.YtnpgmkikdnlnaaaW.PrintWords Go.Proofs.YtnpgmkikdnlnaaaW.PrintLast Go.Proofs.YtnpgmkikdnlnaaaW.PrintMore
attribute [local go_sem] max2_int min2_int max_two min_two max_three min_three max_four min_four   -- for this text's walks alone
set_option linter.unusedVariables false
set_option linter.unusedSimpArgs false

class C_slices_IndexFunc_int64_int64 where
  f : Int → Option Bool
section
variable [C_slices_IndexFunc_int64_int64]
/-! ### slices_IndexFunc_int64_int64: function 54 -/
def slices_IndexFunc_int64_int64.l0 : Nat → List Int → Int → Int → Option (Int)
  | 0, _, _, _ => none
  | k + 1, x0, x7, x8 => if x8 < x7 then (if 0 ≤ x8 then (if x8 < (x0.length : Int) then ((C_slices_IndexFunc_int64_int64.f (rd x0 x8)).bind fun t234 => (if t234 = true then (some x8) else (slices_IndexFunc_int64_int64.l0 k x0 x7 (wrap64 (x8 + 1))))) else (none)) else (none)) else (some (-1))
def slices_IndexFunc_int64_int64.f (k : Nat) (l0 : List Int) (a1 : Int) : Option (Int) := slices_IndexFunc_int64_int64.l0 k l0 (l0.length : Int) 0
theorem slices_IndexFunc_int64_int64.mono_l : ∀ k, (∀ y0 y1 y2, LeO (slices_IndexFunc_int64_int64.l0 k y0 y1 y2) (slices_IndexFunc_int64_int64.l0 (k + 1) y0 y1 y2))
  | 0 => fun _ _ _ r h => by simp [slices_IndexFunc_int64_int64.l0] at h
  | k + 1 => by
    have ih0 := slices_IndexFunc_int64_int64.mono_l k
    · intro y0 y1 y2
      unfold slices_IndexFunc_int64_int64.l0
      repeat' first
      | (with_reducible exact ih0 _ _ _)
      | (with_reducible exact LeO.refl _)
      | (with_reducible exact LeO.none _)
      | (with_reducible refine LeO.ite ?_ ?_)
      | (with_reducible refine LeO.bind ?_ (fun _ => ?_))
      | exact ih0 _ _ _
      | exact LeO.none _
      | refine LeO.ite ?_ ?_
      | refine LeO.bind ?_ (fun _ => ?_)
theorem slices_IndexFunc_int64_int64.mono : ∀ a0 a1 k, LeO (slices_IndexFunc_int64_int64.f k a0 a1) (slices_IndexFunc_int64_int64.f (k + 1) a0 a1) := by
  intro a0 a1 k
  have ih0 := slices_IndexFunc_int64_int64.mono_l k
  unfold slices_IndexFunc_int64_int64.f
  repeat' first
      | (with_reducible exact ih0 _ _ _)
      | (with_reducible exact LeO.refl _)
      | (with_reducible exact LeO.none _)
      | (with_reducible refine LeO.ite ?_ ?_)
      | (with_reducible refine LeO.bind ?_ (fun _ => ?_))
      | exact ih0 _ _ _
      | exact LeO.none _
      | refine LeO.ite ?_ ?_
      | refine LeO.bind ?_ (fun _ => ?_)
set_option maxHeartbeats 8000000 in
set_option maxRecDepth 100000 in
theorem slices_IndexFunc_int64_int64.calls (k : Nat) (A0 : Option Addr) (c0 : Nat) (l0 : List Int) (a1 : Int) (r : Int) (cf : Nat) (cfn : Func) (caps : Array Value) (hcf : CloIs Try.prog cf cfn) (w : World) (hcl : ∀ x r W, C_slices_IndexFunc_int64_int64.f x = some r → Below w.heap.size w W → Calls Try.prog cf (#[.int .i64 x] ++ caps) W fun e w' => e = .returned (.bool r) ∧ Drawn0 W w') (hr0 : Kd.C (Kd.int .i64) w A0 l0.length l0) (hc0 : l0.length ≤ c0) (h : slices_IndexFunc_int64_int64.f k l0 a1 = some r) :
    Calls Try.prog 54 #[.slice A0 l0.length c0, .func (.func cf) #[] caps] w fun e w' => e = .returned (.int .i64 r) ∧ Drawn0 w w' := by
  have HCF := Aside0.mk hcf
  have HCL := Aside0.mk hcl
  clear hcf hcl
  have HR0 := Aside0.mk hr0
  have HC0 := Aside0.mk hc0
  clear hr0 hc0
  have H : (slices_IndexFunc_int64_int64.l0 k l0 (l0.length : Int) 0) = some r := h
  clear h
  have H' := Aside0.mk H
  clear H
  go_enter Try.func54, Try.ntmps54
  go_wp2
  go_loopg [8] k (fun kq v8 w' => ∃ (x8_1 : Int), v8 = .int .i64 x8_1 ∧ Aside0 (slices_IndexFunc_int64_int64.l0 kq l0 (l0.length : Int) x8_1 = some r) ∧ Aside0 (kq ≤ k) ∧ Drawn0 w w')
  case atStart => exact ⟨(0), (by first | rfl | (simp; done) | (simp [*]; done)), H', ⟨Nat.le_refl _⟩, by repeat (first | exact Drawn0.refl _ | apply Drawn0.step)⟩
  case round =>
    clear H'
    try clear p2
    obtain ⟨x8_1, rfl, HA, HK1, ⟨m1, rfl⟩⟩ := hrel
    cases gk with
    | zero => exact absurd HA.out (by simp [slices_IndexFunc_int64_int64.l0])
    | succ k1 =>
      have H := HA.out
      clear HA
      simp only [slices_IndexFunc_int64_int64.l0] at H
      by_cases c3 : x8_1 < (l0.length : Int)
      · rw [if_pos c3] at H
        have c3b0 : decide (x8_1 < (l0.length : Int)) = true := decide_eq_true c3
        clear c3
        by_cases c4 : 0 ≤ x8_1
        · rw [if_pos c4] at H
          have c4b0 : decide (0 ≤ x8_1) = true := decide_eq_true c4
          clear c4
          by_cases c5 : x8_1 < (l0.length : Int)
          · rw [if_pos c5] at H
            have c5b0 : decide (x8_1 < (l0.length : Int)) = true := decide_eq_true c5
            clear c5
            replace H := Option.bind_eq_some_iff.mp H
            obtain ⟨t234, A60, H⟩ := H
            replace H : (if t234 = true then (some x8_1) else (slices_IndexFunc_int64_int64.l0 k1 l0 (l0.length : Int) (wrap64 (x8_1 + 1)))) = some r := H
            have A6 := Aside0.mk A60
            clear A60
            by_cases c7 : t234 = true
            · subst c7
              have H1 : (some x8_1) = some r := by rw [if_pos rfl] at H; exact H
              clear H
              have H := H1
              clear H1
              obtain rfl := Option.some.inj H
              have p233 : 0 ≤ (x8_1 : Int) := of_decide_eq_true (by first | (with_reducible assumption) | assumption)
              have q233 : x8_1 < (l0.length : Int) := of_decide_eq_true (by first | (with_reducible assumption) | assumption)
              obtain ⟨ad233, e233, hx233_0⟩ := Kd.at_int HR0.out x8_1 p233 q233
              cases e233
              replace p233 := eq_true p233
              replace q233 := eq_true q233
              go_wp2_with (first | ((with_reducible refine gate_dst (N := 16) rfl ?_); refine goesV_ (some 16) rfl rfl HCF.out.hf HCF.out.hname HCF.out.hb #[.int .i64 (rd l0 x8_1)] rfl rfl (by (try simp only [List.map_toArray, List.map_cons, List.map_nil]); first | done | rfl | (simp only [List.length_drop, List.length_take]; rfl)) ?_; (refine (HCL.out (rd l0 x8_1) true _ A6.out (by repeat (first | (with_reducible first | exact HB.out | apply below_alloc | apply pw_below_drewN | apply below_drew1) | exact HB.out | exact Below.refl _ _))).mono ?_); rintro e w' ⟨rfl, ⟨nd, rfl⟩⟩; refine ⟨_, rfl, ?_⟩))
              go_ret
              exact ⟨by first | rfl | (simp; done) | (simp [*]; done), by repeat (first | exact Drawn0.refl _ | apply Drawn0.step)⟩
            · replace c7 := Bool.eq_false_iff.mpr c7
              subst c7
              have H1 : (slices_IndexFunc_int64_int64.l0 k1 l0 (l0.length : Int) (wrap64 (x8_1 + 1))) = some r := by rw [if_neg (show ¬ (false = true) by decide)] at H; exact H
              clear H
              have H := H1
              clear H1
              have H' := Aside0.mk H
              clear H
              have p233 : 0 ≤ (x8_1 : Int) := of_decide_eq_true (by first | (with_reducible assumption) | assumption)
              have q233 : x8_1 < (l0.length : Int) := of_decide_eq_true (by first | (with_reducible assumption) | assumption)
              obtain ⟨ad233, e233, hx233_0⟩ := Kd.at_int HR0.out x8_1 p233 q233
              cases e233
              replace p233 := eq_true p233
              replace q233 := eq_true q233
              go_wp2_with (first | ((with_reducible refine gate_dst (N := 16) rfl ?_); refine goesV_ (some 16) rfl rfl HCF.out.hf HCF.out.hname HCF.out.hb #[.int .i64 (rd l0 x8_1)] rfl rfl (by (try simp only [List.map_toArray, List.map_cons, List.map_nil]); first | done | rfl | (simp only [List.length_drop, List.length_take]; rfl)) ?_; (refine (HCL.out (rd l0 x8_1) false _ A6.out (by repeat (first | (with_reducible first | exact HB.out | apply below_alloc | apply pw_below_drewN | apply below_drew1) | exact HB.out | exact Below.refl _ _))).mono ?_); rintro e w' ⟨rfl, ⟨nd, rfl⟩⟩; refine ⟨_, rfl, ?_⟩))
              go_roundg k1
              case measure => have := HK1.out; omega
              case rel => exact ⟨(wrap64 (x8_1 + 1)), (by first | rfl | (simp; done) | (simp [*]; done)), H', ⟨by have := HK1.out; omega⟩, by repeat (first | exact Drawn0.refl _ | apply Drawn0.step)⟩
          · rw [if_neg c5] at H
            exact absurd H (by simp)
        · rw [if_neg c4] at H
          exact absurd H (by simp)
      · rw [if_neg c3] at H
        have c3b0 : decide (x8_1 < (l0.length : Int)) = false := decide_eq_false c3
        clear c3
        obtain rfl := Option.some.inj H
        go_wp2
        go_ret
        exact ⟨by first | rfl | (simp; done) | (simp [*]; done), by repeat (first | exact Drawn0.refl _ | apply Drawn0.step)⟩

end

end Go.Proofs.Ytnpgmkikdnlnaaa.X

/- The program's ValidCounter: what it answers. Conditions: none. -/
namespace Go.Proofs.Ytnpgmkikdnlnaaa.X
open Go.RowKit Go.Proofs.YtnpgmkikdnlnaaaW.PrintWords Go.Proofs.YtnpgmkikdnlnaaaW.PrintLast Go.Proofs.YtnpgmkikdnlnaaaW.PrintMore
set_option linter.unusedVariables false
set_option linter.unusedSimpArgs false
theorem vdrawn_trans {a b c : World} (h : Drawn0 a b) (k : Drawn0 b c) : Drawn0 a c := by
  obtain ⟨m, rfl⟩ := h
  obtain ⟨n, rfl⟩ := k
  exact ⟨m + n, by simp [World.drewN, Nat.add_assoc]⟩
theorem vquiet_d {P : Program} {f : FuncId} {args : Array Value} {w : World} {n : Nat} {v : Value} (h : Calls P f args (w.drewN n) fun e w' => e = .returned v ∧ Drawn0 (w.drewN n) w') : Calls P f args (w.drewN n) fun e w'' => e = .returned v ∧ ∃ m, w'' = w.drewN m :=
  Calls.quiet_of (h.mono fun _ _ h => ⟨h.1, h.2.out⟩)
set_option maxHeartbeats 4000000 in
set_option maxRecDepth 100000 in
theorem ValidClo (x a0 : Int) (b : Bool) (v : Value) (g : Nat) (w : World) (hg : w.heap[g]? = some (.cells #[.int .i64 a0, v] 28 (0, 0))) (h : impl_isStateOf.f a0 x = some b) :
    Calls Try.prog 35 #[.int .i64 x, .pointer (some ⟨g, 0, none⟩)] w fun e w' => e = .returned (.bool !b) ∧ Drawn0 w w' := by
  have c0 : w.cell? ⟨g, 0, none⟩ = some (.int .i64 a0) := (blk_cell hg 0).trans rfl
  have H := Aside0.mk h
  clear h hg
  have HD := Aside0.mk (Drawn0.refl w)
  go_enter Try.func35, Try.ntmps35
  go_wp2_with (first
    | (go_at_call 28; (with_reducible refine (impl_isStateOf.calls a0 x b _ H.out).mono ?_); rintro e wn ⟨rfl, hb⟩; have n0_ := Aside0.mk (vdrawn_trans HD.out hb); clear HD hb; have HD := n0_; clear n0_))
  go_ret
  exact ⟨rfl, HD.out⟩
abbrev validC (a0 : Int) : C_slices_IndexFunc_int64_int64 := ⟨fun x => (impl_isStateOf.f a0 x).bind fun b => some (!b)⟩
theorem ValidCl (a0 : Int) (v : Value) (g : Nat) (w : World) (hg : w.heap[g]? = some (.cells #[.int .i64 a0, v] 28 (0, 0))) :
    ∀ x r W, (validC a0).f x = some r → Below w.heap.size w W → Calls Try.prog 35 (#[.int .i64 x] ++ #[.pointer (some ⟨g, 0, none⟩)]) W fun e w' => e = .returned (.bool r) ∧ Drawn0 W w' := by
  intro x r W hx hW
  obtain ⟨b, hb, hx⟩ := Option.bind_eq_some_iff.mp hx
  obtain rfl := Option.some.inj hx
  exact ValidClo x a0 b v g W (blk_below hg hW) hb
set_option maxHeartbeats 4000000 in
set_option maxRecDepth 100000 in
theorem ValidHas (k : Nat) (A : Option Addr) (c : Nat) (l : List Int) (r a0 : Int) (v : Value) (g : Nat) (w : World) (hg : w.heap[g]? = some (.cells #[.int .i64 a0, v] 28 (0, 0))) (hr : Kd.C (Kd.int .i64) w A l.length l) (hc : l.length ≤ c) (h : @slices_IndexFunc_int64_int64.f (validC a0) k l 0 = some r) :
    Calls Try.prog 34 #[.slice A l.length c, .func (.func 35) #[] #[.pointer (some ⟨g, 0, none⟩)]] w fun e w' => e = .returned (.bool (decide (r ≥ 0))) ∧ Drawn0 w w' := by
  have H := Aside0.mk h
  have HR := Aside0.mk hr
  have HC := Aside0.mk hc
  have HG := Aside0.mk hg
  clear h hr hc hg
  have HD := Aside0.mk (Drawn0.refl w)
  go_enter Try.func34, Try.ntmps34
  go_wp2_with (first
    | (go_at_call 54; refine (@slices_IndexFunc_int64_int64.calls (validC a0) k A c l 0 r 35 Try.f35 #[.pointer (some ⟨g, 0, none⟩)] ⟨Try.func35, rfl, by kernel_rfl⟩ _ ?hcl HR.out HC.out H.out).mono ?_; (case hcl => exact ValidCl a0 v g _ HG.out); rintro e wn ⟨rfl, hb⟩; have n0_ := Aside0.mk (vdrawn_trans HD.out hb); clear HD hb; have HD := n0_; clear n0_))
  go_ret
  exact ⟨rfl, HD.out⟩
set_option maxHeartbeats 4000000 in
set_option maxRecDepth 100000 in
theorem ValidCounter_no1 (k : Nat) (a0 : Int) (A : Option Addr) (c : Nat) (l : List Int) (w : World) (h1 : impl_isBits.f a0 = some false) :
    Calls Try.prog 11 #[.agg #[.int .i64 a0, .slice A l.length c]] w fun e w' => e = .returned (.bool false) ∧ Below w.heap.size w w' := by
  have Hh1 := Aside0.mk h1
  clear h1
  have HB := Aside0.mk (Below.refl w.heap.size w)
  go_enter Try.func11, Try.ntmps11
  go_wp2_with (first
    | ((with_reducible refine gate_dst (N := 1) rfl ?_); refine box_event ?hg (N := 1) ?hd (cs := #[.int .i64 a0, .slice A l.length c]) (t := 28) ?hr ?_; (case hd => rfl); (case hg => rfl); (case hr => first | (go_simp; done) | (go_simp; rfl)); intro g1 hg wn hbox hb; have GE1 := Aside0.mk (by rw [hg]; exact below_size HB.out : w.heap.size ≤ g1); clear hg; have BK10 := Aside0.mk hbox; clear hbox; have n0_ := Aside0.mk (below_step HB.out hb); clear HB  hb; have HB := n0_; clear n0_ ; have BK1 := BK10; clear BK10; have c1_0 : wn.cell? ⟨g1, 0, none⟩ = some (.int .i64 a0) := (blk_cell BK1.out 0).trans rfl; have c1_1 : wn.cell? ⟨g1, 1, none⟩ = some (.slice A l.length c) := (blk_cell BK1.out 1).trans rfl))
  go_quiet ((go_at_call 33; exact vquiet_d (impl_isBits.calls a0 false _ Hh1.out)))
  go_wp2
  go_ret
  exact ⟨rfl, by first | exact HB.out | exact pw_below_drewN HB.out _⟩
set_option maxHeartbeats 4000000 in
set_option maxRecDepth 100000 in
theorem ValidCounter_no2 (k : Nat) (a0 : Int) (A : Option Addr) (c : Nat) (l : List Int) (b0 : 1 ≤ a0) (b1 : a0 ≤ 8) (f1 : ((l.length : Int) == wrap64 (2 ^ a0.toNat)) = false) (w : World) (h1 : impl_isBits.f a0 = some true) :
    Calls Try.prog 11 #[.agg #[.int .i64 a0, .slice A l.length c]] w fun e w' => e = .returned (.bool false) ∧ Below w.heap.size w w' := by
  have Hh1 := Aside0.mk h1
  clear h1
  have HB := Aside0.mk (Below.refl w.heap.size w)
  have b2 : (0 : Int) ≤ a0 := by omega

  go_enter Try.func11, Try.ntmps11
  go_wp2_with (first
    | ((with_reducible refine gate_dst (N := 1) rfl ?_); refine box_event ?hg (N := 1) ?hd (cs := #[.int .i64 a0, .slice A l.length c]) (t := 28) ?hr ?_; (case hd => rfl); (case hg => rfl); (case hr => first | (go_simp; done) | (go_simp; rfl)); intro g1 hg wn hbox hb; have GE1 := Aside0.mk (by rw [hg]; exact below_size HB.out : w.heap.size ≤ g1); clear hg; have BK10 := Aside0.mk hbox; clear hbox; have n0_ := Aside0.mk (below_step HB.out hb); clear HB  hb; have HB := n0_; clear n0_ ; have BK1 := BK10; clear BK10; have c1_0 : wn.cell? ⟨g1, 0, none⟩ = some (.int .i64 a0) := (blk_cell BK1.out 0).trans rfl; have c1_1 : wn.cell? ⟨g1, 1, none⟩ = some (.slice A l.length c) := (blk_cell BK1.out 1).trans rfl))
  go_quiet ((go_at_call 33; exact vquiet_d (impl_isBits.calls a0 true _ Hh1.out)))
  go_wp2
  go_ret
  exact ⟨rfl, by first | exact HB.out | exact pw_below_drewN HB.out _⟩
set_option maxHeartbeats 4000000 in
set_option maxRecDepth 100000 in
theorem ValidCounter_yes (k : Nat) (a0 : Int) (A : Option Addr) (c : Nat) (l : List Int) (r : Int) (b0 : 1 ≤ a0) (b1 : a0 ≤ 8) (f1 : ((l.length : Int) == wrap64 (2 ^ a0.toNat)) = true) (w : World) (h1 : impl_isBits.f a0 = some true) (hr : Kd.C (Kd.int .i64) w A l.length l) (hc : l.length ≤ c) (h : @slices_IndexFunc_int64_int64.f (validC a0) k l 0 = some r) :
    Calls Try.prog 11 #[.agg #[.int .i64 a0, .slice A l.length c]] w fun e w' => e = .returned (.bool (!decide (r ≥ 0))) ∧ Below w.heap.size w w' := by
  have Hh1 := Aside0.mk h1
  have Hhr := Aside0.mk hr
  have Hhc := Aside0.mk hc
  have Hh := Aside0.mk h
  clear h1 hr hc h
  have HB := Aside0.mk (Below.refl w.heap.size w)
  have b2 : (0 : Int) ≤ a0 := by omega

  go_enter Try.func11, Try.ntmps11
  go_wp2_with (first
    | ((with_reducible refine gate_dst (N := 1) rfl ?_); refine box_event ?hg (N := 1) ?hd (cs := #[.int .i64 a0, .slice A l.length c]) (t := 28) ?hr ?_; (case hd => rfl); (case hg => rfl); (case hr => first | (go_simp; done) | (go_simp; rfl)); intro g1 hg wn hbox hb; have GE1 := Aside0.mk (by rw [hg]; exact below_size HB.out : w.heap.size ≤ g1); clear hg; have BK10 := Aside0.mk hbox; clear hbox; have n0_ := Aside0.mk (below_step HB.out hb); clear HB  hb; have HB := n0_; clear n0_ ; have BK1 := BK10; clear BK10; have c1_0 : wn.cell? ⟨g1, 0, none⟩ = some (.int .i64 a0) := (blk_cell BK1.out 0).trans rfl; have c1_1 : wn.cell? ⟨g1, 1, none⟩ = some (.slice A l.length c) := (blk_cell BK1.out 1).trans rfl))
  have HR := Aside0.mk (Kd.C_below Hhr.out HB.out)
  have HC := Hhc
  have H := Hh
  go_quiet (first | (go_at_call 33; exact vquiet_d (impl_isBits.calls a0 true _ Hh1.out)) | (go_at_call 34; exact vquiet_d (ValidHas k A c l r a0 _ g1 _ BK1.out (Kd.C_below HR.out (pw_below_drewN (Below.refl _ _) _)) HC.out H.out)))
  go_wp2
  go_ret
  exact ⟨rfl, by first | exact HB.out | exact pw_below_drewN HB.out _⟩
def impl_ValidCounter.f (k : Nat) (a0 : Int) (l : List Int) : Option Bool :=
  (impl_isBits.f a0).bind fun b => if b = true then (if 1 ≤ a0 ∧ a0 ≤ 8 then (if ((l.length : Int) == wrap64 (2 ^ a0.toNat)) = true then (@slices_IndexFunc_int64_int64.f (validC a0) k l 0).bind fun i => some (!decide (i ≥ 0)) else some false) else none) else some false
theorem impl_ValidCounter.mono : ∀ a0 l k, LeO (impl_ValidCounter.f k a0 l) (impl_ValidCounter.f (k + 1) a0 l) := by
  intro a0 l k
  unfold impl_ValidCounter.f
  refine LeO.bind (LeO.refl _) (fun b => ?_)
  split
  · split
    · split
      · exact LeO.bind (@slices_IndexFunc_int64_int64.mono (validC a0) l 0 k) (fun _ => LeO.refl _)
      · exact LeO.refl _
    · exact LeO.refl _
  · exact LeO.refl _
theorem impl_ValidCounter.calls (k : Nat) (a0_0 : Int) (A0_1 : Option Addr) (c0_1 : Nat) (l0_1 : List Int) (r : Bool) (w : World) (hr0_1 : Kd.C (Kd.int .i64) w A0_1 l0_1.length l0_1) (hc0_1 : l0_1.length ≤ c0_1) (h : impl_ValidCounter.f k a0_0 l0_1 = some r) :
    Calls Try.prog 11 #[.agg #[.int .i64 a0_0, .slice A0_1 l0_1.length c0_1]] w fun e w' => e = .returned (.bool r) ∧ Below w.heap.size w w' := by
  unfold impl_ValidCounter.f at h
  obtain ⟨b, hb, h⟩ := Option.bind_eq_some_iff.mp h
  cases b with
  | false =>
    rw [if_neg (by simp)] at h
    obtain rfl := Option.some.inj h
    exact ValidCounter_no1 k a0_0 A0_1 c0_1 l0_1 w hb
  | true =>
    rw [if_pos rfl] at h
    by_cases hz : 1 ≤ a0_0 ∧ a0_0 ≤ 8
    · rw [if_pos hz] at h
      cases hf : ((l0_1.length : Int) == wrap64 (2 ^ a0_0.toNat)) with
      | false =>
        rw [hf, if_neg (by simp)] at h
        obtain rfl := Option.some.inj h
        exact ValidCounter_no2 k a0_0 A0_1 c0_1 l0_1 hz.1 hz.2 hf w hb
      | true =>
        rw [hf, if_pos rfl] at h
        obtain ⟨i, hi, h⟩ := Option.bind_eq_some_iff.mp h
        obtain rfl := Option.some.inj h
        exact ValidCounter_yes k a0_0 A0_1 c0_1 l0_1 i hz.1 hz.2 hf w hb hr0_1 hc0_1 hi
    · rw [if_neg hz] at h
      exact absurd h (by simp)
end Go.Proofs.Ytnpgmkikdnlnaaa.X

