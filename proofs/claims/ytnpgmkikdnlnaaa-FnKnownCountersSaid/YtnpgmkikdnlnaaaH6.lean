/- My own texts of this seat, merged: Xp16, CCtr, CCyc, CKDec. Conditions: as each lemma says. -/
import Derived.Test.YtnpgmkikdnlnaaaH0
import Derived.Test.YtnpgmkikdnlnaaaH3
import Derived.Test.YtnpgmkikdnlnaaaH5
import Derived.Test.YtnpgmkikdnlnaaaH4
-- Written by a program of this session out of the kit's print of the loaded functions: a plain function of a Go function, and its contract.
namespace Go.Proofs.Ytnpgmkikdnlnaaa.X
open Go.RowKit Go.Proofs.YtnpgmkikdnlnaaaW.PrintWords Go.Proofs.YtnpgmkikdnlnaaaW.PrintLast Go.Proofs.YtnpgmkikdnlnaaaW.PrintMore
attribute [local go_sem] max2_int min2_int max_two min_two max_three min_three max_four min_four   -- for this text's walks alone
set_option linter.unusedVariables false
set_option linter.unusedSimpArgs false

/-! ### laws_heldCounter: function 16 -/
def laws_heldCounter.f (k : Nat) (a0_0 : Int) (l0_1 : List Int) (a1 : Int) : Option (Int) := (laws_heldInt64S.f k l0_1 a1).bind fun t171 => (if t171 < 0 then (some (-1)) else (some t171))
theorem laws_heldCounter.mono : ∀ a0 a1 a2 k, LeO (laws_heldCounter.f k a0 a1 a2) (laws_heldCounter.f (k + 1) a0 a1 a2) := by
  intro a0 a1 a2 k
  unfold laws_heldCounter.f
  repeat' first
      | (with_reducible exact laws_heldInt64S.mono _ _ _)
      | (with_reducible exact LeO.refl _)
      | (with_reducible exact LeO.none _)
      | (with_reducible refine LeO.ite ?_ ?_)
      | (with_reducible refine LeO.bind ?_ (fun _ => ?_))
      | exact laws_heldInt64S.mono _ _ _
      | exact LeO.none _
      | refine LeO.ite ?_ ?_
      | refine LeO.bind ?_ (fun _ => ?_)
set_option maxHeartbeats 8000000 in
set_option maxRecDepth 100000 in
theorem laws_heldCounter.calls (k : Nat) (a0_0 : Int) (A0_1 : Option Addr) (c0_1 : Nat) (l0_1 : List Int) (a1 : Int) (r : Int) (w : World) (hr0_1 : Kd.C (Kd.int .i64) w A0_1 l0_1.length l0_1) (hc0_1 : l0_1.length ≤ c0_1) (h : laws_heldCounter.f k a0_0 l0_1 a1 = some r) :
    Calls Try.prog 16 #[.agg #[.int .i64 a0_0, .slice A0_1 l0_1.length c0_1], .int .i64 a1] w fun e w' => e = .returned (.int .i64 r) ∧ Below w.heap.size w w' := by
  have hu28 := Try.underlying28
  have HR0_1 := Aside0.mk hr0_1
  have HC0_1 := Aside0.mk hc0_1
  clear hr0_1 hc0_1
  have HB := Aside0.mk (Below.refl w.heap.size w)
  have H : ((laws_heldInt64S.f k l0_1 a1).bind fun t171 => (if t171 < 0 then (some (-1)) else (some t171))) = some r := h
  clear h
  replace H := Option.bind_eq_some_iff.mp H
  obtain ⟨t171, A30, H⟩ := H
  replace H : (if t171 < 0 then (some (-1)) else (some t171)) = some r := H
  have A3 := Aside0.mk A30
  clear A30
  by_cases c4 : t171 < 0
  · rw [if_pos c4] at H
    have c4b0 : decide (t171 < 0) = true := decide_eq_true c4
    clear c4
    obtain rfl := Option.some.inj H
    go_enter Try.func16, Try.ntmps16
    go_wp2_with (first | ((with_reducible refine gate_dst (N := 2) rfl ?_); refine box_event ?hg (N := 2) ?hd (cs := #[.int .i64 a0_0, .slice A0_1 l0_1.length c0_1]) (t := 28) ?hr ?_; (case hd => rfl); (case hg => rfl); (case hr => first | (go_simp; done) | (go_simp; rfl)); intro gb170 hg w5 hbox hb; have n0_ := Aside0.mk (below_step (by repeat (first | (with_reducible first | exact HB.out | apply below_alloc | apply pw_below_drewN | apply below_drew1) | exact HB.out)) hb); have n1_ := Aside0.mk (hbox); have n2_ := Aside0.mk ((by rw [hg]; exact (below_size (by repeat (first | (with_reducible first | exact HB.out | apply below_alloc | apply pw_below_drewN | apply below_drew1) | exact HB.out))) : w.heap.size ≤ gb170)); have n3_ := Aside0.mk ((by rw [hg]; exact (below_size (by repeat (first | (with_reducible first | exact HB.out | apply below_alloc | apply pw_below_drewN | apply below_drew1) | exact HB.out))) : w.heap.size ≤ gb170)); clear HB; have HB := n0_; have BK170 := n1_; have GW170 := n2_; have GE170 := n3_; clear n0_ n1_ n2_ n3_; clear hb hbox hg; have hcz6_0 : w5.cell? ⟨gb170, 0, none⟩ = some (.int .i64 a0_0) := (blk_cell BK170.out 0).trans rfl; have hcz6_1 : w5.cell? ⟨gb170, 1, none⟩ = some (.slice A0_1 l0_1.length c0_1) := (blk_cell BK170.out 1).trans rfl; have hfz6_0 := blk_frozen BK170.out 0; have hfz6_1 := blk_frozen BK170.out 1) | ((with_reducible refine gate_callee (f := 41) rfl ?_); refine goesL_ (some 8) rfl rfl Try.func41 (by kernel_rfl) rfl #[.slice A0_1 l0_1.length c0_1, .int .i64 a1] rfl (by (try simp only [List.map_toArray, List.map_cons, List.map_nil]); first | done | rfl | (simp only [List.length_drop, List.length_take]; rfl)) ?_; (with_reducible refine (laws_heldInt64S.calls k _ _ l0_1 a1 t171 _ ?side1 ?side2 A3.out).mono ?_); (case side1 => repeat (first | exact (Kd.C_below HR0_1.out HB.out) | (with_reducible refine Kd.C_alloc ?_ _) | (with_reducible refine Kd.C_drewN ?_ _) | (with_reducible refine Kd.C_drew ?_))); (case side2 => first | exact trivial | (exact HC0_1.out)); rintro e w' ⟨rfl, ⟨nd, rfl⟩⟩; refine ⟨_, rfl, ?_⟩))
    go_ret
    exact ⟨by first | rfl | (simp [errW_none, errW_some] <;> rfl) | (simp [*, errW_none, errW_some] <;> rfl), by repeat (first | (with_reducible first | exact HB.out | apply below_alloc | apply pw_below_drewN | apply below_drew1 | refine below_set ?_ GE170.out) | exact HB.out)⟩
  · rw [if_neg c4] at H
    have c4b0 : decide (t171 < 0) = false := decide_eq_false c4
    clear c4
    obtain rfl := Option.some.inj H
    go_enter Try.func16, Try.ntmps16
    go_wp2_with (first | ((with_reducible refine gate_dst (N := 2) rfl ?_); refine box_event ?hg (N := 2) ?hd (cs := #[.int .i64 a0_0, .slice A0_1 l0_1.length c0_1]) (t := 28) ?hr ?_; (case hd => rfl); (case hg => rfl); (case hr => first | (go_simp; done) | (go_simp; rfl)); intro gb170 hg w7 hbox hb; have n0_ := Aside0.mk (below_step (by repeat (first | (with_reducible first | exact HB.out | apply below_alloc | apply pw_below_drewN | apply below_drew1) | exact HB.out)) hb); have n1_ := Aside0.mk (hbox); have n2_ := Aside0.mk ((by rw [hg]; exact (below_size (by repeat (first | (with_reducible first | exact HB.out | apply below_alloc | apply pw_below_drewN | apply below_drew1) | exact HB.out))) : w.heap.size ≤ gb170)); have n3_ := Aside0.mk ((by rw [hg]; exact (below_size (by repeat (first | (with_reducible first | exact HB.out | apply below_alloc | apply pw_below_drewN | apply below_drew1) | exact HB.out))) : w.heap.size ≤ gb170)); clear HB; have HB := n0_; have BK170 := n1_; have GW170 := n2_; have GE170 := n3_; clear n0_ n1_ n2_ n3_; clear hb hbox hg; have hcz8_0 : w7.cell? ⟨gb170, 0, none⟩ = some (.int .i64 a0_0) := (blk_cell BK170.out 0).trans rfl; have hcz8_1 : w7.cell? ⟨gb170, 1, none⟩ = some (.slice A0_1 l0_1.length c0_1) := (blk_cell BK170.out 1).trans rfl; have hfz8_0 := blk_frozen BK170.out 0; have hfz8_1 := blk_frozen BK170.out 1) | ((with_reducible refine gate_callee (f := 41) rfl ?_); refine goesL_ (some 8) rfl rfl Try.func41 (by kernel_rfl) rfl #[.slice A0_1 l0_1.length c0_1, .int .i64 a1] rfl (by (try simp only [List.map_toArray, List.map_cons, List.map_nil]); first | done | rfl | (simp only [List.length_drop, List.length_take]; rfl)) ?_; (with_reducible refine (laws_heldInt64S.calls k _ _ l0_1 a1 t171 _ ?side1 ?side2 A3.out).mono ?_); (case side1 => repeat (first | exact (Kd.C_below HR0_1.out HB.out) | (with_reducible refine Kd.C_alloc ?_ _) | (with_reducible refine Kd.C_drewN ?_ _) | (with_reducible refine Kd.C_drew ?_))); (case side2 => first | exact trivial | (exact HC0_1.out)); rintro e w' ⟨rfl, ⟨nd, rfl⟩⟩; refine ⟨_, rfl, ?_⟩))
    go_ret
    exact ⟨by first | rfl | (simp [errW_none, errW_some] <;> rfl) | (simp [*, errW_none, errW_some] <;> rfl), by repeat (first | (with_reducible first | exact HB.out | apply below_alloc | apply pw_below_drewN | apply below_drew1 | refine below_set ?_ GE170.out) | exact HB.out)⟩

end Go.Proofs.Ytnpgmkikdnlnaaa.X

/- The shifting counters in plain numbers: what the program's ways and the reference's tell of each state is alike. Conditions: as each lemma says. -/
namespace Go.Proofs.Ytnpgmkikdnlnaaa.X
open Go.RowKit Go.Proofs.YtnpgmkikdnlnaaaW.PrintWords Go.Proofs.YtnpgmkikdnlnaaaW.PrintLast Go.Proofs.YtnpgmkikdnlnaaaW.PrintMore
set_option linter.unusedVariables false
set_option linter.unusedSimpArgs false

theorem within_eq (a b c : Int) : impl_within.f a b c = some (decide (b ≤ a ∧ a ≤ c)) := by
  unfold impl_within.f; by_cases h : a ≥ b <;> simp [h] <;> omega
theorem l00In_eq (a b c : Int) : spec_l00In.f a b c = some (decide (b ≤ a ∧ a ≤ c)) := by
  unfold spec_l00In.f; by_cases h : a ≥ b <;> simp [h] <;> omega
theorem bits_eq (b : Int) : impl_isBits.f b = some (decide (1 ≤ b ∧ b ≤ 8)) := by unfold impl_isBits.f; simp [within_eq]
theorem sbits_eq (b : Int) : spec_l02Bits.f b = some (decide (1 ≤ b ∧ b ≤ 8)) := by unfold spec_l02Bits.f; simp [l00In_eq]

theorem join_dec : ∀ b < 9, 1 ≤ b → ∀ x < 256, ∀ i < 2, Go.bits .or .i64 (Go.bits .and .i64 (wrap64 ((x : Nat) * 2 : Int)) (wrap64 (((2 ^ (b : Nat) : Nat) : Int) - 1))) ((i : Nat) : Int) = (((2 * x) % 2 ^ b + i : Nat) : Int) := by decide +kernel
theorem ones_dec : ∀ x < 256, ∃ o ∈ List.range 9, spec_l02Ones.f 20 ((x : Nat) : Int) = some (o : Int) ∧ impl_onesOf.f x = some (o : Int) := by decide +kernel
theorem high_dec : ∀ b < 9, 1 ≤ b → ∀ x < 256, Go.bits .and .i64 (shr .i64 ((x : Nat) : Int) (IntKind.u64.wrap (wrap64 (((b : Nat) : Int) - 1)))) 1 = ((x / 2 ^ (b - 1) % 2 : Nat) : Int) := by decide +kernel
theorem size_dec : ∀ b < 9, 1 ≤ b → spec_l02Size.f ((b : Nat) : Int) = some ((2 ^ b : Nat) : Int) ∧ shl .i64 1 ((b : Nat) : Int) = ((2 ^ b : Nat) : Int) ∧ 2 ^ b ≤ 256 := by decide +kernel
theorem wrap_small (n : Int) (h0 : 0 ≤ n) (h1 : n < 2 ^ 8) : IntKind.i64.wrap n = n := IntWalk.i64_in _ ⟨by omega, by omega⟩
theorem and_small (x t : Nat) (hx : x < 256) (ht : t < 256) : Go.bits .and .i64 ((x : Nat) : Int) ((t : Nat) : Int) = ((x &&& t : Nat) : Int) ∧ x &&& t < 256 :=
  ⟨(bits_nat .i64 8 (by decide) wrap_small x t hx ht).1, Nat.lt_of_le_of_lt Nat.and_le_left hx⟩
theorem top_dec : ∀ b < 9, 1 ≤ b → ∀ x < 2 ^ b, x / 2 ^ (b - 1) < 2 := by decide +kernel
/-- The state that follows when the bits are moved, and a bit comes in. -/
def nxt (b x i : Nat) : Nat := (2 * x) % 2 ^ b + i
def lst (b : Nat) (inn : Nat → Nat) (n : Nat) : List Int := (List.range n).map fun (x : Nat) => ((nxt b x (inn x) : Nat) : Int)
theorem lst_len (b : Nat) (inn : Nat → Nat) (n : Nat) : (lst b inn n).length = n := by simp [lst]
theorem lst_succ (b : Nat) (inn : Nat → Nat) (n : Nat) : lst b inn (n + 1) = lst b inn n ++ [((nxt b n (inn n) : Nat) : Int)] := by simp [lst, List.range_succ]
theorem mono_add {α : Type} (f : Nat → Option α) (hm : ∀ k, LeO (f k) (f (k + 1))) (k d : Nat) (r : α) (h : f k = some r) : f (k + d) = some r := by
  induction d with
  | zero => exact h
  | succ d ih => exact hm _ _ ih

theorem moved_eq (b x i : Nat) (hb : b < 9) (hb1 : 1 ≤ b) (hx : x < 2 ^ b) (hi : i < 2) : impl_moved.f b x i = some ((nxt b x i : Nat) : Int) := by
  obtain ⟨_, hs, hl⟩ := size_dec b hb hb1
  have hp : 0 < 2 ^ b := Nat.two_pow_pos b
  unfold impl_moved.f
  have h1 : ¬ (((2 ^ b : Nat) : Int) = 0) := by omega
  have hm := Nat.mod_lt (2 * x) hp
  rw [if_pos (by omega), hs, if_neg h1, w64 (n := 2 * (x : Int)) (by omega) (by omega), tmodp (by omega)]
  have e : (2 * (x : Int)) % ((2 ^ b : Nat) : Int) = (((2 * x) % 2 ^ b : Nat) : Int) := by simp
  rw [e, w64 (by omega) (by omega)]
  simp [nxt]

/-- The program's way: whatever tells the states that follow. -/
theorem by_loop [C_impl_counterBy] (b : Nat) (inn : Nat → Nat) (n : Nat) (hn : n ≤ 256) (bi : Int) (hc : ∀ x, x < n → C_impl_counterBy.f ((x : Nat) : Int) = some ((nxt b x (inn x) : Nat) : Int)) :
    ∀ (d k i : Nat), i + d = n → d < k → impl_counterBy.l0 k n i bi (lst b inn i) = some (bi, lst b inn n, true)
  | 0, k, i, hi, hk => by
    cases k with
    | zero => omega
    | succ k => rw [impl_counterBy.l0, if_neg (by omega), show i = n by omega]
  | d + 1, k, i, hi, hk => by
    cases k with
    | zero => omega
    | succ k =>
      have ih := by_loop b inn n hn bi hc d k (i + 1) (by omega) (by omega)
      rw [impl_counterBy.l0, if_pos (by omega), hc i (by omega), Option.bind_some, if_pos (by rw [lst_len]; omega), w64 (by omega) (by omega), ← lst_succ]
      rw [Int.natCast_add, Int.natCast_one] at ih
      exact ih
theorem by_eq [C_impl_counterBy] (b : Nat) (hb : b < 9) (hb1 : 1 ≤ b) (inn : Nat → Nat) (k : Nat) (hk : 256 < k) (hc : ∀ x, x < 2 ^ b → C_impl_counterBy.f ((x : Nat) : Int) = some ((nxt b x (inn x) : Nat) : Int)) :
    impl_counterBy.f k b 0 = some ((b : Int), lst b inn (2 ^ b), true) := by
  obtain ⟨_, hs, hl⟩ := size_dec b hb hb1
  unfold impl_counterBy.f
  rw [bits_eq, Option.bind_some, decide_eq_true (by omega), if_pos rfl, if_pos (by omega), hs]
  exact by_loop b inn (2 ^ b) hl b hc (2 ^ b) k 0 (by omega) (by omega)
theorem by_no [C_impl_counterBy] (b : Int) (hb : ¬ (1 ≤ b ∧ b ≤ 8)) (k : Nat) : impl_counterBy.f k b 0 = some (0, [], false) := by
  unfold impl_counterBy.f
  rw [bits_eq, Option.bind_some, decide_eq_false hb]; simp

/-- The reference's way. -/
theorem shift_loop (b : Nat) (hb : b < 9) (hb1 : 1 ≤ b) (kind : Int) (taps : Nat) (ht : taps < 256) (inn : Nat → Nat) (hin : ∀ x, x < 2 ^ b → inn x < 2)
    (h0 : kind ≠ 2 → ∀ x, x < 2 ^ b → (if kind = 1 then wrap64 (1 - ((x / 2 ^ (b - 1) % 2 : Nat) : Int)) else ((x / 2 ^ (b - 1) % 2 : Nat) : Int)) = ((inn x : Nat) : Int))
    (h2 : kind = 2 → ∀ x : Nat, x < 2 ^ b → ∃ o : Nat, spec_l02Ones.f 20 (Go.bits .and .i64 (x : Int) (taps : Int)) = some (o : Int) ∧ o % 2 = inn x) :
    ∀ (d k i : Nat), i + d = 2 ^ b → 2 * d + 25 < k → spec_l02Shift.l0 k b kind taps i b (lst b inn i) = some ((b : Int), lst b inn (2 ^ b))
  | 0, k, i, hi, hk => by
    obtain ⟨hs, _, hl⟩ := size_dec b hb hb1
    cases k with
    | zero => omega
    | succ k => rw [spec_l02Shift.l0, hs, Option.bind_some, if_neg (by omega), show i = 2 ^ b by omega]
  | d + 1, k, i, hi, hk => by
    obtain ⟨hs, _, hl⟩ := size_dec b hb hb1
    obtain ⟨k, rfl⟩ : ∃ m, k = m + 1 + 1 := ⟨k - 2, by omega⟩
    have ih := shift_loop b hb hb1 kind taps ht inn hin h0 h2 d k (i + 1) (by omega) (by omega)
    rw [Int.natCast_add, Int.natCast_one] at ih
    have hw : IntKind.u64.wrap (wrap64 ((b : Int) - 1)) = (b : Int) - 1 := by rw [w64 (by omega) (by omega)]; exact IntWalk.u64_in _ ⟨by omega, by omega⟩
    have hh := high_dec b hb hb1 i (by omega)
    have hj := join_dec b hb hb1 i (by omega) (inn i) (hin i (by omega))
    have step : ∀ y : Int, y = ((inn i : Nat) : Int) → (if (lst b inn i).length < 17592186044416 then spec_l02Shift.l0 k b kind taps (wrap64 ((i : Int) + 1)) b (lst b inn i ++ [Go.bits .or .i64 (Go.bits .and .i64 (wrap64 ((i : Int) * 2)) (wrap64 (((2 ^ b : Nat) : Int) - 1))) y]) else none) = some ((b : Int), lst b inn (2 ^ b)) := by
      intro y hy
      rw [hy, if_pos (by rw [lst_len]; omega), hj, show (2 * i) % 2 ^ b + inn i = nxt b i (inn i) from rfl, ← lst_succ, w64 (by omega) (by omega)]
      exact ih
    rw [spec_l02Shift.l0, hs, Option.bind_some, if_pos (by omega), if_pos (by rw [hw]; omega), hh]
    by_cases hk1 : kind = 1
    · rw [if_pos hk1, spec_l02Shift.j1, if_neg (by omega), hs, Option.bind_some]
      have := h0 (by omega) i (by omega)
      rw [if_pos hk1] at this
      exact step _ this
    · rw [if_neg hk1, spec_l02Shift.j1]
      by_cases hk2 : kind = 2
      · obtain ⟨o, ho, hp⟩ := h2 hk2 i (by omega)
        have ho2 : spec_l02Ones.f k (Go.bits .and .i64 (i : Int) (taps : Int)) = some (o : Int) := by
          have := mono_add (fun k => spec_l02Ones.f k (Go.bits .and .i64 (i : Int) (taps : Int))) (fun k => spec_l02Ones.mono _ k) 20 (k - 20) _ ho
          rwa [show 20 + (k - 20) = k by omega] at this
        rw [if_pos hk2, ho2, Option.bind_some, hs, Option.bind_some]
        refine step _ ?_
        rw [tmodp (by omega), ← hp]; simp
      · rw [if_neg hk2, hs, Option.bind_some]
        have := h0 hk2 i (by omega)
        rw [if_neg hk1] at this
        exact step _ this
theorem shift_eq (b : Nat) (hb : b < 9) (hb1 : 1 ≤ b) (kind : Int) (taps : Nat) (ht : taps < 256) (inn : Nat → Nat) (hin : ∀ x, x < 2 ^ b → inn x < 2)
    (h0 : kind ≠ 2 → ∀ x, x < 2 ^ b → (if kind = 1 then wrap64 (1 - ((x / 2 ^ (b - 1) % 2 : Nat) : Int)) else ((x / 2 ^ (b - 1) % 2 : Nat) : Int)) = ((inn x : Nat) : Int))
    (h2 : kind = 2 → ∀ x : Nat, x < 2 ^ b → ∃ o : Nat, spec_l02Ones.f 20 (Go.bits .and .i64 (x : Int) (taps : Int)) = some (o : Int) ∧ o % 2 = inn x) (k : Nat) (hk : 600 < k) :
    spec_l02Shift.f k b kind taps = some ((b : Int), lst b inn (2 ^ b)) := by
  obtain ⟨_, _, hl⟩ := size_dec b hb hb1
  unfold spec_l02Shift.f
  exact shift_loop b hb hb1 kind taps ht inn hin h0 h2 (2 ^ b) k 0 (by omega) (by omega)

/-- Counters that are held against each other, marked, and held against their marks. -/
theorem eqC (k : Nat) (b : Int) (l : List Int) (hl : l.length ≤ 256) (hk : 256 < k) : laws_eqCounter.f k b l b l = some true := by
  unfold laws_eqCounter.f; rw [if_pos rfl, eqInt64S_refl k l (by omega) (by omega)]; rfl
theorem markC (k : Nat) (b : Int) (l : List Int) (hl : l.length ≤ 256) (hk : 256 < k) : laws_markCounter.f k b l 1 = some (1 + (l.length : Int), iota 1 l.length) := by
  unfold laws_markCounter.f; rw [markInt64S_eq k l 1 (by omega) (by omega) (by omega) (by omega)]; rfl
theorem heldC (k : Nat) (b : Int) (n : Nat) (hn : n ≤ 256) (hk : 256 < k) : laws_heldCounter.f k b (iota 1 n) 1 = some (1 + (n : Int)) := by
  unfold laws_heldCounter.f; rw [heldInt64S_eq k 1 n (by omega) (by omega) (by omega) (by omega), Option.bind_some, if_neg (by omega)]
end Go.Proofs.Ytnpgmkikdnlnaaa.X

/- Counters of one ring in plain numbers: what the program's ways of walking rings tell of them. Conditions: as each lemma says. -/
namespace Go.Proofs.Ytnpgmkikdnlnaaa.X
open Go.RowKit Go.Proofs.YtnpgmkikdnlnaaaW.PrintWords Go.Proofs.YtnpgmkikdnlnaaaW.PrintLast Go.Proofs.YtnpgmkikdnlnaaaW.PrintMore
set_option linter.unusedVariables false
set_option linter.unusedSimpArgs false

theorem rd_some {l : List Int} {i : Nat} {v : Int} (h : l[i]? = some v) : rd l (i : Int) = v ∧ i < l.length := by
  obtain ⟨hl, hv⟩ := List.getElem?_eq_some_iff.1 h
  exact ⟨by rw [rd_nat l i hl, hv], hl⟩
theorem min_loop (l : List Int) (v : Int) (hl : l.length ≤ 1000) (hle : ∀ x ∈ l, v ≤ x) : ∀ (d k i : Nat) (c : Int), i + d = l.length → d < k → v ≤ c → (c = v ∨ v ∈ l.drop i) → slices_Min_int64_int64.l0 k l c i = some v
  | 0, k, i, c, hi, hk, hc, hm => by
    cases k with
    | zero => omega
    | succ k =>
      rw [slices_Min_int64_int64.l0, if_neg (by omega)]
      rcases hm with rfl | hm
      · rfl
      · rw [List.drop_eq_nil_of_le (by omega)] at hm; simp at hm
  | d + 1, k, i, c, hi, hk, hc, hm => by
    cases k with
    | zero => omega
    | succ k =>
      have hi2 : i < l.length := by omega
      have hx := hle l[i] (List.getElem_mem hi2)
      rw [slices_Min_int64_int64.l0, if_pos (by omega), if_pos (by omega), w64 (by omega) (by omega), rd_nat l i hi2, mn_eq]
      have ih := min_loop l v hl hle d k (i + 1) (min c l[i]) (by omega) (by omega) (by omega) (by
        rcases hm with rfl | hm
        · left; omega
        · rw [List.drop_eq_getElem_cons hi2, List.mem_cons] at hm
          rcases hm with rfl | hm
          · left; omega
          · exact .inr hm)
      rw [Int.natCast_add, Int.natCast_one] at ih
      exact ih
theorem min_is (l : List Int) (v : Int) (hl : l.length ≤ 1000) (hm : v ∈ l) (hle : ∀ x ∈ l, v ≤ x) (k : Nat) (hk : l.length < k) : slices_Min_int64_int64.f k l = some v := by
  have h0 : 0 < l.length := List.length_pos_of_mem hm
  unfold slices_Min_int64_int64.f
  rw [if_neg (by omega), if_pos (by omega)]
  have e : rd l 0 = l[0] := rd_nat l 0 h0
  rw [e]
  refine min_loop l v hl hle (l.length - 1) k 1 l[0] (by omega) (by omega) (hle _ (List.getElem_mem h0)) ?_
  obtain ⟨a, t, rfl⟩ : ∃ a t, l = a :: t := by
    cases l with
    | nil => simp at h0
    | cons a t => exact ⟨a, t, rfl⟩
  rcases List.mem_cons.1 hm with rfl | hm
  · exact .inl rfl
  · exact .inr hm
theorem index_loop3 (l : List Int) (v : Int) (j : Nat) (hl : l.length ≤ 1000) (hj : l[j]? = some v) (hn : ∀ i, i < j → l[i]? ≠ some v) : ∀ (d k i : Nat), i + d = j → d < k → slices_Index_int64_int64.l0 k l v l.length i = some (j : Int)
  | 0, k, i, hi, hk => by
    obtain ⟨hr, hlt⟩ := rd_some hj
    cases k with
    | zero => omega
    | succ k =>
      obtain rfl : i = j := by omega
      rw [slices_Index_int64_int64.l0, if_pos (by omega), if_pos (by omega), if_pos (by omega), hr, if_pos rfl]
  | d + 1, k, i, hi, hk => by
    obtain ⟨hr, hlt⟩ := rd_some hj
    cases k with
    | zero => omega
    | succ k =>
      have hi2 : i < l.length := by omega
      have hne : ¬ v = l[i] := fun h => hn i (by omega) (by rw [List.getElem?_eq_getElem hi2, h])
      rw [slices_Index_int64_int64.l0, if_pos (by omega), if_pos (by omega), if_pos (by omega), rd_nat l i hi2, if_neg hne, w64 (by omega) (by omega)]
      have ih := index_loop3 l v j hl hj hn d k (i + 1) (by omega) (by omega)
      rw [Int.natCast_add, Int.natCast_one] at ih
      exact ih
theorem index_is (l : List Int) (v : Int) (j : Nat) (hl : l.length ≤ 1000) (hj : l[j]? = some v) (hn : ∀ i, i < j → l[i]? ≠ some v) (k : Nat) (hk : l.length < k) : slices_Index_int64_int64.f k l v = some (j : Int) := by
  obtain ⟨_, hlt⟩ := rd_some hj
  unfold slices_Index_int64_int64.f
  exact index_loop3 l v j hl hj hn j k 0 (by omega) (by omega)

/-- A counter's ring: state c y leads to the next one, all other states lead to c 0 = 0. -/
structure Cyc (n m : Nat) (nx : List Int) (c : Nat → Nat) : Prop where
  len : nx.length = n
  hn : n ≤ 64
  hm : 1 ≤ m
  mn : m ≤ n
  lt : ∀ y, y < m → c y < n
  inj : ∀ y, y < m → ∀ z, z < m → c y = c z → y = z
  zero : c 0 = 0
  step : ∀ y, y < m → nx[c y]? = some ((c ((y + 1) % m) : Nat) : Int)
  out : ∀ s, s < n → (∀ y, y < m → c y ≠ s) → nx[s]? = some 0
/-- The list of a ring, from its least state on. -/
def ringL (m : Nat) (c : Nat → Nat) : List Int := (List.range m).map fun y => ((c y : Nat) : Int)
theorem ringL_len (m : Nat) (c : Nat → Nat) : (ringL m c).length = m := by simp [ringL]
theorem ringL_get (m : Nat) (c : Nat → Nat) (y : Nat) (h : y < m) : (ringL m c)[y]? = some ((c y : Nat) : Int) := by simp [ringL, h]

/-- The rounds of ringFrom along a path that does not meet itself. -/
theorem from_path (n : Nat) (nx : List Int) (b : Int) (hlen : nx.length = n) (hn : n ≤ 64) (p : Nat → Nat) (L : Nat) (hL : L ≤ 100) (hlt : ∀ i, i ≤ L → p i < n) (hst : ∀ i, i < L → nx[p i]? = some ((p (i + 1) : Nat) : Int))
    (hinj : ∀ i, i < L → ∀ j, j < L → p i = p j → i = j) : ∀ (d k i : Nat) (x1 : Int) (seen : List Int), i + d = L → d < k → (0 < i → x1 = p i) → seen.length = n → (∀ j, j < i → seen[p j]? = some (j : Int)) → (∀ s, s < n → (∀ j, j < i → p j ≠ s) → seen[s]? = some (-1)) →
    ∃ (seen' : List Int), seen'.length = n ∧ (∀ j, j < L → seen'[p j]? = some (j : Int)) ∧ impl_Counter_ringFrom.l0 k x1 seen (ringL i p) (p i) b nx = impl_Counter_ringFrom.l0 (k - d) (if 0 < L then ((p L : Nat) : Int) else x1) seen' (ringL L p) (p L) b nx
  | 0, k, i, x1, seen, hi, hk, hx, hs, hin, hout => by
    obtain rfl : i = L := by omega
    refine ⟨seen, hs, hin, ?_⟩
    rw [Nat.sub_zero]
    by_cases h0 : 0 < i
    · rw [if_pos h0, hx h0]
    · rw [if_neg h0]
  | d + 1, k, i, x1, seen, hi, hk, hx, hs, hin, hout => by
    have hiL : i < L := by omega
    have hpi := hlt i (by omega)
    obtain ⟨hr, _⟩ := rd_some (hst i hiL)
    have hsn : seen[p i]? = some (-1) := hout (p i) hpi (fun j hj he => by have := hinj j (by omega) i hiL he; omega)
    obtain ⟨hrs, _⟩ := rd_some hsn
    obtain ⟨k, rfl⟩ : ∃ m, k = m + 1 := ⟨k - 1, by omega⟩
    have hset : ∀ j, j < n → (seen.set (p i) (i : Int))[j]? = if p i = j then some (i : Int) else seen[j]? := by
      intro j hj
      rw [List.getElem?_set]
      by_cases h : p i = j
      · rw [if_pos h, if_pos h, if_pos (by omega)]
      · rw [if_neg h, if_neg h]
    obtain ⟨seen', h1, h2, h3⟩ := from_path n nx b hlen hn p L hL hlt hst hinj d k (i + 1) ((p (i + 1) : Nat) : Int) (seen.set (p i) (i : Int)) (by omega) (by omega) (fun _ => rfl) (by simpa using hs)
      (by
        intro j hj
        rw [hset _ (hlt j (by omega))]
        by_cases h : p i = p j
        · have := hinj i hiL j (by omega) h
          rw [if_pos h, this]
        · rw [if_neg h]
          exact hin j (by rcases Nat.lt_or_ge j i with h' | h'
                          · exact h'
                          · exact absurd (by rw [show j = i by omega]) h))
      (by
        intro s hs' hj
        rw [hset _ hs', if_neg (hj i (by omega))]
        exact hout s hs' (fun j hj' => hj j (by omega)))
    refine ⟨seen', h1, h2, ?_⟩
    have e : ringL (i + 1) p = ringL i p ++ [((p i : Nat) : Int)] := by simp [ringL, List.range_succ]
    rw [impl_Counter_ringFrom.l0, if_pos (by omega), if_pos (by rw [hs]; omega), hrs, if_pos (by omega), if_pos (by rw [ringL_len]; omega), if_pos (by rw [hlen]; omega), hr, ringL_len, ← e]
    rw [show k + 1 - (d + 1) = k - d by omega, Int.toNat_natCast, h3, if_pos (show 0 < L by omega), if_pos (show 0 < L by omega)]
/-- .. and its end, where the path comes back to place t. -/
theorem from_end (n : Nat) (nx : List Int) (b : Int) (hlen : nx.length = n) (hn : n ≤ 64) (hn1 : 1 ≤ n) (p : Nat → Nat) (L t : Nat) (hL : L ≤ 100) (ht : t < L) (hlt : ∀ i, i ≤ L → p i < n) (hst : ∀ i, i < L → nx[p i]? = some ((p (i + 1) : Nat) : Int))
    (hinj : ∀ i, i < L → ∀ j, j < L → p i = p j → i = j) (hback : p L = p t) (q : Nat) (hq : t ≤ q) (hqL : q < L) (hmin : ∀ i, t ≤ i → i < L → p q ≤ p i) (k : Nat) (hk : 300 < k) :
    impl_Counter_ringFrom.f k b nx ((p 0 : Nat) : Int) = some (((ringL L p).drop t).drop (q - t) ++ ((ringL L p).drop t).take (q - t), (t : Int)) := by
  unfold impl_Counter_ringFrom.f slices_Repeat_int_int.f
  have hc : ([(-1 : Int)] : List Int).length = 1 ∧ 0 ≤ (nx.length : Int) ∧ (nx.length : Int) ≤ 1000 := ⟨rfl, by omega, by omega⟩
  rw [if_pos hc, Option.bind_some]
  obtain ⟨seen', h1, h2, h3⟩ := from_path n nx b hlen hn p L hL hlt hst hinj L k 0 ((p 0 : Nat) : Int) (List.replicate (nx.length : Int).toNat (rd [(-1)] 0)) (by omega) (by omega) (fun h => absurd h (by omega)) (by simp [hlen]) (fun j hj => absurd hj (by omega)) (by
    intro s hs _
    rw [List.getElem?_replicate, if_pos (by simpa [hlen] using hs)]; rfl)
  have h3' : impl_Counter_ringFrom.l0 k ((p 0 : Nat) : Int) (List.replicate (nx.length : Int).toNat (rd [(-1)] 0)) [] ((p 0 : Nat) : Int) b nx = _ := h3
  rw [h3', if_pos (by omega)]
  obtain ⟨k', hk'⟩ : ∃ m, k - L = m + 1 := ⟨k - L - 1, by omega⟩
  have hseen := h2 t ht
  rw [← hback] at hseen
  obtain ⟨hr, _⟩ := rd_some hseen
  have hpL := hlt L (by omega)
  have hd : ((ringL L p).drop t).length = L - t := by simp [ringL_len]
  have hget : ∀ i, t ≤ i → i < L → ((ringL L p).drop t)[i - t]? = some ((p i : Nat) : Int) := by
    intro i h1 h2
    rw [List.getElem?_drop, show t + (i - t) = i by omega, ringL_get _ _ _ h2]
  have hmem : ∀ x ∈ (ringL L p).drop t, ∃ i, t ≤ i ∧ i < L ∧ x = ((p i : Nat) : Int) := by
    intro x hx
    obtain ⟨j, hj, rfl⟩ := List.getElem_of_mem hx
    rw [hd] at hj
    refine ⟨t + j, by omega, by omega, ?_⟩
    have := hget (t + j) (by omega) (by omega)
    rw [show t + j - t = j by omega, List.getElem?_eq_getElem (by rw [hd]; exact hj)] at this
    exact Option.some.inj this
  have hmn : slices_Min_int64_int64.f k' ((ringL L p).drop t) = some ((p q : Nat) : Int) :=
    min_is _ _ (by omega) (List.mem_of_getElem? (hget q hq hqL)) (fun x hx => by
      obtain ⟨i, a1, a2, rfl⟩ := hmem x hx
      have := hmin i a1 a2
      omega) k' (by omega)
  have hix : slices_Index_int64_int64.f k' ((ringL L p).drop t) ((p q : Nat) : Int) = some (((q - t : Nat)) : Int) :=
    index_is _ _ (q - t) (by omega) (hget q hq hqL) (fun i hi he => by
      have h5 := hget (t + i) (by omega) (by omega)
      rw [show t + i - t = i by omega, he] at h5
      have h6 := Option.some.inj h5
      have := hinj q hqL (t + i) (by omega) (by omega)
      omega) k' (by omega)
  rw [hk', impl_Counter_ringFrom.l0, if_pos (by omega), if_pos (by omega), hr, if_neg (by omega), if_neg (by rw [ringL_len]; omega), if_pos (by omega), if_pos (by omega), if_pos (by omega), if_pos (by rw [ringL_len]; omega), Option.bind_some]
  rw [show ((t : Nat) : Int).toNat = t from rfl, hmn, Option.bind_some, hix, Option.bind_some, if_pos (by omega), if_pos (by rw [hd]; omega)]
  rw [show (((q - t : Nat)) : Int).toNat = q - t from rfl]
  show ((if _ ∧ _ then some _ else none : Option (List Int)).bind _) = _
  rw [if_pos ⟨by simp [ringL_len]; omega, by simp [ringL_len]; omega⟩, Option.bind_some]

theorem from_in {n m : Nat} {nx : List Int} {c : Nat → Nat} (h : Cyc n m nx c) (b : Int) (x : Nat) (hx : x < m) (k : Nat) (hk : 300 < k) : impl_Counter_ringFrom.f k b nx ((c x : Nat) : Int) = some (ringL m c, 0) := by
  have hm := h.hm
  have hmn := h.mn
  have hn := h.hn
  have hq : (x + (m - x) % m) % m = 0 := by
    rcases Nat.eq_zero_or_pos x with h0 | h0
    · subst h0; simp
    · rw [Nat.mod_eq_of_lt (show m - x < m by omega), show x + (m - x) = m by omega, Nat.mod_self]
  have hqm : (m - x) % m < m := Nat.mod_lt _ hm
  have inj2 : ∀ i, i < m → ∀ j, j < m → (x + i) % m = (x + j) % m → i = j := by
    intro i hi j hj he
    have a1 : (x + i) % m = if x + i < m then x + i else x + i - m := by
      split
      · exact Nat.mod_eq_of_lt ‹_›
      · rw [Nat.mod_eq_sub_mod (by omega), Nat.mod_eq_of_lt (by omega)]
    have a2 : (x + j) % m = if x + j < m then x + j else x + j - m := by
      split
      · exact Nat.mod_eq_of_lt ‹_›
      · rw [Nat.mod_eq_sub_mod (by omega), Nat.mod_eq_of_lt (by omega)]
    rw [a1, a2] at he
    split at he <;> split at he <;> omega
  have := from_end n nx b h.len hn (by omega) (fun i => c ((x + i) % m)) m 0 (by omega) hm (fun i _ => h.lt _ (Nat.mod_lt _ hm))
    (fun i _ => by
      have := h.step ((x + i) % m) (Nat.mod_lt _ hm)
      rw [Nat.mod_add_mod] at this
      exact this)
    (fun i hi j hj he => inj2 i hi j hj (h.inj _ (Nat.mod_lt _ hm) _ (Nat.mod_lt _ hm) he))
    (by show c ((x + m) % m) = c ((x + 0) % m); rw [Nat.add_mod_right, Nat.add_zero])
    ((m - x) % m) (Nat.zero_le _) hqm (fun i _ _ => by
      show c ((x + (m - x) % m) % m) ≤ _
      rw [hq, h.zero]
      exact Nat.zero_le _) k hk
  rw [Nat.add_zero, Nat.mod_eq_of_lt hx] at this
  rw [this]
  congr 2
  rw [List.drop_zero, Nat.sub_zero]
  apply List.ext_getElem?
  intro j
  have hl : (ringL m fun i => c ((x + i) % m)).length = m := ringL_len _ _
  rcases Nat.lt_or_ge j m with hj | hj
  · rw [ringL_get m c j hj, List.getElem?_append]
    have hdl : ((ringL m fun i => c ((x + i) % m)).drop ((m - x) % m)).length = m - (m - x) % m := by simp [hl]
    rw [hdl]
    split
    · rename_i h1
      rw [List.getElem?_drop, ringL_get _ _ _ (by omega), ← Nat.add_assoc, ← Nat.mod_add_mod, hq, Nat.zero_add, Nat.mod_eq_of_lt hj]
    · rename_i h1
      rw [List.getElem?_take, if_pos (by omega), ringL_get _ _ _ (by omega)]
      congr 3
      have e1 : x + (j - (m - (m - x) % m)) = j := by
        rcases Nat.eq_zero_or_pos x with h0 | h0
        · subst h0
          rw [Nat.sub_zero, Nat.mod_self] at h1
          omega
        · rw [Nat.mod_eq_of_lt (show m - x < m by omega)] at h1 ⊢
          omega
      rw [e1, Nat.mod_eq_of_lt hj]
  · rw [List.getElem?_eq_none (by simp [hl]; omega), List.getElem?_eq_none (by rw [ringL_len]; exact hj)]
theorem from_out {n m : Nat} {nx : List Int} {c : Nat → Nat} (h : Cyc n m nx c) (b : Int) (s : Nat) (hs : s < n) (ho : ∀ y, y < m → c y ≠ s) (k : Nat) (hk : 300 < k) : ∃ l : List Int, 0 < l.length ∧ impl_Counter_ringFrom.f k b nx (s : Int) = some (l, 1) := by
  have hm := h.hm
  have hmn := h.mn
  have hn := h.hn
  obtain ⟨p, hp⟩ : ∃ p : Nat → Nat, p = fun i => if i = 0 then s else c ((i - 1) % m) := ⟨_, rfl⟩
  have p0 : p 0 = s := by rw [hp]; rfl
  have pS : ∀ i, p (i + 1) = c (i % m) := fun i => by rw [hp]; simp
  have := from_end n nx b h.len hn (by omega) p (m + 1) 1 (by omega) (by omega)
    (fun i _ => by
      cases i with
      | zero => rw [p0]; exact hs
      | succ i => rw [pS]; exact h.lt _ (Nat.mod_lt _ hm))
    (fun i hi => by
      cases i with
      | zero => rw [p0, pS, Nat.zero_mod, h.zero]; exact h.out s hs ho
      | succ i =>
        rw [pS, pS]
        have := h.step (i % m) (Nat.mod_lt _ hm)
        rw [Nat.mod_add_mod] at this
        exact this)
    (fun i hi j hj he => by
      cases i with
      | zero =>
        cases j with
        | zero => rfl
        | succ j => rw [p0, pS] at he; exact absurd he.symm (ho _ (Nat.mod_lt _ hm))
      | succ i =>
        cases j with
        | zero => rw [p0, pS] at he; exact absurd he (ho _ (Nat.mod_lt _ hm))
        | succ j =>
          rw [pS, pS] at he
          have := h.inj _ (Nat.mod_lt _ hm) _ (Nat.mod_lt _ hm) he
          rw [Nat.mod_eq_of_lt (by omega), Nat.mod_eq_of_lt (by omega)] at this
          omega)
    (by rw [pS, show (1 : Nat) = 0 + 1 from rfl, pS, Nat.mod_self, Nat.zero_mod])
    1 (Nat.le_refl _) (by omega) (fun i h1 _ => by
      rw [show (1 : Nat) = 0 + 1 from rfl, pS, Nat.zero_mod, h.zero]; exact Nat.zero_le _) k hk
  rw [p0] at this
  refine ⟨_, ?_, this⟩
  simp [ringL_len]
  omega
end Go.Proofs.Ytnpgmkikdnlnaaa.X

/- Facts of small counters, by the kernel's reckoning. Conditions: as each lemma says. -/
namespace Go.Proofs.Ytnpgmkikdnlnaaa.X
open Go.RowKit Go.Proofs.YtnpgmkikdnlnaaaW.PrintWords Go.Proofs.YtnpgmkikdnlnaaaW.PrintLast Go.Proofs.YtnpgmkikdnlnaaaW.PrintMore
set_option linter.unusedVariables false
set_option linter.unusedSimpArgs false
def BL (b m : Nat) : List Int := (List.range (2 ^ b)).map fun x => if x + 1 < m then ((x + 1 : Nat) : Int) else 0
def gry (y : Nat) : Nat := y ^^^ (y / 2)
def ugr (y : Nat) : Nat := y ^^^ (y / 2) ^^^ (y / 4) ^^^ (y / 8) ^^^ (y / 16) ^^^ (y / 32)
def RL (b : Nat) : List Int := (List.range (2 ^ b)).map fun s => ((gry ((ugr s + 1) % 2 ^ b) : Nat) : Int)
def eqCtr3 (o : Option (Int × List Int × Bool)) (b : Int) (l : List Int) : Bool := match o with
  | some (c, m, true) => c == b && m == l
  | _ => false
theorem eqCtr3_is {o : Option (Int × List Int × Bool)} {b : Int} {l : List Int} (h : eqCtr3 o b l = true) : o = some (b, l, true) := by
  unfold eqCtr3 at h
  split at h
  · simp only [Bool.and_eq_true, beq_iff_eq] at h
    rw [h.1, h.2]
  · cases h
def isT (o : Option Bool) : Bool := match o with
  | some true => true
  | _ => false
theorem isT_is {o : Option Bool} (h : isT o = true) : o = some true := by
  unfold isT at h
  split at h
  · rfl
  · cases h
theorem bl_all : ((List.range 7).all fun b => b == 0 || (List.range (2 ^ b + 1)).all fun m => m == 0 || (eqCtr3 (impl_BinaryCounter.f 100 ((b : Nat) : Int) ((m : Nat) : Int)) ((b : Nat) : Int) (BL b m) && isT (impl_ValidCounter.f 100 ((b : Nat) : Int) (BL b m)))) = true := by decide +kernel
theorem bl_dec (b : Nat) (hb : b < 7) (hb1 : 1 ≤ b) (m : Nat) (hm : m ≤ 2 ^ b) (hm1 : 1 ≤ m) : impl_BinaryCounter.f 100 ((b : Nat) : Int) ((m : Nat) : Int) = some ((b : Int), BL b m, true) ∧ impl_ValidCounter.f 100 ((b : Nat) : Int) (BL b m) = some true := by
  have h := List.all_eq_true.1 bl_all b (by simpa using hb)
  rw [Bool.or_eq_true, beq_iff_eq] at h
  have h := List.all_eq_true.1 (h.resolve_left (by omega)) m (by simp; omega)
  rw [Bool.or_eq_true, beq_iff_eq] at h
  have h := h.resolve_left (by omega)
  rw [Bool.and_eq_true] at h
  exact ⟨eqCtr3_is h.1, isT_is h.2⟩
theorem rl_all : ((List.range 7).all fun b => b == 0 || (eqCtr3 (impl_ReflectedCounter.f 100 ((b : Nat) : Int)) ((b : Nat) : Int) (RL b) && isT (impl_ValidCounter.f 100 ((b : Nat) : Int) (RL b)))) = true := by decide +kernel
theorem rl_dec (b : Nat) (hb : b < 7) (hb1 : 1 ≤ b) : impl_ReflectedCounter.f 100 ((b : Nat) : Int) = some ((b : Int), RL b, true) ∧ impl_ValidCounter.f 100 ((b : Nat) : Int) (RL b) = some true := by
  have h := List.all_eq_true.1 rl_all b (by simpa using hb)
  rw [Bool.or_eq_true, beq_iff_eq] at h
  have h := h.resolve_left (by omega)
  rw [Bool.and_eq_true] at h
  exact ⟨eqCtr3_is h.1, isT_is h.2⟩
theorem gry_dec : ∀ b < 7, 1 ≤ b → (∀ y < 2 ^ b, gry y < 2 ^ b ∧ ugr (gry y) = y ∧ (RL b)[gry y]? = some ((gry ((y + 1) % 2 ^ b) : Nat) : Int)) ∧ gry 0 = 0 ∧ ∀ s < 2 ^ b, ∃ y < 2 ^ b, gry y = s := by decide +kernel
theorem state_dec : ∀ b < 7, 1 ≤ b → ∀ s < 2 ^ b, impl_isStateOf.f ((b : Nat) : Int) ((s : Nat) : Int) = some true := by decide +kernel
theorem code_dec : ∀ b < 7, 1 ≤ b → ∀ x < 2 ^ b, impl_reflected.f ((x : Nat) : Int) = some ((gry x : Nat) : Int) ∧ impl_fromReflected.f 100 ((gry x : Nat) : Int) = some ((x : Nat) : Int) := by decide +kernel
theorem diff_dec : ∀ b < 7, 1 ≤ b → ∀ x < 2 ^ b, bits_OnesCount64.f (IntKind.u64.wrap (Go.bits .xor .i64 ((gry x : Nat) : Int) ((gry ((x + 1) % 2 ^ b) : Nat) : Int))) = some 1 := by decide +kernel
theorem ring_dec : ∀ b < 7, 1 ≤ b → ∃ l, impl_RingCounter.f 100 ((b : Nat) : Int) = some ((b : Int), l, true) ∧ impl_StateAfter.f 100 ((b : Nat) : Int) l 1 ((b : Nat) : Int) = some (1, true) := by
  have h : ∀ b < 7, 1 ≤ b → (match impl_RingCounter.f 100 ((b : Nat) : Int) with | some (r, l, true) => r == ((b : Nat) : Int) && impl_StateAfter.f 100 ((b : Nat) : Int) l 1 ((b : Nat) : Int) == some (1, true) | _ => false) = true := by decide +kernel
  intro b hb hb1
  have := h b hb hb1
  split at this
  · rename_i r l e
    simp only [Bool.and_eq_true, beq_iff_eq] at this
    exact ⟨l, by rw [e, this.1], this.2⟩
  · cases this
theorem twist_dec : ∀ b < 7, 1 ≤ b → ∃ l, impl_TwistedCounter.f 100 ((b : Nat) : Int) = some ((b : Int), l, true) ∧ impl_StateAfter.f 100 ((b : Nat) : Int) l 0 (2 * ((b : Nat) : Int)) = some (0, true) ∧ impl_StateAfter.f 100 ((b : Nat) : Int) l 0 ((b : Nat) : Int) = some (((2 ^ b : Nat) : Int) - 1, true) := by
  have h : ∀ b < 7, 1 ≤ b → (match impl_TwistedCounter.f 100 ((b : Nat) : Int) with | some (r, l, true) => r == ((b : Nat) : Int) && impl_StateAfter.f 100 ((b : Nat) : Int) l 0 (2 * ((b : Nat) : Int)) == some (0, true) && impl_StateAfter.f 100 ((b : Nat) : Int) l 0 ((b : Nat) : Int) == some (((2 ^ b : Nat) : Int) - 1, true) | _ => false) = true := by decide +kernel
  intro b hb hb1
  have := h b hb hb1
  split at this
  · rename_i r l e
    simp only [Bool.and_eq_true, beq_iff_eq] at this
    exact ⟨l, by rw [e, this.1.1], this.1.2, this.2⟩
  · cases this

end Go.Proofs.Ytnpgmkikdnlnaaa.X

