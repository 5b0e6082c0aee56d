/- Moves that are shifted: the plain law of ShiftMoves. Conditions: as each lemma says. -/
import Derived.Test.YtojpibpjieanhaaXMarks
import Derived.Test.YtojpibpjieanhaaXAreMoves
import Derived.Test.YtojpibpjieanhaaXp3
namespace Go.Proofs.Ytojpibpjieanhaa.X
open Go.RowKit Go.Proofs.YtojpibpjieanhaaW.PrintWords Go.Proofs.YtojpibpjieanhaaW.PrintLast Go.Proofs.YtojpibpjieanhaaW.PrintMore
set_option linter.unusedVariables false
set_option linter.unusedSimpArgs false

theorem within_eq (a b c : Int) : impl_within.f a b c = some (decide (b ≤ a ∧ a ≤ c)) := by
  unfold impl_within.f; by_cases h : a ≥ b <;> simp [h] <;> omega
theorem l00In_eq (a b c : Int) : spec_l00In.f a b c = some (decide (b ≤ a ∧ a ≤ c)) := by
  unfold spec_l00In.f; by_cases h : a ≥ b <;> simp [h] <;> omega
theorem toInts_loop (l : List Int) (hl : l.length ≤ 4000000) : ∀ (d k i : Nat) (x : List Int), x.length = l.length → i + d = l.length → d < k → (∀ j, j < i → x[j]? = l[j]?) → laws_toInt64S.l0 k l x i = some l
  | 0, k, i, x, hx, hi, hk, hj => by
    cases k with
    | zero => omega
    | succ k =>
      have e : x = l := by
        apply List.ext_getElem?
        intro j
        rcases Nat.lt_or_ge j l.length with h | h
        · exact hj j (by omega)
        · rw [List.getElem?_eq_none (by omega), List.getElem?_eq_none (by omega)]
      rw [laws_toInt64S.l0, if_neg (by omega), e]
  | d + 1, k, i, x, hx, hi, hk, hj => by
    cases k with
    | zero => omega
    | succ k =>
      have hi2 : i < l.length := by omega
      have ih := toInts_loop l hl d k (i + 1) (x.set i l[i]) (by simpa using hx) (by omega) (by omega) (by
        intro j hlt
        rw [List.getElem?_set]
        by_cases h : i = j
        · subst h; rw [if_pos rfl, if_pos (by omega), List.getElem?_eq_getElem hi2]
        · rw [if_neg h]; exact hj j (by omega))
      rw [laws_toInt64S.l0, if_pos (by omega), if_pos (by omega), if_pos (by omega), w64 (n := (i : Int) + 1) (by omega) (by omega), rd_nat l i hi2, Int.toNat_natCast]
      rw [Int.natCast_add, Int.natCast_one] at ih
      exact ih
theorem toInts_eq (k : Nat) (l : List Int) (hl : l.length ≤ 4000000) (hk : l.length < k) : laws_toInt64S.f k l = some l := by
  unfold laws_toInt64S.f
  rw [if_pos (by omega), if_pos (by omega)]
  exact toInts_loop l hl l.length k 0 _ (by simp) (by omega) hk (fun j h => absurd h (by omega))
/-- A move lies in its bounds. -/
def mv (x : Int) : Bool := decide (-20 ≤ x ∧ x ≤ 20)
theorem are_step (k : Nat) (l : List Int) (n i : Int) : @slices_IndexFunc_int64_int64.l0 areC (k + 1) l n i = (if i < n then (if 0 ≤ i then (if i < (l.length : Int) then (if (!mv (rd l i)) = true then some i else @slices_IndexFunc_int64_int64.l0 areC k l n (wrap64 (i + 1))) else none) else none) else some (-1)) := rfl
theorem are_loop (l : List Int) (hl : l.length ≤ 4000000) : ∀ (d k i : Nat), i + d = l.length → d < k → ∃ r : Int, @slices_IndexFunc_int64_int64.l0 areC k l l.length i = some r ∧ (r ≥ 0 ↔ (l.drop i).all mv = false)
  | 0, k, i, hi, hk => by
    cases k with
    | zero => omega
    | succ k =>
      refine ⟨-1, by rw [are_step, if_neg (by omega)], ?_⟩
      rw [List.drop_eq_nil_of_le (by omega)]; simp
  | d + 1, k, i, hi, hk => by
    cases k with
    | zero => omega
    | succ k =>
      obtain ⟨r, hr, hm⟩ := are_loop l hl d k (i + 1) (by omega) (by omega)
      have hi2 : i < l.length := by omega
      rw [Int.natCast_add, Int.natCast_one] at hr
      rw [are_step, if_pos (by omega), if_pos (by omega), if_pos (by omega), w64 (n := (i : Int) + 1) (by omega) (by omega), rd_nat l i hi2]
      cases h : mv l[i]
      · rw [if_pos (show (!false) = true from rfl)]
        refine ⟨i, rfl, ?_⟩
        rw [List.drop_eq_getElem_cons hi2, List.all_cons, h]
        simp
      · rw [if_neg (by decide)]
        refine ⟨r, hr, ?_⟩
        rw [hm, List.drop_eq_getElem_cons hi2, List.all_cons, h, Bool.true_and]
theorem are_eq (k : Nat) (l : List Int) (hl : l.length ≤ 4000000) (hk : l.length < k) : impl_areMoves.f k l = some (l.all mv) := by
  unfold impl_areMoves.f slices_IndexFunc_int64_int64.f
  obtain ⟨r, hr, hm⟩ := are_loop l hl l.length k 0 (by omega) hk
  rw [Int.natCast_zero] at hr
  rw [hr, Option.bind_some]
  congr 1
  rw [List.drop_zero] at hm
  by_cases h : r ≥ 0
  · rw [decide_eq_true h, hm.1 h]; rfl
  · rw [decide_eq_false h]
    cases ha : l.all mv
    · exact absurd (hm.2 ha) h
    · rfl
theorem moves_loop (l : List Int) (hl : l.length ≤ 4000000) : ∀ (d k i : Nat), i + d = l.length → d < k → spec_l08Moves.l0 k l.length l i = some ((l.drop i).all mv)
  | 0, k, i, hi, hk => by
    cases k with
    | zero => omega
    | succ k => rw [spec_l08Moves.l0, if_neg (by omega), List.drop_eq_nil_of_le (by omega)]; rfl
  | d + 1, k, i, hi, hk => by
    cases k with
    | zero => omega
    | succ k =>
      have ih := moves_loop l hl d k (i + 1) (by omega) (by omega)
      have hi2 : i < l.length := by omega
      rw [Int.natCast_add, Int.natCast_one] at ih
      rw [spec_l08Moves.l0, if_pos (by omega), if_pos (by omega), if_pos (by omega), l00In_eq, Option.bind_some, w64 (n := (i : Int) + 1) (by omega) (by omega), rd_nat l i hi2, ih, List.drop_eq_getElem_cons hi2, List.all_cons]
      have : decide (-20 ≤ l[i] ∧ l[i] ≤ 20) = mv l[i] := rfl
      rw [this]
      cases mv l[i] <;> rfl
theorem moves_eq (k : Nat) (l : List Int) (hl : l.length ≤ 4000000) (hk : l.length < k) : spec_l08Moves.f k l.length l = some (l.all mv) := by
  unfold spec_l08Moves.f
  rw [if_pos rfl]
  exact moves_loop l hl l.length k 0 (by omega) hk
/-- The moves, shifted. -/
def shf (l : List Int) (a : Int) : List Int := l.map fun x => wrap64 (x + a)
theorem shf_len (l : List Int) (a : Int) : (shf l a).length = l.length := by simp [shf]
theorem shf_take (l : List Int) (a : Int) (i : Nat) (hi : i < l.length) : shf (l.take (i + 1)) a = shf (l.take i) a ++ [wrap64 (l[i] + a)] := by
  unfold shf
  rw [show l.take (i + 1) = l.take i ++ [l[i]] by rw [List.take_append_getElem], List.map_append]; rfl
def shGood (l : List Int) (a : Int) : Bool := decide (1 ≤ (l.length : Int) ∧ (l.length : Int) ≤ 8) && (l.all mv && (decide (-40 ≤ a ∧ a ≤ 40) && (shf l a).all mv))
def shRes (l : List Int) (a : Int) : List Int × Bool := if shGood l a = true then (shf l a, true) else ([], false)
theorem impl_shift_loop (l : List Int) (a : Int) (hl : l.length ≤ 4000000) : ∀ (d k i : Nat), i + d = l.length → 4000001 + d < k → impl_ShiftMoves.l0 k l a (shf (l.take i) a) l l.length i = some (shRes l a)
  | 0, k, i, hi, hk => by
    cases k with
    | zero => omega
    | succ k =>
      rw [impl_ShiftMoves.l0, if_neg (by omega), within_eq, Option.bind_some, are_eq k l hl (by omega), Option.bind_some, within_eq, Option.bind_some, List.take_of_length_le (by omega), are_eq k _ (by rw [shf_len]; exact hl) (by rw [shf_len]; omega), Option.bind_some]
      unfold shRes shGood
      cases decide (1 ≤ (l.length : Int) ∧ (l.length : Int) ≤ 8) <;> cases l.all mv <;> cases decide (-40 ≤ a ∧ a ≤ 40) <;> cases (shf l a).all mv <;> rfl
  | d + 1, k, i, hi, hk => by
    cases k with
    | zero => omega
    | succ k =>
      have ih := impl_shift_loop l a hl d k (i + 1) (by omega) (by omega)
      have hi2 : i < l.length := by omega
      rw [shf_take l a i hi2, Int.natCast_add, Int.natCast_one] at ih
      rw [impl_ShiftMoves.l0, if_pos (by omega), if_pos (by omega), if_pos (by omega), if_pos (by rw [shf_len, List.length_take]; omega), rd_nat l i hi2, w64 (n := (i : Int) + 1) (by omega) (by omega)]
      exact ih
theorem impl_shift (k : Nat) (l : List Int) (a : Int) (hl : l.length ≤ 4000000) (hk : 9000000 < k) : impl_ShiftMoves.f k l a = some (shRes l a) := by
  unfold impl_ShiftMoves.f
  exact impl_shift_loop l a hl l.length k 0 (by omega) (by omega)
theorem spec_shift_loop (l : List Int) (a : Int) (hl : l.length ≤ 4000000) : ∀ (d k i : Nat), i + d = l.length → 4000001 + d < k → spec_ShiftMoves.l0 k l a (shf (l.take i) a) i = some (if (shf l a).all mv = true then (shf l a, true) else ([], false))
  | 0, k, i, hi, hk => by
    cases k with
    | zero => omega
    | succ k =>
      have hm := moves_eq k (shf l a) (by rw [shf_len]; exact hl) (by rw [shf_len]; omega)
      rw [shf_len] at hm
      rw [spec_ShiftMoves.l0, if_neg (by omega), List.take_of_length_le (by omega), hm, Option.bind_some]
      cases (shf l a).all mv <;> rfl
  | d + 1, k, i, hi, hk => by
    cases k with
    | zero => omega
    | succ k =>
      have ih := spec_shift_loop l a hl d k (i + 1) (by omega) (by omega)
      have hi2 : i < l.length := by omega
      rw [shf_take l a i hi2, Int.natCast_add, Int.natCast_one] at ih
      rw [spec_ShiftMoves.l0, if_pos (by omega), if_pos (by omega), if_pos (by rw [shf_len, List.length_take]; omega), rd_nat l i hi2, w64 (n := (i : Int) + 1) (by omega) (by omega)]
      exact ih
theorem spec_shift (k : Nat) (l : List Int) (a : Int) (hl : l.length ≤ 4000000) (hk : 9000000 < k) : spec_ShiftMoves.f k l a = some (shRes l a) := by
  unfold spec_ShiftMoves.f
  rw [l00In_eq, Option.bind_some, moves_eq k l hl (by omega), Option.bind_some, l00In_eq, Option.bind_some]
  cases k with
  | zero => omega
  | succ k =>
    rw [spec_ShiftMoves.j0, spec_ShiftMoves.j0, if_pos rfl]
    have hs := spec_shift_loop l a hl l.length k 0 (by omega) (by omega)
    rw [show shf (l.take 0) a = [] from rfl, Int.natCast_zero] at hs
    rw [hs]
    unfold shRes shGood
    cases decide (1 ≤ (l.length : Int) ∧ (l.length : Int) ≤ 8) <;> cases l.all mv <;> cases decide (-40 ≤ a ∧ a ≤ 40) <;> cases (shf l a).all mv <;> rfl
theorem shRes_len (l : List Int) (a : Int) : (shRes l a).1.length ≤ 8 := by
  unfold shRes
  cases h : shGood l a
  · simp
  · unfold shGood at h
    rw [Bool.and_eq_true, decide_eq_true_eq] at h
    rw [if_pos rfl]
    show (shf l a).length ≤ 8
    rw [shf_len]; omega
theorem FnExactShiftMoves_pure : laws_FnExactShiftMoves.Pure := by
  intro l a _ _ _ _
  refine ⟨9000010 + 3, ?_⟩
  unfold laws_FnExactShiftMoves.f
  by_cases hbig : (l.length : Int) > 1048576
  · rw [if_pos hbig]
  · rw [if_neg hbig]
    have hl : l.length ≤ 4000000 := by omega
    have hr := shRes_len l a
    have hi := fun k hk => impl_shift k l a hl hk
    have hb : ∀ b : Bool, ¬ (b != b) = true := by intro b; simp
    have hb2 : ∀ b : Bool, (b != b) = false := by intro b; simp
    rw [toInts_eq _ l hl (by omega), Option.bind_some, spec_shift _ l a hl (by omega), Option.bind_some, Option.bind_some, hi _ (by omega), Option.bind_some]
    generalize shRes l a = R at hr hi
    rw [eqInt64S_refl _ R.1 (by omega) (by omega), Option.bind_some, if_pos rfl, laws_FnExactShiftMoves.j0, if_neg (hb _), toInts_eq _ l hl (by omega), Option.bind_some, eqInt64S_refl _ l hl (by omega), Option.bind_some, if_pos rfl, markInt64S_eq _ l 1 (by omega) (by omega) hl (by omega), Option.bind_some]
    simp only
    rw [if_neg (by omega), eqInt64S_refl _ R.1 (by omega) (by omega), Option.bind_some, if_pos rfl, laws_FnExactShiftMoves.j1, if_neg (hb _), markInt64S_eq _ R.1 1 (by omega) (by omega) (by omega) (by omega), Option.bind_some]
    simp only
    rw [heldInt64S_eq _ 1 _ (by omega) (by omega) (by omega) (by omega), Option.bind_some, if_neg (by omega), if_pos rfl, toInts_eq _ l hl (by omega), Option.bind_some, hi _ (by omega), Option.bind_some, eqInt64S_refl _ R.1 (by omega) (by omega), Option.bind_some, if_pos rfl, laws_FnExactShiftMoves.j2, if_neg (hb _), heldInt64S_eq _ 1 _ (by omega) (by omega) (by omega) (by omega), Option.bind_some, if_neg (by omega), if_pos rfl]
end Go.Proofs.Ytojpibpjieanhaa.X
