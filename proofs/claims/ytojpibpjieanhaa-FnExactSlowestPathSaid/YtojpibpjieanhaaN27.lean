/- My own texts of this seat and its words, merged: Xp15, Xp46, CNums, CSets, CGraph, COpen, CForm, CRings, Xp49, Xp50, Xp20, Xp80, Xp52, Xp22. Conditions: as each lemma says. -/
import Derived.Test.YtojpibpjieanhaaN21
import Derived.Test.YtojpibpjieanhaaN23
import Derived.Test.YtojpibpjieanhaaN22
import Derived.Test.YtojpibpjieanhaaN24
import Derived.Test.YtojpibpjieanhaaN25
section
-- Written by a program of this session out of the kit's print of the loaded functions: a plain function of a Go function, and its contract.
namespace Go.Proofs.Ytojpibpjieanhaa.X
open Go.RowKit Go.Proofs.YtojpibpjieanhaaW.PrintWords Go.Proofs.YtojpibpjieanhaaW.PrintLast Go.Proofs.YtojpibpjieanhaaW.PrintMore
attribute [local go_sem] max2_int min2_int max_two min_two max_three min_three max_four min_four   -- for this text's walks alone
set_option linter.unusedVariables false
set_option linter.unusedSimpArgs false
def laws_toInt64S.l0 : Nat → List Int → List Int → Int → Option (List Int)
 | 0, _, _, _ => none
 | k + 1, x0, x3, x4 => if x4 < (x0.length : Int) then (if 0 ≤ x4 then (if x4 < (x3.length : Int) then (laws_toInt64S.l0 k x0 (x3.set (x4 : Int).toNat (rd x0 x4)) (wrap64 (x4 + 1))) else (none)) else (none)) else (some x3)
def laws_toInt64S.f (k : Nat) (l0 : List Int) : Option (List Int) := if 0 ≤ (l0.length : Int) then (if ((l0.length : Int) : Int).toNat ≤ 35184372088832 then (laws_toInt64S.l0 k l0 (List.replicate ((l0.length : Int) : Int).toNat 0) 0) else (none)) else (none)
set_option maxHeartbeats 8000000 in
set_option maxRecDepth 100000 in
theorem laws_toInt64S.calls (k : Nat) (A0 : Option Addr) (c0 : Nat) (l0 : List Int) (r : List Int) (w : World) (hr0 : Kd.C (Kd.int .i64) w A0 l0.length l0) (hc0 : l0.length ≤ c0) (h : laws_toInt64S.f k l0 = some r) :
  Calls Try.prog 15 #[.slice A0 l0.length c0] w fun e w' => ∃ v0_ : Value, e = .returned (v0_) ∧ Kd.R (Kd.int .i64) 2 w' w.heap.size (fun _ => True) v0_ r ∧ Below w.heap.size w w' := by
 have HR0 := Aside0.mk hr0
 have HC0 := Aside0.mk hc0
 clear hr0 hc0
 have HB := Aside0.mk (Below.refl w.heap.size w)
 have H : (if 0 ≤ (l0.length : Int) then (if ((l0.length : Int) : Int).toNat ≤ 35184372088832 then (laws_toInt64S.l0 k l0 (List.replicate ((l0.length : Int) : Int).toNat 0) 0) else (none)) else (none)) = some r := h
 clear h
 by_cases c2 : 0 ≤ (l0.length : Int)
 ·rw [if_pos c2] at H
  have c2b0 := eq_true c2
  have c2b1 : decide (0 ≤ (l0.length : Int)) = true := decide_eq_true c2
  clear c2
  by_cases c3 : ((l0.length : Int) : Int).toNat ≤ 35184372088832
  ·rw [if_pos c3] at H
   have c3b0 := eq_true c3
   have c3b1 : decide (((l0.length : Int) : Int).toNat ≤ 35184372088832) = true := decide_eq_true c3
   clear c3
   obtain ⟨y114, hy114⟩ : ∃ y_ : List Int, y_ = (List.replicate ((l0.length : Int) : Int).toNat 0) := ⟨_, rfl⟩
   replace H : (laws_toInt64S.l0 k l0 y114 0) = some r := by first | (rw [hy114]; with_reducible exact H) | (have H2_ := (Option.bind_some _ _).symm.trans H; rw [hy114]; with_reducible exact H2_) | (have H2_ := (Option.bind_some _ _).symm.trans H; with_reducible exact H2_) | with_reducible exact H | (rw [hy114]; exact H) | exact H
   have Ny114 := Aside0.mk hy114
   clear hy114
   have H' := Aside0.mk H
   clear H
   go_enter Try.func15, Try.ntmps15
   go_wp2_with (first | ((with_reducible refine gate_dst (N := 7) rfl ?_); refine Kd.R_make (Kd.int .i64) _ 2 rfl (N := 7) rfl 22 _ _ rfl (l0.length : Int) rfl rfl Try.underlying22 (.int .i64 0) 8 info2 rfl (by decide) (by omega) 0 (ok := fun _ => True) (okp := fun _ => True) rfl (fun _ hk => hk) trivial (of_decide_eq_true (by first | (with_reducible assumption) | assumption)) (Nat.le_trans (Nat.mul_le_mul_right _ (of_decide_eq_true (by first | (with_reducible assumption) | assumption) : (l0.length : Int).toNat ≤ 35184372088832)) (by omega)) (Below.refl _ _) (Nat.le_refl _) ?_; intro v115 w4 ho5 hb hg_ hnew_; clear hg_ hnew_; (first | rw [← Ny114.out] at ho5 | (simp only [Int.reduceToNat] at ho5; rw [← Ny114.out] at ho5)); have n0_ := Aside0.mk (Kd.R_lower ho5 (below_size (by repeat (first | (with_reducible first | exact HB.out | apply below_alloc | apply pw_below_drewN | apply below_drew1) | exact HB.out)))); have n1_ := Aside0.mk (below_step (by repeat (first | (with_reducible first | exact HB.out | apply below_alloc | apply pw_below_drewN | apply below_drew1) | exact HB.out)) hb); clear HB; have HO116 := n0_; have HB := n1_; clear n0_ n1_; clear hb ho5))
   go_loopg [4] k (fun kq v4 w' => ∃ (x3_1 : List Int) (x4_1 : Int), v4 = .int .i64 x4_1 ∧ Aside0 (laws_toInt64S.l0 kq l0 x3_1 x4_1 = some r) ∧ Aside0 (kq ≤ k) ∧ Aside0 (Kd.R (Kd.int .i64) 2 w' w.heap.size (fun _ => True) v115 x3_1) ∧ Aside0 (Below w.heap.size w w'))
   case atStart => exact ⟨(y114), (0), (by first | rfl | (simp; done) | (simp [*]; done)), H', ⟨Nat.le_refl _⟩, ⟨by (with_reducible repeat (first | apply Kd.R_alloc | apply Kd.R_drewN | apply Kd.R_drew)); exact HO116.out⟩, ⟨by repeat (first | (with_reducible first | exact HB.out | apply below_alloc | apply pw_below_drewN | apply below_drew1) | exact HB.out)⟩⟩
   case round =>
    clear H'
    try clear c1
    try clear c2
    try clear c2b0
    try clear c2b1
    try clear p2
    try clear c3
    try clear c3b0
    try clear c3b1
    obtain ⟨x3_1, x4_1, rfl, HA, HK1, HO_3, HB⟩ := hrel
    cases gk with
    | zero => exact absurd HA.out (by simp [laws_toInt64S.l0])
    | succ k1 =>
     have H := HA.out
     clear HA
     simp only [laws_toInt64S.l0] at H
     by_cases c6 : x4_1 < (l0.length : Int)
     ·rw [if_pos c6] at H
      have c6b0 : decide (x4_1 < (l0.length : Int)) = true := decide_eq_true c6
      clear c6
      by_cases c7 : 0 ≤ x4_1
      ·rw [if_pos c7] at H
       have c7b0 : decide (0 ≤ x4_1) = true := decide_eq_true c7
       clear c7
       by_cases c8 : x4_1 < (x3_1.length : Int)
       ·rw [if_pos c8] at H
        have c8b0 : decide (x4_1 < (x3_1.length : Int)) = true := decide_eq_true c8
        clear c8
        obtain ⟨y118, hy118⟩ : ∃ y_ : List Int, y_ = (x3_1.set (x4_1 : Int).toNat (rd l0 x4_1)) := ⟨_, rfl⟩
        replace H : (laws_toInt64S.l0 k1 l0 y118 (wrap64 (x4_1 + 1))) = some r := by first | (rw [hy118]; with_reducible exact H) | (have H2_ := (Option.bind_some _ _).symm.trans H; rw [hy118]; with_reducible exact H2_) | (have H2_ := (Option.bind_some _ _).symm.trans H; with_reducible exact H2_) | with_reducible exact H | (rw [hy118]; exact H) | exact H
        have Ny118 := Aside0.mk hy118
        clear hy118
        have H' := Aside0.mk H
        clear H
        have p117 : 0 ≤ (x4_1 : Int) := of_decide_eq_true (by first | (with_reducible assumption) | assumption)
        have q117 : x4_1 < (l0.length : Int) := of_decide_eq_true (by first | (with_reducible assumption) | assumption)
        obtain ⟨ad117, e117, hx117_0⟩ := Kd.at_int HR0.out x4_1 p117 q117
        cases e117
        replace hx117_0 := (HB.out.cell (World.block_lt_of_cell? w _ hx117_0)).trans hx117_0
        replace p117 := eq_true p117
        replace q117 := eq_true q117
        have p9 : 0 ≤ (x4_1 : Int) := of_decide_eq_true (by first | (with_reducible assumption) | assumption)
        have q9 : (x4_1 : Int) < ((x3_1.length : Int) : Int) := of_decide_eq_true (by first | (with_reducible assumption) | assumption)
        obtain ⟨go9, co9, eo9, gb9, gl9, cl9, HG9⟩ := Kd.R_form HO_3.out (by omega)
        (first | cases eo9 | (injection eo9 with ea_ en_ ec_; (first | subst ea_ | (injection ea_ with ea_; subst ea_)); subst ec_; clear en_))
        have GB9 := Aside0.mk gb9
        have GG9 := Aside0.mk HG9
        clear gb9 gl9 HG9
        obtain ⟨hx9_0, hf9_0⟩ := Kd.R_celln 0 HO_3.out (x4_1 : Int) p9 q9
        replace p9 := eq_true p9
        replace q9 := eq_true q9
        have HP10 := Kd.R_putg HO_3.out (x4_1 : Int) (rd l0 x4_1)
        go_wp2_with (first | ((with_reducible refine gate_store (t := 2) (p := 20) rfl ?_); refine store_event (t := 2) (p := 20) (v := ?vo_w11) (w1 := (wr.setCell ⟨go9, (x4_1 : Int).toNat, none⟩ (.int .i64 (rd l0 x4_1)))) ?hg ?ho ?hn ?hr ?_; (case ho => rfl); (case hg => rfl); (case hn => rfl); (case hr => first | (go_simp; done) | (go_simp; rfl)); intro w11 hw; have hg : wr.grownBy w11 (some go9) := (by rw [hw]; exact HP10.2); have hp_ : Kd.R (Kd.int .i64) 2 w11 w.heap.size (fun _ => True) (.slice (some ⟨go9, 0, none⟩) x3_1.length co9) y118 := (by rw [hw, Ny118.out]; exact HP10.1); clear HP10; have n0_ := Aside0.mk (hp_); have n1_ := Aside0.mk ((by rw [hw]; exact below_set (HB.out) GB9.out : Below w.heap.size w w11)); clear HO_3; clear HB; have HO_3 := n0_; have HB := n1_; clear n0_ n1_; clear hg hw hp_))
        go_roundg k1
        case measure => have := HK1.out; omega
        case rel => exact ⟨(y118), (wrap64 (x4_1 + 1)), (by first | rfl | (simp; done) | (simp [*]; done)), H', ⟨by have := HK1.out; omega⟩, ⟨by (with_reducible repeat (first | apply Kd.R_alloc | apply Kd.R_drewN | apply Kd.R_drew)); exact HO_3.out⟩, ⟨by repeat (first | (with_reducible first | exact HB.out | apply below_alloc | apply pw_below_drewN | apply below_drew1) | exact HB.out)⟩⟩
       ·rw [if_neg c8] at H
        exact absurd H (by simp)
      ·rw [if_neg c7] at H
       exact absurd H (by simp)
     ·rw [if_neg c6] at H
      have c6b0 : decide (x4_1 < (l0.length : Int)) = false := decide_eq_false c6
      clear c6
      obtain rfl := Option.some.inj H
      go_wp2
      go_ret
      exact ⟨_, by first | rfl | (simp [errW_none, errW_some] <;> rfl) | (simp [*, errW_none, errW_some] <;> rfl), by (with_reducible repeat (first | apply Kd.R_alloc | apply Kd.R_drewN | apply Kd.R_drew)); exact HO_3.out, by repeat (first | (with_reducible first | exact HB.out | apply below_alloc | apply pw_below_drewN | apply below_drew1) | exact HB.out)⟩
  ·rw [if_neg c3] at H
   exact absurd H (by simp)
 ·rw [if_neg c2] at H
  exact absurd H (by simp)
end Go.Proofs.Ytojpibpjieanhaa.X
end
section
-- Written by a program of this session out of the kit's print of the loaded functions: a plain function of a Go function, and its contract.
namespace Go.Proofs.Ytojpibpjieanhaa.X
open Go.RowKit Go.Proofs.YtojpibpjieanhaaW.PrintWords Go.Proofs.YtojpibpjieanhaaW.PrintLast Go.Proofs.YtojpibpjieanhaaW.PrintMore
attribute [local go_sem] max2_int min2_int max_two min_two max_three min_three max_four min_four   -- for this text's walks alone
set_option linter.unusedVariables false
set_option linter.unusedSimpArgs false
end Go.Proofs.Ytojpibpjieanhaa.X
end
section
namespace Go.Proofs.Ytojpibpjieanhaa.X
open Go.RowKit Go.Proofs.YtojpibpjieanhaaW.PrintWords Go.Proofs.YtojpibpjieanhaaW.PrintLast Go.Proofs.YtojpibpjieanhaaW.PrintMore
set_option linter.unusedVariables false
set_option linter.unusedSimpArgs false
theorem toInts_loop (l : List Int) (hl : l.length ≤ 4000000) : ∀ (d k i : Nat) (x : List Int), x.length = l.length → i + d = l.length → d < k → (∀ j, j < i → x[j]? = l[j]?) → laws_toInt64S.l0 k l x i = some l
  | 0, k, i, x, hx, hi, hk, hj => by
    cases k with
    | zero => omega
    | succ k =>
      have e : x = l := by
        apply List.ext_getElem?
        intro j
        rcases Nat.lt_or_ge j l.length with h | h
        · exact hj j (by omega)
        · rw [List.getElem?_eq_none (by omega), List.getElem?_eq_none (by omega)]
      rw [laws_toInt64S.l0, if_neg (by omega), e]
  | d + 1, k, i, x, hx, hi, hk, hj => by
    cases k with
    | zero => omega
    | succ k =>
      have hi2 : i < l.length := by omega
      have ih := toInts_loop l hl d k (i + 1) (x.set i l[i]) (by simpa using hx) (by omega) (by omega) (by
        intro j hlt
        rw [List.getElem?_set]
        by_cases h : i = j
        · subst h; rw [if_pos rfl, if_pos (by omega), List.getElem?_eq_getElem hi2]
        · rw [if_neg h]; exact hj j (by omega))
      rw [laws_toInt64S.l0, if_pos (by omega), if_pos (by omega), if_pos (by omega), w64 (n := (i : Int) + 1) (by omega) (by omega), rd_nat l i hi2, Int.toNat_natCast]
      rw [Int.natCast_add, Int.natCast_one] at ih
      exact ih
theorem toInts_eq (k : Nat) (l : List Int) (hl : l.length ≤ 4000000) (hk : l.length < k) : laws_toInt64S.f k l = some l := by
  unfold laws_toInt64S.f
  rw [if_pos (by omega), if_pos (by omega)]
  exact toInts_loop l hl l.length k 0 _ (by simp) (by omega) hk (fun j h => absurd h (by omega))
end Go.Proofs.Ytojpibpjieanhaa.X
end
section
namespace Go.Proofs.Ytojpibpjieanhaa.X
open Go.RowKit Go.Proofs.YtojpibpjieanhaaW.PrintWords Go.Proofs.YtojpibpjieanhaaW.PrintLast Go.Proofs.YtojpibpjieanhaaW.PrintMore
set_option linter.unusedVariables false
set_option linter.unusedSimpArgs false
theorem rd_at (l : List Int) (i : Nat) (h : i < l.length) : rd l (i : Int) = l[i] := rd_nat l i h
theorem has_loop (l : List Int) (v : Int) (hl : l.length ≤ 1000) : ∀ (d i k : Nat), i + d = l.length → d < k → spec_l00Has.l0 k l v i = some (decide (v ∈ l.drop i))
  | 0, i, k, hi, hk => by
    cases k with
    | zero => omega
    | succ k => rw [spec_l00Has.l0, if_neg (by omega), List.drop_of_length_le (by omega)]; simp
  | d + 1, i, k, hi, hk => by
    cases k with
    | zero => omega
    | succ k =>
      have ih := has_loop l v hl d (i + 1) k (by omega) (by omega)
      have hlt : i < l.length := by omega
      rw [spec_l00Has.l0, if_pos (by omega), if_pos (by omega), rd_at l i hlt, List.drop_eq_getElem_cons hlt, w64 (by omega) (by omega)]
      by_cases e : l[i] = v
      · rw [if_pos e]; simp [e]
      · rw [if_neg e]
        rw [Int.natCast_add, Int.natCast_one] at ih
        rw [ih]
        congr 1
        rw [decide_eq_decide, List.mem_cons]
        constructor
        · exact .inr
        · rintro (h | h)
          · exact absurd h.symm e
          · exact h
theorem has_eq (l : List Int) (v : Int) (hl : l.length ≤ 1000) (k : Nat) (hk : l.length < k) : spec_l00Has.f k l v = some (decide (v ∈ l)) := by
  have := has_loop l v hl l.length 0 k (by omega) hk
  simpa [spec_l00Has.f] using this
theorem put_loop (l : List Int) (v : Int) (hv : v ∉ l) (hl : l.length ≤ 1000) : ∀ (d i k : Nat) (out : List Int) (done : Bool), i + d = l.length → out.length ≤ 2 * i + 2 → 2 * d + 1 < k →
    ∃ r, spec_l00Put.l0 k l v out done i = some r ∧ r.length = out.length + d + (if done = true then 0 else 1) ∧ ∀ x, x ∈ r ↔ x ∈ out ∨ x ∈ l.drop i ∨ (done = false ∧ x = v)
  | 0, i, k, out, done, hi, ho, hk => by
    cases k with
    | zero => omega
    | succ k =>
      rw [spec_l00Put.l0, if_neg (by omega), List.drop_of_length_le (by omega)]
      cases done with
      | true => exact ⟨out, by simp, by simp, by simp⟩
      | false => exact ⟨out ++ [v], by rw [if_neg (by decide), if_pos (by omega)], by simp, by simp⟩
  | d + 1, i, k, out, done, hi, ho, hk => by
    cases k with
    | zero => omega
    | succ k =>
    cases k with
    | zero => omega
    | succ k =>
      have hlt : i < l.length := by omega
      have hne : l[i] ≠ v := fun e => hv (e ▸ List.getElem_mem hlt)
      rw [spec_l00Put.l0, if_pos (by omega), List.drop_eq_getElem_cons hlt]
      cases done with
      | true =>
        obtain ⟨r, h1, h2, h3⟩ := put_loop l v hv hl d (i + 1) k (out ++ [l[i]]) true (by omega) (by simp; omega) (by omega)
        refine ⟨r, ?_, by rw [h2]; simp; omega, fun x => by rw [h3]; simp only [List.mem_append, List.mem_cons, List.not_mem_nil, or_false, List.mem_singleton]; grind⟩
        rw [if_pos rfl, spec_l00Put.j1, if_neg (by decide), if_pos (by omega), if_pos (by omega), if_pos (by omega), rd_at l i hlt, w64 (by omega) (by omega)]
        rw [Int.natCast_add, Int.natCast_one] at h1
        exact h1
      | false =>
        rw [if_neg (by decide), if_pos (by omega), rd_at l i hlt, spec_l00Put.j1]
        by_cases hge : l[i] ≥ v
        · obtain ⟨r, h1, h2, h3⟩ := put_loop l v hv hl d (i + 1) k (out ++ [v] ++ [l[i]]) true (by omega) (by simp; omega) (by omega)
          refine ⟨r, ?_, by rw [h2]; simp; omega, fun x => by rw [h3]; simp only [List.mem_append, List.mem_cons, List.not_mem_nil, or_false, List.mem_singleton]; grind⟩
          rw [decide_eq_true hge, if_pos rfl, if_pos (by omega), if_pos (by omega), rd_at l i hlt, if_pos (by omega), if_pos (by omega), Option.bind_some, if_pos (by simp; omega), w64 (by omega) (by omega)]
          rw [Int.natCast_add, Int.natCast_one] at h1
          exact h1
        · obtain ⟨r, h1, h2, h3⟩ := put_loop l v hv hl d (i + 1) k (out ++ [l[i]]) false (by omega) (by simp; omega) (by omega)
          refine ⟨r, ?_, by rw [h2]; simp; omega, fun x => by rw [h3]; simp only [List.mem_append, List.mem_cons, List.not_mem_nil, or_false, List.mem_singleton]; grind⟩
          rw [decide_eq_false hge, if_neg (by decide), if_pos (by omega), if_pos (by omega), if_pos (by omega), rd_at l i hlt, w64 (by omega) (by omega)]
          rw [Int.natCast_add, Int.natCast_one] at h1
          exact h1
theorem put_eq (l : List Int) (v : Int) (hv : v ∉ l) (hl : l.length ≤ 1000) (k : Nat) (hk : 2 * l.length + 1 < k) : ∃ r, spec_l00Put.f k l v = some r ∧ r.length = l.length + 1 ∧ ∀ x, x ∈ r ↔ x ∈ l ∨ x = v := by
  obtain ⟨r, h1, h2, h3⟩ := put_loop l v hv hl l.length 0 k [] false (by omega) (by simp) hk
  exact ⟨r, h1, by rw [h2]; simp, fun x => by rw [h3]; simp⟩
end Go.Proofs.Ytojpibpjieanhaa.X
end
section
namespace Go.Proofs.Ytojpibpjieanhaa.FlowMath
set_option linter.unusedVariables false
set_option linter.unusedSimpArgs false
theorem pigeon : ∀ (n : Nat) (f : Nat → Nat), (∀ i, i ≤ n → f i < n) → ∃ i j, i < j ∧ j ≤ n ∧ f i = f j := by
  intro n
  induction n with
  | zero => intro f h; exact absurd (h 0 (Nat.le_refl _)) (Nat.not_lt_zero _)
  | succ n ih =>
    intro f h
    by_cases hex : ∃ i, i ≤ n ∧ f i = f (n + 1)
    · obtain ⟨i, hi, e⟩ := hex
      exact ⟨i, n + 1, by omega, Nat.le_refl _, e⟩
    · have hne : ∀ i, i ≤ n → f i ≠ f (n + 1) := fun i hi e => hex ⟨i, hi, e⟩
      have hc := h (n + 1) (Nat.le_refl _)
      obtain ⟨i, j, hij, hj, e⟩ := ih (fun i => if f i = n then f (n + 1) else f i) (by
        intro i hi
        have h1 := h i (by omega)
        have h2 := hne i hi
        show (if f i = n then f (n + 1) else f i) < n
        split <;> omega)
      refine ⟨i, j, hij, by omega, ?_⟩
      have h1 := hne i (by omega)
      have h2 := hne j hj
      have e' : (if f i = n then f (n + 1) else f i) = (if f j = n then f (n + 1) else f j) := e
      split at e' <;> split at e' <;> omega
inductive Plus (E : Nat → Nat → Prop) : Nat → Nat → Prop
  | one {a b} : E a b → Plus E a b
  | step {a b c} : E a b → Plus E b c → Plus E a c
theorem Plus.trans {E : Nat → Nat → Prop} {a b c : Nat} (h : Plus E a b) (k : Plus E b c) : Plus E a c := by
  induction h with
  | one e => exact .step e k
  | step e _ ih => exact .step e (ih k)
theorem Plus.snoc {E : Nat → Nat → Prop} {a b c : Nat} (h : Plus E a b) (k : E b c) : Plus E a c := h.trans (.one k)
theorem cycle_of_back (E : Nat → Nat → Prop) (n : Nat) (S : Nat → Prop) (hS : ∀ v, S v → v < n ∧ ∃ u, S u ∧ E u v) (v0 : Nat) (h0 : S v0) : ∃ v, S v ∧ Plus E v v := by
  classical
  let p : {v // S v} → {v // S v} := fun v => ⟨Classical.choose (hS v.1 v.2).2, (Classical.choose_spec (hS v.1 v.2).2).1⟩
  have hp : ∀ v, E (p v).1 v.1 := fun v => (Classical.choose_spec (hS v.1 v.2).2).2
  let s : Nat → {v // S v} := fun k => Nat.rec ⟨v0, h0⟩ (fun _ x => p x) k
  have hs : ∀ k, E (s (k + 1)).1 (s k).1 := fun k => hp (s k)
  have hplus : ∀ d i, Plus E (s (i + d + 1)).1 (s i).1 := by
    intro d
    induction d with
    | zero => intro i; exact .one (hs i)
    | succ d ih => intro i; exact .step (hs (i + d + 1)) (ih i)
  obtain ⟨i, j, hij, _, e⟩ := pigeon n (fun k => (s k).1) (fun i _ => (hS _ (s i).2).1)
  refine ⟨(s i).1, (s i).2, ?_⟩
  have h := hplus (j - i - 1) i
  rw [show i + (j - i - 1) + 1 = j by omega] at h
  have e' : (s i).1 = (s j).1 := e
  rw [← e'] at h
  exact h
noncomputable def cnt (p : Nat → Prop) : Nat → Nat
  | 0 => 0
  | n + 1 => open Classical in cnt p n + if p n then 1 else 0
theorem cnt_le (p : Nat → Prop) (n : Nat) : cnt p n ≤ n := by
  induction n with
  | zero => exact Nat.le_refl _
  | succ n ih => unfold cnt; split <;> omega
theorem cnt_mono {p q : Nat → Prop} (n : Nat) (h : ∀ i, i < n → p i → q i) : cnt p n ≤ cnt q n := by
  induction n with
  | zero => exact Nat.le_refl _
  | succ n ih =>
    have := ih (fun i hi => h i (by omega))
    unfold cnt
    by_cases hp : p n
    · rw [if_pos hp, if_pos (h n (by omega) hp)]; omega
    · rw [if_neg hp]; omega
theorem cnt_lt {p q : Nat → Prop} (n : Nat) (h : ∀ i, i < n → p i → q i) (v : Nat) (hv : v < n) (hq : q v) (hp : ¬ p v) : cnt p n < cnt q n := by
  induction n with
  | zero => omega
  | succ n ih =>
    unfold cnt
    by_cases e : v = n
    · subst e
      have := cnt_mono (p := p) (q := q) v (fun i hi => h i (by omega))
      rw [if_neg hp, if_pos hq]; omega
    · have := ih (fun i hi => h i (by omega)) (by omega)
      by_cases hp' : p n
      · rw [if_pos hp', if_pos (h n (by omega) hp')]; omega
      · rw [if_neg hp']; omega
theorem cnt_lt_n {p : Nat → Prop} (n v : Nat) (hv : v < n) (hp : ¬ p v) : cnt p n < n := by
  have h1 := cnt_lt (p := p) (q := fun _ => True) n (fun _ _ _ => trivial) v hv trivial hp
  have h2 := cnt_le (fun _ => True) n
  omega
noncomputable def rank (E : Nat → Nat → Prop) (n v : Nat) : Nat := cnt (fun u => Plus E v u) n
theorem rank_lt {E : Nat → Nat → Prop} {n : Nat} (hE : ∀ a b, E a b → a < n ∧ b < n) (hac : ∀ v, ¬ Plus E v v) {v u : Nat} (h : E v u) : rank E n u < rank E n v :=
  cnt_lt n (fun _ _ k => .step h k) u (hE _ _ h).2 (.one h) (hac u)
theorem rank_n {E : Nat → Nat → Prop} {n : Nat} (hac : ∀ v, ¬ Plus E v v) {v : Nat} (hv : v < n) : rank E n v < n := cnt_lt_n n v hv (hac v)
theorem Plus.last {E : Nat → Nat → Prop} {a c : Nat} (h : Plus E a c) : ∃ b, E b c ∧ (b = a ∨ Plus E a b) := by
  induction h with
  | one e => exact ⟨_, e, .inl rfl⟩
  | step e k ih =>
    obtain ⟨b, hb, hh⟩ := ih
    refine ⟨b, hb, .inr ?_⟩
    rcases hh with rfl | hh
    · exact .one e
    · exact .step e hh
theorem ring_back {E : Nat → Nat → Prop} {v : Nat} (h : Plus E v v) : ∃ u, Plus E u u ∧ E u v := by
  obtain ⟨b, hb, hh⟩ := h.last
  rcases hh with rfl | hh
  · exact ⟨b, h, hb⟩
  · exact ⟨b, .step hb hh, hb⟩
theorem kahn (E : Nat → Nat → Prop) (n : Nat) (hE : ∀ a b, E a b → a < n ∧ b < n) (L : Nat → Nat → Prop) (h0 : ∀ v, v < n → L 0 v) (hlt : ∀ k v, L k v → v < n)
    (hsub : ∀ k v, L (k + 1) v → L k v) (hled : ∀ k v, L (k + 1) v → ∃ u, L k u ∧ E u v) (hkeep : ∀ k (C : Nat → Prop), (∀ v, C v → L k v) → (∀ v, C v → ∃ u, C u ∧ E u v) → ∀ v, C v → L (k + 1) v) :
    (∃ v, L n v) ↔ ∃ v, Plus E v v := by
  constructor
  · rintro ⟨v, hv⟩
    by_cases hst : ∃ k, k < n ∧ ∀ v, L k v → L (k + 1) v
    · obtain ⟨k, hk, hs⟩ := hst
      have hdown : ∀ d, L (k + d) v → L k v := by
        intro d
        induction d with
        | zero => exact id
        | succ d ih => exact fun h => ih (hsub _ _ h)
      have hkv : L k v := hdown (n - k) (by rw [show k + (n - k) = n by omega]; exact hv)
      obtain ⟨u, _, hu⟩ := cycle_of_back E n (L k) (fun x hx => ⟨hlt k x hx, hled k x (hs x hx)⟩) v hkv
      exact ⟨u, hu⟩
    · have hlow : ∀ k, k ≤ n → cnt (L k) n + k ≤ n := by
        intro k
        induction k with
        | zero => intro _; have := cnt_le (L 0) n; omega
        | succ k ih =>
          intro hk
          have h1 := ih (by omega)
          have hns : ¬ ∀ v, L k v → L (k + 1) v := fun h => hst ⟨k, by omega, h⟩
          obtain ⟨x, hx⟩ := Classical.not_forall.mp hns
          obtain ⟨hx1, hx2⟩ := Classical.not_imp.mp hx
          have := cnt_lt n (fun i _ h => hsub k i h) x (hlt k x hx1) hx1 hx2
          omega
      have h1 := hlow n (Nat.le_refl _)
      have h2 := cnt_lt (p := fun _ => False) (q := L n) n (fun _ _ h => h.elim) v (hlt n v hv) hv (fun h => h)
      omega
  · rintro ⟨v, hv⟩
    have hall : ∀ k v, Plus E v v → L k v := by
      intro k
      induction k with
      | zero => intro v hv; obtain ⟨u, _, hu⟩ := ring_back hv; exact h0 v (hE _ _ hu).2
      | succ k ih => exact fun v hv => hkeep k (fun x => Plus E x x) ih (fun x hx => ring_back hx) v hv
    exact ⟨v, hall n v hv⟩
def relax (d : Nat → Int) (out : Nat → Int) (e : Nat × Nat) : Nat → Int := fun v => if v = e.1 then max (out e.1) (d e.1 + out e.2) else out v
def rnd (d : Nat → Int) (es : List (Nat × Nat)) (out : Nat → Int) : Nat → Int := es.foldl (relax d) out
structure IsSlow (d : Nat → Int) (es : List (Nat × Nat)) (D : Nat → Int) : Prop where
  own : ∀ v, d v ≤ D v
  far : ∀ e, e ∈ es → d e.1 + D e.2 ≤ D e.1
  att : ∀ v, D v = d v ∨ ∃ b, (v, b) ∈ es ∧ D v = d v + D b
theorem fold_max (d : Nat → Int) (D : Nat → Int) (v : Nat) : ∀ (es : List (Nat × Nat)) (m : Int), m ≤ es.foldl (fun m e => if e.1 = v then max m (d v + D e.2) else m) m ∧
    (∀ e, e ∈ es → e.1 = v → d v + D e.2 ≤ es.foldl (fun m e => if e.1 = v then max m (d v + D e.2) else m) m) ∧
    (es.foldl (fun m e => if e.1 = v then max m (d v + D e.2) else m) m = m ∨ ∃ b, (v, b) ∈ es ∧ es.foldl (fun m e => if e.1 = v then max m (d v + D e.2) else m) m = d v + D b) := by
  intro es
  induction es with
  | nil => intro m; exact ⟨Int.le_refl _, by simp, .inl rfl⟩
  | cons e es ih =>
    intro m
    rw [List.foldl_cons]
    obtain ⟨h1, h2, h3⟩ := ih (if e.1 = v then max m (d v + D e.2) else m)
    refine ⟨?_, ?_, ?_⟩
    · refine Int.le_trans ?_ h1; split <;> omega
    · intro x hx hv
      rcases List.mem_cons.mp hx with rfl | hx
      · refine Int.le_trans ?_ h1; rw [if_pos hv]; omega
      · exact h2 x hx hv
    · rcases h3 with h3 | ⟨b, hb, h3⟩
      · rw [h3]
        by_cases hv : e.1 = v
        · rw [if_pos hv]
          by_cases hm : d v + D e.2 ≤ m
          · exact .inl (by omega)
          · exact .inr ⟨e.2, by rw [← hv]; exact List.mem_cons_self .., by omega⟩
        · rw [if_neg hv]; exact .inl rfl
      · exact .inr ⟨b, List.mem_cons_of_mem _ hb, h3⟩
theorem slow_exists (d : Nat → Int) (es : List (Nat × Nat)) (r : Nat → Nat) (hr : ∀ e, e ∈ es → r e.2 < r e.1) : ∃ D, IsSlow d es D := by
  have hk : ∀ k, ∃ D : Nat → Int, (∀ v, r v < k → d v ≤ D v) ∧ (∀ e, e ∈ es → r e.1 < k → d e.1 + D e.2 ≤ D e.1) ∧ (∀ v, r v < k → D v = d v ∨ ∃ b, (v, b) ∈ es ∧ D v = d v + D b) := by
    intro k
    induction k with
    | zero => exact ⟨fun _ => 0, fun _ h => by omega, fun _ _ h => by omega, fun _ h => by omega⟩
    | succ k ih =>
      obtain ⟨D, h1, h2, h3⟩ := ih
      refine ⟨fun v => if r v < k then D v else es.foldl (fun m e => if e.1 = v then max m (d v + D e.2) else m) (d v), ?_, ?_, ?_⟩
      · intro v hv
        show d v ≤ if r v < k then D v else _
        split
        · exact h1 v ‹_›
        · exact (fold_max d D v es (d v)).1
      · intro e he hv
        have hb := hr e he
        show d e.1 + (if r e.2 < k then D e.2 else _) ≤ if r e.1 < k then D e.1 else _
        rw [if_pos (by omega)]
        split
        · exact h2 e he ‹_›
        · exact (fold_max d D e.1 es (d e.1)).2.1 e he rfl
      · intro v hv
        show (if r v < k then D v else _) = d v ∨ ∃ b, (v, b) ∈ es ∧ (if r v < k then D v else _) = d v + (if r b < k then D b else _)
        by_cases hvk : r v < k
        · rw [if_pos hvk]
          rcases h3 v hvk with h | ⟨b, hb, h⟩
          · exact .inl h
          · have : r b < r v := hr (v, b) hb
            exact .inr ⟨b, hb, by rw [if_pos (by omega)]; exact h⟩
        · rw [if_neg hvk]
          rcases (fold_max d D v es (d v)).2.2 with h | ⟨b, hb, h⟩
          · exact .inl h
          · have : r b < r v := hr (v, b) hb
            exact .inr ⟨b, hb, by rw [if_pos (by omega)]; exact h⟩
  -- all ranks of vertices that edges name are bounded
  obtain ⟨m, hm⟩ : ∃ m, ∀ e, e ∈ es → r e.1 < m := by
    clear hk hr
    induction es with
    | nil => exact ⟨0, by simp⟩
    | cons e es ih =>
      obtain ⟨m, hm⟩ := ih
      refine ⟨max m (r e.1 + 1), fun x hx => ?_⟩
      rcases List.mem_cons.mp hx with rfl | hx
      · omega
      · have := hm x hx; omega
  obtain ⟨D, h1, h2, h3⟩ := hk m
  refine ⟨fun v => if r v < m then D v else d v, ?_, ?_, ?_⟩
  · intro v; show d v ≤ if r v < m then D v else d v
    split
    · exact h1 v ‹_›
    · omega
  · intro e he
    have ha := hm e he
    have hb := hr e he
    show d e.1 + (if r e.2 < m then D e.2 else d e.2) ≤ if r e.1 < m then D e.1 else d e.1
    rw [if_pos ha, if_pos (by omega)]; exact h2 e he ha
  · intro v
    show (if r v < m then D v else d v) = d v ∨ ∃ b, (v, b) ∈ es ∧ (if r v < m then D v else d v) = d v + (if r b < m then D b else d b)
    by_cases hv : r v < m
    · rw [if_pos hv]
      rcases h3 v hv with h | ⟨b, hb, h⟩
      · exact .inl h
      · have : r b < r v := hr (v, b) hb
        exact .inr ⟨b, hb, by rw [if_pos (by omega)]; exact h⟩
    · rw [if_neg hv]; exact .inl rfl
def Btw (d D out : Nat → Int) : Prop := ∀ v, d v ≤ out v ∧ out v ≤ D v
theorem btw_relax {d D out : Nat → Int} {es : List (Nat × Nat)} (hD : IsSlow d es D) (h : Btw d D out) (e : Nat × Nat) (he : e ∈ es) : Btw d D (relax d out e) := by
  intro v
  unfold relax
  split
  · rename_i hv
    subst hv
    have h1 := h e.1
    have h2 := h e.2
    have h3 := hD.far e he
    omega
  · exact h v
theorem relax_up {d out : Nat → Int} (e : Nat × Nat) (v : Nat) : out v ≤ relax d out e v := by unfold relax; split <;> (try subst_vars) <;> omega
theorem fold_btw {d D : Nat → Int} {es : List (Nat × Nat)} (hD : IsSlow d es D) : ∀ (l : List (Nat × Nat)) (out : Nat → Int), (∀ e, e ∈ l → e ∈ es) → Btw d D out → Btw d D (l.foldl (relax d) out) ∧ ∀ v, out v ≤ l.foldl (relax d) out v := by
  intro l
  induction l with
  | nil => intro out _ h; exact ⟨h, fun _ => Int.le_refl _⟩
  | cons e l ih =>
    intro out hl h
    obtain ⟨h1, h2⟩ := ih (relax d out e) (fun x hx => hl x (List.mem_cons_of_mem _ hx)) (btw_relax hD h e (hl e (List.mem_cons_self ..)))
    exact ⟨h1, fun v => Int.le_trans (relax_up e v) (h2 v)⟩
theorem fold_reach {d D : Nat → Int} {es : List (Nat × Nat)} (hD : IsSlow d es D) (v b : Nat) (hvb : D v = d v + D b) : ∀ (l : List (Nat × Nat)) (out : Nat → Int), (∀ e, e ∈ l → e ∈ es) → Btw d D out → out b = D b → (v, b) ∈ l → l.foldl (relax d) out v = D v := by
  intro l
  induction l with
  | nil => intro out _ _ _ hm; simp at hm
  | cons e l ih =>
    intro out hl h hb hm
    rw [List.foldl_cons]
    have hB := btw_relax hD h e (hl e (List.mem_cons_self ..))
    have hF := fold_btw hD l (relax d out e) (fun x hx => hl x (List.mem_cons_of_mem _ hx)) hB
    rcases List.mem_cons.mp hm with rfl | hm
    · have h1 : relax d out (v, b) v = D v := by
        have := (h v).2
        unfold relax; rw [if_pos rfl]; simp only; rw [hb]; omega
      have h2 := hF.2 v
      have h3 := (hF.1 v).2
      omega
    · refine ih _ (fun x hx => hl x (List.mem_cons_of_mem _ hx)) hB ?_ hm
      have h2 := relax_up (d := d) (out := out) e b
      have h3 := (hB b).2
      omega
theorem rnd_step {d D : Nat → Int} {es : List (Nat × Nat)} (hD : IsSlow d es D) (r : Nat → Nat) (hr : ∀ e, e ∈ es → r e.2 < r e.1) {out : Nat → Int} (h : Btw d D out) (k : Nat) (hk : ∀ v, r v < k → out v = D v) :
    Btw d D (rnd d es out) ∧ ∀ v, r v < k + 1 → rnd d es out v = D v := by
  have hF := fold_btw hD es out (fun _ h => h) h
  refine ⟨hF.1, fun v hv => ?_⟩
  rcases hD.att v with ha | ⟨b, hb, ha⟩
  · have h1 := (hF.1 v).1
    have h2 := (hF.1 v).2
    unfold rnd; omega
  · exact fold_reach hD v b ha es out (fun _ h => h) h (hk b (by have : r b < r v := hr (v, b) hb; omega)) hb
def rnds (d : Nat → Int) (es : List (Nat × Nat)) : Nat → (Nat → Int)
  | 0 => d
  | k + 1 => rnd d es (rnds d es k)
theorem rnds_slow {d D : Nat → Int} {es : List (Nat × Nat)} (hD : IsSlow d es D) (r : Nat → Nat) (hr : ∀ e, e ∈ es → r e.2 < r e.1) : ∀ k, Btw d D (rnds d es k) ∧ ∀ v, r v < k + 1 → rnds d es k v = D v := by
  intro k
  induction k with
  | zero =>
    refine ⟨fun v => ⟨Int.le_refl _, hD.own v⟩, fun v hv => ?_⟩
    rcases hD.att v with h | ⟨b, hb, _⟩
    · exact h.symm
    · have : r b < r v := hr (v, b) hb; omega
  | succ k ih => exact rnd_step hD r hr ih.1 (k + 1) ih.2
end Go.Proofs.Ytojpibpjieanhaa.FlowMath
end
section
namespace Go.Proofs.Ytojpibpjieanhaa.X
open Go.RowKit Go.Proofs.YtojpibpjieanhaaW.PrintWords Go.Proofs.YtojpibpjieanhaaW.PrintLast Go.Proofs.YtojpibpjieanhaaW.PrintMore Go.Proofs.Ytojpibpjieanhaa.FlowMath
set_option linter.unusedVariables false
set_option linter.unusedSimpArgs false
def WireOk (n : Nat) (w : S55) : Prop := 0 ≤ w.f0 ∧ w.f0 < n ∧ 0 ≤ w.f1 ∧ w.f1 < n ∧ 0 ≤ w.f2 ∧ w.f2 ≤ 20
def Edge (ws : List S55) (a b : Nat) : Prop := ∃ w, w ∈ ws ∧ w.f2 = 0 ∧ w.f0 = (a : Int) ∧ w.f1 = (b : Int)
theorem Edge.lt {ws : List S55} {n : Nat} (hw : ∀ w, w ∈ ws → WireOk n w) {a b : Nat} (h : Edge ws a b) : a < n ∧ b < n := by
  obtain ⟨w, h1, h2, h3, h4⟩ := h
  obtain ⟨_, h5, _, h6, _⟩ := hw w h1
  omega
theorem rdT_at (l : List S55) (i : Nat) (h : i < l.length) : rd_T55 l (i : Int) = l[i] := by
  unfold rd_T55; simp [h]
structure Bfs (ws : List S55) (n v : Nat) (seen list : List Int) (i : Nat) : Prop where
  all : ∀ x, x ∈ list ↔ x = (v : Int) ∨ x ∈ seen
  rng : ∀ x, x ∈ seen → ∃ y : Nat, x = (y : Int) ∧ y < n ∧ Plus (Edge ws) v y
  done : ∀ (j : Nat) (hj : j < list.length), j < i → ∀ w, w ∈ ws → w.f2 = 0 → w.f0 = list[j] → w.f1 ≠ (v : Int) ∧ w.f1 ∈ seen
  le : i ≤ list.length
noncomputable def ringB (ws : List S55) (v : Nat) : Bool := open Classical in decide (Plus (Edge ws) v v)
theorem ringB_true {ws : List S55} {v : Nat} (h : Plus (Edge ws) v v) : ringB ws v = true := by unfold ringB; exact @decide_eq_true _ (Classical.propDecidable _) h
theorem ringB_false {ws : List S55} {v : Nat} (h : ¬ Plus (Edge ws) v v) : ringB ws v = false := by unfold ringB; exact @decide_eq_false _ (Classical.propDecidable _) h
noncomputable def unseen (n : Nat) (seen : List Int) : Nat := cnt (fun y => (y : Int) ∉ seen) n
theorem bfs_end {ws : List S55} {n v : Nat} {seen list : List Int} (h : Bfs ws n v seen list list.length) : ¬ Plus (Edge ws) v v := by
  have key : ∀ a c, Plus (Edge ws) a c → (a : Int) ∈ list → (c : Int) ≠ v ∧ (c : Int) ∈ seen := by
    intro a c hp
    induction hp with
    | one e =>
      intro ha
      obtain ⟨w, h1, h2, h3, h4⟩ := e
      obtain ⟨j, hj, hje⟩ := List.mem_iff_getElem.mp ha
      have := h.done j hj hj w h1 h2 (by rw [hje, h3])
      rw [h4] at this
      exact this
    | step e _ ih =>
      intro ha
      obtain ⟨w, h1, h2, h3, h4⟩ := e
      obtain ⟨j, hj, hje⟩ := List.mem_iff_getElem.mp ha
      have := h.done j hj hj w h1 h2 (by rw [hje, h3])
      rw [h4] at this
      exact ih ((h.all _).2 (.inr this.2))
  intro hp
  exact (key v v hp ((h.all _).2 (.inl rfl))).1 rfl
theorem bfs_in (ws : List S55) (d0 : List Int) (n v : Nat) (hv : v < n) (hn : n ≤ 8) (hm : ws.length ≤ 16) (hw : ∀ w, w ∈ ws → WireOk n w) (i K2 p : Nat) (hK : 100 < K2)
    (next : ∀ (seen list : List Int), Bfs ws n v seen list (i + 1) → (unseen n seen + seen.length ≤ n) → list.length = seen.length + 1 → list.length - (i + 1) + unseen n seen ≤ p → ∀ k, K2 < k → spec_l08Open.l0 k v seen list ((i : Int) + 1) d0 ws = some (ringB ws v)) :
    ∀ (d m : Nat) (seen list : List Int), m + d = ws.length → Bfs ws n v seen list i → i < list.length → (unseen n seen + seen.length ≤ n) → list.length = seen.length + 1 →
      (∀ (j : Nat) (hj : j < ws.length), j < m → ws[j].f2 = 0 → ∀ hi : i < list.length, ws[j].f0 = list[i] → ws[j].f1 ≠ (v : Int) ∧ ws[j].f1 ∈ seen) → list.length - (i + 1) + unseen n seen ≤ p →
      ∀ k, K2 + 2 * d + 1 < k → spec_l08Open.l1 k v seen list i m d0 ws = some (ringB ws v) := by
  intro d
  induction d with
  | zero =>
    intro m seen list hmd hb hi hu hll hp hpp k hk
    cases k with
    | zero => omega
    | succ k =>
      rw [spec_l08Open.l1, if_neg (by omega), w64 (by omega) (by omega)]
      refine next seen list ⟨hb.all, hb.rng, fun j hj hji w hws h2 h3 => ?_, by omega⟩ hu hll hpp k (by omega)
      by_cases e : j = i
      · subst e
        obtain ⟨q, hq, hqe⟩ := List.mem_iff_getElem.mp hws
        have := hp q hq (by omega) (by rw [hqe]; exact h2) hj (by rw [hqe]; exact h3)
        rw [hqe] at this
        exact this
      · exact hb.done j hj (by omega) w hws h2 h3
  | succ d ih =>
    intro m seen list hmd hb hi hu hll hp hpp k hk
    have hlt : m < ws.length := by omega
    obtain ⟨w, hwe⟩ : ∃ w, w = ws[m] := ⟨_, rfl⟩
    have hwm : w ∈ ws := hwe ▸ List.getElem_mem hlt
    obtain ⟨o1, o2, o3, o4, o5, o6⟩ := hw w hwm
    cases k with
    | zero => omega
    | succ k =>
    cases k with
    | zero => omega
    | succ k =>
      rw [spec_l08Open.l1, if_pos (by omega), if_pos (by omega), if_pos (by omega), if_pos (by omega), rdT_at ws m hlt, ← hwe, rd_at list i hi]
      -- a wire that isn't of this vertex, or has registers
      have skip : ¬ (w.f2 = 0 ∧ w.f0 = list[i]) → spec_l08Open.l1 k v seen list i ((m : Int) + 1) d0 ws = some (ringB ws v) := by
        intro hns
        have := ih (m + 1) seen list (by omega) hb hi hu hll (fun j hj hjm h2 hi' h3 => by
          by_cases e : j = m
          · subst e
            rw [← hwe] at h2 h3 ⊢
            exact absurd ⟨h2, h3⟩ hns
          · exact hp j hj (by omega) h2 hi' h3) hpp k (by omega)
        rw [Int.natCast_add, Int.natCast_one] at this
        exact this
      have hwr : Aside0 (wrap64 ((m : Int) + 1) = (m : Int) + 1) := ⟨w64 (by omega) (by omega)⟩
      by_cases e1 : w.f0 = list[i]
      · rw [if_pos e1]
        by_cases e2 : w.f2 > 0
        · rw [decide_eq_true e2, spec_l08Open.j2, if_pos rfl, hwr.out]
          exact skip (fun h => by omega)
        · rw [decide_eq_false e2, spec_l08Open.j2, if_neg (by decide)]
          have e2' : w.f2 = 0 := by omega
          obtain ⟨a, ha⟩ := Int.eq_ofNat_of_zero_le o1
          obtain ⟨b, hb'⟩ := Int.eq_ofNat_of_zero_le o3
          have hE : Edge ws a b := ⟨w, hwm, e2', ha, hb'⟩
          have hreach : a = v ∨ Plus (Edge ws) v a := by
            have hmem : list[i] ∈ list := List.getElem_mem hi
            rcases (hb.all _).1 hmem with h | h
            · left; omega
            · obtain ⟨y, hy, _, hp⟩ := hb.rng _ h
              right
              have : a = y := by omega
              rw [this]; exact hp
          have hpb : Plus (Edge ws) v b := by
            rcases hreach with h | h
            · subst h; exact .one hE
            · exact h.snoc hE
          by_cases e3 : w.f1 = (v : Int)
          · rw [if_pos e3]
            have : b = v := by omega
            subst this
            rw [ringB_true hpb]
          · rw [if_neg e3, has_eq seen w.f1 (by omega) k (by omega), Option.bind_some]
            by_cases e4 : w.f1 ∈ seen
            · rw [decide_eq_true e4, if_pos rfl, hwr.out]
              have := ih (m + 1) seen list (by omega) hb hi hu hll (fun j hj hjm h2 hi' h3 => by
                by_cases e : j = m
                · subst e
                  rw [← hwe]
                  exact ⟨e3, e4⟩
                · exact hp j hj (by omega) h2 hi' h3) hpp k (by omega)
              rw [Int.natCast_add, Int.natCast_one] at this
              exact this
            · obtain ⟨seen', hs1, hs2, hs3⟩ := put_eq seen w.f1 e4 (by omega) k (by omega)
              rw [decide_eq_false e4, if_neg (by decide), hs1, Option.bind_some, if_pos (by omega), hwr.out]
              have hul : unseen n seen' < unseen n seen := by
                refine cnt_lt n (fun y _ hy hys => hy ((hs3 _).2 (.inl hys))) b (by omega) (by rw [← hb']; exact e4) ?_
                intro h; exact h ((hs3 _).2 (.inr hb'.symm))
              have hget : ∀ (j : Nat) (hj : j < list.length) (hj' : j < (list ++ [w.f1]).length), (list ++ [w.f1])[j] = list[j] := fun j hj hj' => List.getElem_append_left hj
              have := ih (m + 1) seen' (list ++ [w.f1]) (by omega)
                ⟨fun x => by rw [List.mem_append, hb.all, hs3, List.mem_singleton, or_assoc], fun x hx => by
                    rcases (hs3 x).1 hx with h | h
                    · exact hb.rng x h
                    · exact ⟨b, by omega, by omega, hpb⟩,
                  fun j hj hji w' hws h2 h3 => by
                    have hjl : j < list.length := by omega
                    rw [hget j hjl hj] at h3
                    have := hb.done j hjl hji w' hws h2 h3
                    exact ⟨this.1, (hs3 _).2 (.inl this.2)⟩, by simp; omega⟩
                (by simp; omega) (by omega) (by simp; omega)
                (fun j hj hjm h2 hi' h3 => by
                  rw [hget i hi hi'] at h3
                  by_cases e : j = m
                  · subst e
                    rw [← hwe]
                    exact ⟨e3, (hs3 _).2 (.inr rfl)⟩
                  · have := hp j hj (by omega) h2 hi h3
                    exact ⟨this.1, (hs3 _).2 (.inl this.2)⟩) (by simp; omega) k (by omega)
              rw [Int.natCast_add, Int.natCast_one] at this
              exact this
      · rw [if_neg e1, spec_l08Open.j2, if_pos rfl, hwr.out]
        exact skip (fun h => e1 h.2)
theorem unseen_le (n : Nat) (seen : List Int) : unseen n seen ≤ n := cnt_le _ _
theorem bfs_out (ws : List S55) (d0 : List Int) (n v : Nat) (hv : v < n) (hn : n ≤ 8) (hm : ws.length ≤ 16) (hw : ∀ w, w ∈ ws → WireOk n w) :
    ∀ (p i : Nat) (seen list : List Int), list.length - i + unseen n seen ≤ p → Bfs ws n v seen list i → (unseen n seen + seen.length ≤ n) → list.length = seen.length + 1 →
      ∀ k, 200 + 50 * p < k → spec_l08Open.l0 k v seen list i d0 ws = some (ringB ws v) := by
  intro p
  induction p with
  | zero =>
    intro i seen list hp hb hu hll k hk
    cases k with
    | zero => omega
    | succ k =>
      have hle := hb.le
      rw [spec_l08Open.l0, if_neg (by omega)]
      have e : i = list.length := by omega
      subst e
      rw [ringB_false (bfs_end hb)]
  | succ p ih =>
    intro i seen list hp hb hu hll k hk
    cases k with
    | zero => omega
    | succ k =>
      have hle := hb.le
      rw [spec_l08Open.l0]
      by_cases hi : i < list.length
      · rw [if_pos (by omega)]
        exact bfs_in ws d0 n v hv hn hm hw i (200 + 50 * p) p (by omega) (fun seen' list' hb' hu' hll' hpp k' hk' => by
          have := ih (i + 1) seen' list' (by omega) hb' hu' hll' k' (by omega)
          rw [Int.natCast_add, Int.natCast_one] at this
          exact this) ws.length 0 seen list (by omega) hb hi hu hll (fun j hj hjm => by omega) (by omega) k (by omega)
      · rw [if_neg (by omega)]
        have e : i = list.length := by omega
        subst e
        rw [ringB_false (bfs_end hb)]
theorem open_eq (ws : List S55) (d0 : List Int) (n v : Nat) (hv : v < n) (hn : n ≤ 8) (hm : ws.length ≤ 16) (hw : ∀ w, w ∈ ws → WireOk n w) (k : Nat) (hk : 1000 < k) : spec_l08Open.f k d0 ws v = some (ringB ws v) := by
  unfold spec_l08Open.f
  have hu := unseen_le n []
  exact bfs_out ws d0 n v hv hn hm hw (1 + n) 0 [] [(v : Int)] (by simp; omega) ⟨by simp, by simp, fun j hj hji => by omega, by simp⟩ (by simp; omega) rfl k (by omega)
end Go.Proofs.Ytojpibpjieanhaa.X
end
section
namespace Go.Proofs.Ytojpibpjieanhaa.X
open Go.RowKit Go.Proofs.YtojpibpjieanhaaW.PrintWords Go.Proofs.YtojpibpjieanhaaW.PrintLast Go.Proofs.YtojpibpjieanhaaW.PrintMore Go.Proofs.Ytojpibpjieanhaa.FlowMath
set_option linter.unusedVariables false
set_option linter.unusedSimpArgs false
theorem idx_int [C_slices_IndexFunc_int64_int64] (l : List Int) (p : Int → Bool) (hp : ∀ x, x ∈ l → C_slices_IndexFunc_int64_int64.f x = some (p x)) (hl : l.length ≤ 1000) : ∀ (d i k : Nat), i + d = l.length → d < k →
    ∃ r, slices_IndexFunc_int64_int64.l0 k l (l.length : Int) (i : Int) = some r ∧ decide (r ≥ 0) = (l.drop i).any p
  | 0, i, k, hi, hk => by
    cases k with
    | zero => omega
    | succ k => exact ⟨-1, by rw [slices_IndexFunc_int64_int64.l0, if_neg (by omega)], by rw [List.drop_of_length_le (by omega)]; rfl⟩
  | d + 1, i, k, hi, hk => by
    cases k with
    | zero => omega
    | succ k =>
      have hlt : i < l.length := by omega
      rw [slices_IndexFunc_int64_int64.l0, if_pos (by omega), if_pos (by omega), if_pos (by omega), rd_at l i hlt, hp _ (List.getElem_mem hlt), Option.bind_some, List.drop_eq_getElem_cons hlt, List.any_cons]
      cases hb : p l[i] with
      | true => exact ⟨i, by rw [if_pos rfl], by simp⟩
      | false =>
        obtain ⟨r, h1, h2⟩ := idx_int l p hp hl d (i + 1) k (by omega) (by omega)
        refine ⟨r, ?_, by rw [h2]; simp⟩
        rw [if_neg (by decide), w64 (by omega) (by omega)]
        rw [Int.natCast_add, Int.natCast_one] at h1
        exact h1
theorem idx_wire [C_impl_Wire_102] (l : List S55) (p : S55 → Bool) (hp : ∀ w, w ∈ l → C_impl_Wire_102.f w.f0 w.f1 w.f2 = some (p w)) (hl : l.length ≤ 1000) : ∀ (d i k : Nat), i + d = l.length → d < k →
    ∃ r, impl_Wire_102.l0 k l (l.length : Int) (i : Int) = some r ∧ decide (r ≥ 0) = (l.drop i).any p
  | 0, i, k, hi, hk => by
    cases k with
    | zero => omega
    | succ k => exact ⟨-1, by rw [impl_Wire_102.l0, if_neg (by omega)], by rw [List.drop_of_length_le (by omega)]; rfl⟩
  | d + 1, i, k, hi, hk => by
    cases k with
    | zero => omega
    | succ k =>
      have hlt : i < l.length := by omega
      rw [impl_Wire_102.l0, if_pos (by omega), if_pos (by omega), if_pos (by omega), rdT_at l i hlt, hp _ (List.getElem_mem hlt), Option.bind_some, List.drop_eq_getElem_cons hlt, List.any_cons]
      cases hb : p l[i] with
      | true => exact ⟨i, by rw [if_pos rfl], by simp⟩
      | false =>
        obtain ⟨r, h1, h2⟩ := idx_wire l p hp hl d (i + 1) k (by omega) (by omega)
        refine ⟨r, ?_, by rw [h2]; simp⟩
        rw [if_neg (by decide), w64 (by omega) (by omega)]
        rw [Int.natCast_add, Int.natCast_one] at h1
        exact h1
def inB (a b c : Int) : Bool := decide (b ≤ a) && decide (a ≤ c)
theorem l00In_w (a b c : Int) : spec_l00In.f a b c = some (inB a b c) := by
  unfold spec_l00In.f inB; by_cases h : a ≥ b <;> simp [h] <;> omega
def formB (l0 : List Int) (ws : List S55) : Bool := decide (1 ≤ l0.length ∧ l0.length ≤ 8) && (decide (ws.length ≤ 16) && (!(l0.any fun d => !inB d 0 100) && !(ws.any fun w => badWire l0.length w.f0 w.f1 w.f2)))
theorem sform_wires (ws : List S55) (l0 : List Int) (n : Nat) (hn : 1 ≤ n) (hn8 : n ≤ 8) (hm : ws.length ≤ 16) : ∀ (d i k : Nat), i + d = ws.length → d < k → spec_l08Form.l1 k n i l0 ws = some (!((ws.drop i).any fun w => badWire n w.f0 w.f1 w.f2))
  | 0, i, k, hi, hk => by
    cases k with
    | zero => omega
    | succ k => rw [spec_l08Form.l1, if_neg (by omega), List.drop_of_length_le (by omega)]; rfl
  | d + 1, i, k, hi, hk => by
    cases k with
    | zero => omega
    | succ k =>
      have ih := sform_wires ws l0 n hn hn8 hm d (i + 1) k (by omega) (by omega)
      have hlt : i < ws.length := by omega
      rw [Int.natCast_add, Int.natCast_one] at ih
      rw [spec_l08Form.l1, if_pos (by omega), if_pos (by omega), rdT_at ws i hlt, w64 (n := (n : Int) - 1) (by omega) (by omega), w64 (n := (i : Int) + 1) (by omega) (by omega), l00In_w, l00In_w, l00In_w, ih, List.drop_eq_getElem_cons hlt, List.any_cons]
      simp only [Option.bind_some, badWire]
      cases h1 : inB ws[i].f0 0 ((n : Int) - 1) <;> cases h2 : inB ws[i].f1 0 ((n : Int) - 1) <;> cases h3 : inB ws[i].f2 0 20 <;> (unfold inB at h1 h2 h3; simp [h1, h2, h3])
theorem sform_delays (ws : List S55) (l0 : List Int) (hn : 1 ≤ l0.length) (hn8 : l0.length ≤ 8) (hm : ws.length ≤ 16) : ∀ (d i k : Nat), i + d = l0.length → d + 20 < k → spec_l08Form.l0 k (l0.length : Int) i l0 ws = some (!((l0.drop i).any fun d => !inB d 0 100) && !(ws.any fun w => badWire l0.length w.f0 w.f1 w.f2))
  | 0, i, k, hi, hk => by
    cases k with
    | zero => omega
    | succ k =>
      rw [spec_l08Form.l0, if_neg (by omega), List.drop_of_length_le (by omega)]
      have := sform_wires ws l0 l0.length hn hn8 hm ws.length 0 k (by omega) (by omega)
      rw [List.drop_zero] at this
      rw [show ((0 : Nat) : Int) = 0 from rfl] at this
      rw [this]; rfl
  | d + 1, i, k, hi, hk => by
    cases k with
    | zero => omega
    | succ k =>
      have ih := sform_delays ws l0 hn hn8 hm d (i + 1) k (by omega) (by omega)
      have hlt : i < l0.length := by omega
      rw [Int.natCast_add, Int.natCast_one] at ih
      rw [spec_l08Form.l0, if_pos (by omega), if_pos (by omega), rd_at l0 i hlt, w64 (n := (i : Int) + 1) (by omega) (by omega), l00In_w, Option.bind_some, ih, List.drop_eq_getElem_cons hlt, List.any_cons]
      cases h1 : inB l0[i] 0 100 <;> simp
theorem sform_eq (k : Nat) (l0 : List Int) (ws : List S55) (h0 : l0.length ≤ 9223372036854775807) (h1 : ws.length ≤ 9223372036854775807) (hk : 100 < k) : spec_l08Form.f k l0 ws = some (formB l0 ws) := by
  unfold spec_l08Form.f formB
  rw [l00In_w, Option.bind_some]
  cases k with
  | zero => omega
  | succ k =>
    by_cases hn : 1 ≤ l0.length ∧ l0.length ≤ 8
    · have e1 : inB (l0.length : Int) 1 8 = true := by unfold inB; simp; omega
      rw [e1, if_pos rfl, decide_eq_true hn]
      by_cases hm : ws.length ≤ 16
      · have e2 : decide ((ws.length : Int) > 16) = false := decide_eq_false (by omega)
        rw [e2, spec_l08Form.j0, if_neg (by decide), decide_eq_true hm]
        have := sform_delays ws l0 hn.1 hn.2 hm l0.length 0 k (by omega) (by omega)
        rw [List.drop_zero] at this
        rw [show ((0 : Nat) : Int) = 0 from rfl] at this
        rw [this]; rfl
      · have e2 : decide ((ws.length : Int) > 16) = true := decide_eq_true (by omega)
        rw [e2, spec_l08Form.j0, if_pos rfl, decide_eq_false hm]; rfl
    · have e1 : inB (l0.length : Int) 1 8 = false := by unfold inB; simp; omega
      rw [e1, if_neg (by decide), spec_l08Form.j0, if_pos rfl, decide_eq_false hn]; rfl
theorem isDelay_w (d : Int) : impl_isDelay.f d = some (inB d 0 100) := by unfold impl_isDelay.f inB; rw [within_w]; rfl
theorem iform_eq (k : Nat) (l0 : List Int) (ws : List S55) (hk : 100 < k) : impl_isFlow.f k l0 ws = some (formB l0 ws) := by
  unfold impl_isFlow.f formB
  by_cases hn : 1 ≤ l0.length ∧ l0.length ≤ 8
  · have hn' : 1 ≤ (l0.length : Int) ∧ (l0.length : Int) ≤ 8 := by omega
    rw [if_pos hn', decide_eq_true hn]
    by_cases hm : ws.length ≤ 16
    · rw [if_neg (by omega), decide_eq_true hm]
      obtain ⟨r, h1, h2⟩ := @idx_int isDelC l0 (fun d => !inB d 0 100) (fun x _ => by show (impl_isDelay.f x).bind _ = _; rw [isDelay_w]; rfl) (by omega) l0.length 0 k (by omega) (by omega)
      obtain ⟨q, h3, h4⟩ := @idx_wire (wireC l0.length) ws (fun w => badWire l0.length w.f0 w.f1 w.f2) (fun w _ => rfl) (by omega) ws.length 0 k (by omega) (by omega)
      rw [List.drop_zero] at h2 h4
      unfold slices_IndexFunc_int64_int64.f impl_Wire_102.f
      rw [show ((0 : Nat) : Int) = 0 from rfl] at h1 h3
      rw [h1, h3, Option.bind_some, Option.bind_some, ← h2, ← h4]
      by_cases hr : r ≥ 0
      · simp [hr]
      · simp [hr]
    · rw [if_pos (by omega), decide_eq_false hm]; rfl
  · rw [if_neg (by omega), decide_eq_false hn]; rfl
theorem form_ok {l0 : List Int} {ws : List S55} (h : formB l0 ws = true) : (1 ≤ l0.length ∧ l0.length ≤ 8) ∧ ws.length ≤ 16 ∧ (∀ d, d ∈ l0 → 0 ≤ d ∧ d ≤ 100) ∧ ∀ w, w ∈ ws → WireOk l0.length w := by
  unfold formB at h
  simp only [Bool.and_eq_true, decide_eq_true_eq, Bool.not_eq_true', List.any_eq_false, inB, badWire] at h
  obtain ⟨h1, h2, h3, h4⟩ := h
  refine ⟨h1, h2, fun d hd => ?_, fun w hw => ?_⟩
  · have := h3 d hd; simp at this; exact this
  · have := h4 w hw
    simp at this
    unfold WireOk
    omega
end Go.Proofs.Ytojpibpjieanhaa.X
end
section
namespace Go.Proofs.Ytojpibpjieanhaa.X
open Go.RowKit Go.Proofs.YtojpibpjieanhaaW.PrintWords Go.Proofs.YtojpibpjieanhaaW.PrintLast Go.Proofs.YtojpibpjieanhaaW.PrintMore Go.Proofs.Ytojpibpjieanhaa.FlowMath
set_option linter.unusedVariables false
set_option linter.unusedSimpArgs false
def led (L : List Bool) (i : Nat) (w : S55) : Bool := (w.f2 == 0) && ((w.f1 == (i : Int)) && L.getD w.f0.toNat false)
def kStep (ws : List S55) (i : Nat) (L : List Bool) : List Bool := L.set i (L.getD i false && ws.any (led L i))
def kRound (ws : List S55) : Nat → List Bool → List Bool
  | 0, L => L
  | i + 1, L => kStep ws i (kRound ws i L)
def kRounds (ws : List S55) (n : Nat) : Nat → List Bool
  | 0 => List.replicate n true
  | m + 1 => kRound ws n (kRounds ws n m)
theorem kRound_len (ws : List S55) : ∀ (i : Nat) (L : List Bool), (kRound ws i L).length = L.length
  | 0, _ => rfl
  | i + 1, L => by rw [kRound, kStep, List.length_set, kRound_len ws i L]
theorem kRounds_len (ws : List S55) (n : Nat) : ∀ m, (kRounds ws n m).length = n
  | 0 => by simp [kRounds]
  | m + 1 => by rw [kRounds, kRound_len, kRounds_len ws n m]
theorem openStep_eq (k : Nat) (ws : List S55) (n i : Nat) (L : List Bool) (hL : L.length = n) (hm : ws.length ≤ 16) (hw : ∀ w, w ∈ ws → WireOk n w) (hk : 100 < k) : openStep k ws i L = some (kStep ws i L) := by
  unfold openStep kStep
  obtain ⟨r, h1, h2⟩ := @idx_wire (leadC L i) ws (led L i) (fun w hw' => by
    show leads L i w.f0 w.f1 w.f2 = some (led L i w)
    obtain ⟨o1, o2, o3, o4, o5, o6⟩ := hw w hw'
    unfold leads led
    cases h1 : (w.f2 == 0)
    · simp
    · cases h2 : (w.f1 == (i : Int))
      · simp
      · rw [if_pos rfl, if_pos rfl, if_pos (by omega)]; rfl) (by omega) ws.length 0 k (by omega) (by omega)
  rw [List.drop_zero] at h2
  rw [show ((0 : Nat) : Int) = 0 from rfl] at h1
  unfold impl_Wire_102.f
  rw [h1, Option.bind_some, h2]
theorem openRound_eq (k : Nat) (ws : List S55) (n : Nat) (hm : ws.length ≤ 16) (hw : ∀ w, w ∈ ws → WireOk n w) (hk : 100 < k) : ∀ (i : Nat) (L : List Bool), L.length = n → openRound k ws i L = some (kRound ws i L)
  | 0, _, _ => rfl
  | i + 1, L, hL => by
    rw [openRound, openRound_eq k ws n hm hw hk i L hL, Option.bind_some, openStep_eq k ws n i _ (by rw [kRound_len]; exact hL) hm hw hk]; rfl
theorem openRounds_eq (k : Nat) (ws : List S55) (n : Nat) (hm : ws.length ≤ 16) (hw : ∀ w, w ∈ ws → WireOk n w) (hk : 100 < k) : ∀ (m : Nat), openRounds k ws n m = some (kRounds ws n m)
  | 0 => rfl
  | m + 1 => by rw [openRounds, openRounds_eq k ws n hm hw hk m, Option.bind_some, openRound_eq k ws n hm hw hk n _ (kRounds_len ws n m)]; rfl
def Left (L : List Bool) (v : Nat) : Prop := L.getD v false = true
theorem getD_set (L : List Bool) (i v : Nat) (b : Bool) (hi : i < L.length) : (L.set i b).getD v false = if v = i then b else L.getD v false := by
  rw [List.getD_eq_getElem?_getD, List.getD_eq_getElem?_getD, List.getElem?_set]
  by_cases e : i = v
  · subst e; simp [hi]
  · rw [if_neg e, if_neg (fun h => e h.symm)]
theorem led_edge {ws : List S55} {n : Nat} (hw : ∀ w, w ∈ ws → WireOk n w) {L : List Bool} {i : Nat} : ws.any (led L i) = true ↔ ∃ u, Edge ws u i ∧ Left L u := by
  rw [List.any_eq_true]
  constructor
  · rintro ⟨w, h1, h2⟩
    unfold led at h2
    simp only [Bool.and_eq_true, beq_iff_eq] at h2
    obtain ⟨o1, _⟩ := hw w h1
    exact ⟨w.f0.toNat, ⟨w, h1, h2.1, by omega, h2.2.1⟩, h2.2.2⟩
  · rintro ⟨u, ⟨w, h1, h2, h3, h4⟩, h5⟩
    refine ⟨w, h1, ?_⟩
    unfold led
    simp only [Bool.and_eq_true, beq_iff_eq]
    refine ⟨h2, h4, ?_⟩
    rw [h3, Int.toNat_natCast]; exact h5
theorem round_sub (ws : List S55) (L : List Bool) : ∀ (i v : Nat), i ≤ L.length → Left (kRound ws i L) v → Left L v
  | 0, _, _, h => h
  | i + 1, v, hi, h => by
    have hi' : i < (kRound ws i L).length := by rw [kRound_len]; omega
    unfold Left at h
    rw [kRound, kStep, getD_set _ _ _ _ hi'] at h
    by_cases e : v = i
    · rw [if_pos e, Bool.and_eq_true] at h
      subst e
      exact round_sub ws L v v (by omega) h.1
    · rw [if_neg e] at h
      exact round_sub ws L i v (by omega) h
theorem round_led (ws : List S55) (n : Nat) (hw : ∀ w, w ∈ ws → WireOk n w) (L : List Bool) : ∀ (i v : Nat), i ≤ L.length → v < i → Left (kRound ws i L) v → ∃ u, Left L u ∧ Edge ws u v
  | 0, _, _, h, _ => absurd h (Nat.not_lt_zero _)
  | i + 1, v, hi, hv, h => by
    have hi' : i < (kRound ws i L).length := by rw [kRound_len]; omega
    unfold Left at h
    rw [kRound, kStep, getD_set _ _ _ _ hi'] at h
    by_cases e : v = i
    · rw [if_pos e, Bool.and_eq_true] at h
      obtain ⟨u, h1, h2⟩ := (led_edge hw).1 h.2
      subst e
      exact ⟨u, round_sub ws L v u (by omega) h2, h1⟩
    · rw [if_neg e] at h
      exact round_led ws n hw L i v (by omega) (by omega) h
theorem round_keep (ws : List S55) (n : Nat) (hw : ∀ w, w ∈ ws → WireOk n w) (L : List Bool) (C : Nat → Prop) (hC : ∀ v, C v → Left L v) (hp : ∀ v, C v → ∃ u, C u ∧ Edge ws u v) : ∀ (i v : Nat), i ≤ L.length → C v → Left (kRound ws i L) v
  | 0, v, _, h => hC v h
  | i + 1, v, hi, h => by
    have hi' : i < (kRound ws i L).length := by rw [kRound_len]; omega
    have ih := round_keep ws n hw L C hC hp i
    unfold Left
    rw [kRound, kStep, getD_set _ _ _ _ hi']
    by_cases e : v = i
    · rw [if_pos e, Bool.and_eq_true]
      subst e
      obtain ⟨u, h1, h2⟩ := hp v h
      exact ⟨ih v (by omega) h, (led_edge hw).2 ⟨u, h2, ih u (by omega) h1⟩⟩
    · rw [if_neg e]
      exact ih v (by omega) h
theorem left_lt {L : List Bool} {v : Nat} (h : Left L v) : v < L.length := by
  unfold Left at h
  rw [List.getD_eq_getElem?_getD] at h
  rcases Nat.lt_or_ge v L.length with h' | h'
  · exact h'
  · rw [List.getElem?_eq_none h'] at h; simp at h
theorem kahn_ws (ws : List S55) (n : Nat) (hw : ∀ w, w ∈ ws → WireOk n w) : (∃ v, Left (kRounds ws n n) v) ↔ ∃ v, Plus (Edge ws) v v := by
  refine kahn (Edge ws) n (fun a b h => h.lt hw) (fun m v => Left (kRounds ws n m) v) (fun v hv => ?_) (fun m v h => ?_) (fun m v h => ?_) (fun m v h => ?_) (fun m C hC hp v hv => ?_)
  · show (List.replicate n true).getD v false = true
    rw [List.getD_eq_getElem?_getD, List.getElem?_replicate, if_pos hv]; rfl
  · have := left_lt h; rw [kRounds_len] at this; exact this
  · exact round_sub ws _ n v (by rw [kRounds_len]; exact Nat.le_refl _) h
  · have hv := left_lt h
    rw [kRounds_len] at hv
    exact round_led ws n hw _ n v (by rw [kRounds_len]; exact Nat.le_refl _) hv h
  · exact round_keep ws n hw _ C hC hp n v (by rw [kRounds_len]; exact Nat.le_refl _) hv
theorem has_true (l : List Bool) (hl : l.length ≤ 1000) : ∀ (d i k : Nat), i + d = l.length → d < k → ∃ r, slices_Index_bool_bool.l0 k l true (l.length : Int) (i : Int) = some r ∧ decide (r ≥ 0) = (l.drop i).any id
  | 0, i, k, hi, hk => by
    cases k with
    | zero => omega
    | succ k => exact ⟨-1, by rw [slices_Index_bool_bool.l0, if_neg (by omega)], by rw [List.drop_of_length_le (by omega)]; rfl⟩
  | d + 1, i, k, hi, hk => by
    cases k with
    | zero => omega
    | succ k =>
      have hlt : i < l.length := by omega
      obtain ⟨r, h1, h2⟩ := has_true l hl d (i + 1) k (by omega) (by omega)
      rw [Int.natCast_add, Int.natCast_one] at h1
      have hrd : rdOf false l (i : Int) = l[i] := by unfold rdOf; simp [hlt]
      rw [slices_Index_bool_bool.l0, if_pos (by omega), if_pos (by omega), if_pos (by omega), hrd, List.drop_eq_getElem_cons hlt, List.any_cons]
      cases hb : l[i] with
      | true => exact ⟨i, by rw [if_pos (by rfl)], by simp⟩
      | false =>
        refine ⟨r, ?_, by rw [h2]; simp⟩
        rw [if_neg (by decide), w64 (by omega) (by omega)]
        exact h1
theorem isOpen_eq (k : Nat) (l0 : List Int) (ws : List S55) (hn : l0.length ≤ 8) (hm : ws.length ≤ 16) (hw : ∀ w, w ∈ ws → WireOk l0.length w) (hk : 100 < k) : impl_Flow_isOpen.f k l0 ws = some (open Classical in !decide (∃ v, Plus (Edge ws) v v)) := by
  unfold impl_Flow_isOpen.f
  rw [if_pos (by omega), openRounds_eq k ws l0.length hm hw hk, Option.bind_some]
  obtain ⟨r, h1, h2⟩ := has_true (kRounds ws l0.length l0.length) (by rw [kRounds_len]; omega) (kRounds ws l0.length l0.length).length 0 k (by omega) (by rw [kRounds_len]; omega)
  unfold slices_Contains_bool_bool.f slices_Index_bool_bool.f
  rw [show ((0 : Nat) : Int) = 0 from rfl] at h1
  rw [h1, Option.bind_some, Option.bind_some, h2, List.drop_zero]
  congr 2
  have key := kahn_ws ws l0.length hw
  have : (kRounds ws l0.length l0.length).any id = true ↔ ∃ v, Left (kRounds ws l0.length l0.length) v := by
    rw [List.any_eq_true]
    constructor
    · rintro ⟨b, hb, hb2⟩
      obtain ⟨v, hv, rfl⟩ := List.mem_iff_getElem.mp hb
      refine ⟨v, ?_⟩
      unfold Left
      rw [List.getD_eq_getElem?_getD, List.getElem?_eq_getElem hv]; exact hb2
    · rintro ⟨v, hv⟩
      have hl := left_lt hv
      unfold Left at hv
      rw [List.getD_eq_getElem?_getD, List.getElem?_eq_getElem hl] at hv
      exact ⟨_, List.getElem_mem hl, hv⟩
  rw [Bool.eq_iff_iff, this, key, @decide_eq_true_iff _ (Classical.propDecidable _)]
theorem is_loop (k0 : Nat) (l0 : List Int) (ws : List S55) (hn : l0.length ≤ 8) (hm : ws.length ≤ 16) (hw : ∀ w, w ∈ ws → WireOk l0.length w) : ∀ (d i k : Nat), i + d = l0.length → d + 1001 < k →
    ((∃ v, i ≤ v ∧ v < l0.length ∧ ringB ws v = true) → spec_l08Is.l0 k i l0 ws = some false) ∧ ((∀ v, i ≤ v → v < l0.length → ringB ws v = false) → spec_l08Is.l0 k i l0 ws = some true)
  | 0, i, k, hi, hk => by
    cases k with
    | zero => omega
    | succ k =>
      rw [spec_l08Is.l0, if_neg (by omega)]
      exact ⟨fun ⟨v, h1, h2, _⟩ => by omega, fun _ => rfl⟩
  | d + 1, i, k, hi, hk => by
    cases k with
    | zero => omega
    | succ k =>
      obtain ⟨ih1, ih2⟩ := is_loop k0 l0 ws hn hm hw d (i + 1) k (by omega) (by omega)
      rw [Int.natCast_add, Int.natCast_one] at ih1 ih2
      rw [spec_l08Is.l0, if_pos (by omega), open_eq ws l0 l0.length i (by omega) hn hm hw k (by omega), Option.bind_some, w64 (by omega) (by omega)]
      cases hb : ringB ws i with
      | true => exact ⟨fun _ => by rw [if_pos rfl], fun h => by have := h i (by omega) (by omega); rw [hb] at this; simp at this⟩
      | false =>
        refine ⟨fun ⟨v, h1, h2, h3⟩ => ?_, fun h => ?_⟩
        · rw [if_neg (by decide)]
          refine ih1 ⟨v, ?_, h2, h3⟩
          by_cases e : v = i
          · subst e; rw [hb] at h3; simp at h3
          · omega
        · rw [if_neg (by decide)]
          exact ih2 fun v h1 h2 => h v (by omega) h2
noncomputable def validB (l0 : List Int) (ws : List S55) : Bool := formB l0 ws && (open Classical in !decide (∃ v, Plus (Edge ws) v v))
theorem spec_is (k : Nat) (l0 : List Int) (ws : List S55) (h0 : l0.length ≤ 9223372036854775807) (h1 : ws.length ≤ 9223372036854775807) (hk : 2000 < k) : spec_l08Is.f k l0 ws = some (validB l0 ws) := by
  unfold spec_l08Is.f validB
  rw [sform_eq k l0 ws h0 h1 (by omega), Option.bind_some]
  cases hf : formB l0 ws with
  | false => rfl
  | true =>
    obtain ⟨hn, hm, _, hw⟩ := form_ok hf
    rw [if_pos rfl, Bool.true_and]
    obtain ⟨i1, i2⟩ := is_loop k l0 ws hn.2 hm hw l0.length 0 k (by omega) (by omega)
    rw [show ((0 : Nat) : Int) = 0 from rfl] at i1 i2
    by_cases hr : ∃ v, Plus (Edge ws) v v
    · obtain ⟨v, hv⟩ := hr
      obtain ⟨u, _, hu⟩ := ring_back hv
      rw [i1 ⟨v, Nat.zero_le _, (hu.lt hw).2, ringB_true hv⟩, @decide_eq_true _ (Classical.propDecidable _) ⟨v, hv⟩]; rfl
    · rw [i2 fun v _ _ => ringB_false fun h => hr ⟨v, h⟩, @decide_eq_false _ (Classical.propDecidable _) hr]; rfl
theorem impl_valid (k : Nat) (l0 : List Int) (ws : List S55) (hk : 2000 < k) : impl_ValidFlow.f k l0 ws = some (validB l0 ws) := by
  unfold impl_ValidFlow.f validB
  rw [iform_eq k l0 ws (by omega), Option.bind_some]
  cases hf : formB l0 ws with
  | false => rfl
  | true =>
    obtain ⟨hn, hm, _, hw⟩ := form_ok hf
    rw [if_pos rfl, isOpen_eq k l0 ws hn.2 hm hw (by omega)]; rfl
end Go.Proofs.Ytojpibpjieanhaa.X
end
section
-- Written by a program of this session out of the kit's print of the loaded functions: a plain function of a Go function, and its contract.
namespace Go.Proofs.Ytojpibpjieanhaa.X
open Go.RowKit Go.Proofs.YtojpibpjieanhaaW.PrintWords Go.Proofs.YtojpibpjieanhaaW.PrintLast Go.Proofs.YtojpibpjieanhaaW.PrintMore
attribute [local go_sem] max2_int min2_int max_two min_two max_three min_three max_four min_four   -- for this text's walks alone
set_option linter.unusedVariables false
set_option linter.unusedSimpArgs false
def laws_szInt64S.f (l0 : List Int) (a1 : Int) : Option (Int) := if (wrap64 (a1 - (l0.length : Int))) < 0 then (some (-1)) else (some (wrap64 (a1 - (l0.length : Int))))
set_option maxHeartbeats 8000000 in
set_option maxRecDepth 100000 in
theorem laws_szInt64S.calls (A0 : Option Addr) (c0 : Nat) (l0 : List Int) (a1 : Int) (r : Int) (w : World) (hr0 : Kd.C (Kd.int .i64) w A0 l0.length l0) (hc0 : l0.length ≤ c0) (h : laws_szInt64S.f l0 a1 = some r) :
  Calls Try.prog 49 #[.slice A0 l0.length c0, .int .i64 a1] w fun e w' => e = .returned (.int .i64 r) ∧ Drawn0 w w' := by
 have HR0 := Aside0.mk hr0
 have HC0 := Aside0.mk hc0
 clear hr0 hc0
 have H : (if (wrap64 (a1 - (l0.length : Int))) < 0 then (some (-1)) else (some (wrap64 (a1 - (l0.length : Int))))) = some r := h
 clear h
 by_cases c3 : (wrap64 (a1 - (l0.length : Int))) < 0
 ·rw [if_pos c3] at H
  have c3b0 : decide ((wrap64 (a1 - (l0.length : Int))) < 0) = true := decide_eq_true c3
  clear c3
  obtain rfl := Option.some.inj H
  go_enter Try.func49, Try.ntmps49
  go_wp2
  go_ret
  exact ⟨by first | rfl | (simp; done) | (simp [*]; done), by repeat (first | exact Drawn0.refl _ | apply Drawn0.step)⟩
 ·rw [if_neg c3] at H
  have c3b0 : decide ((wrap64 (a1 - (l0.length : Int))) < 0) = false := decide_eq_false c3
  clear c3
  obtain rfl := Option.some.inj H
  go_enter Try.func49, Try.ntmps49
  go_wp2
  go_ret
  exact ⟨by first | rfl | (simp; done) | (simp [*]; done), by repeat (first | exact Drawn0.refl _ | apply Drawn0.step)⟩
end Go.Proofs.Ytojpibpjieanhaa.X
end
section
-- Written by a program of this session out of the kit's print of the loaded functions: a plain function of a Go function, and its contract.
namespace Go.Proofs.Ytojpibpjieanhaa.X
open Go.RowKit Go.Proofs.YtojpibpjieanhaaW.PrintWords Go.Proofs.YtojpibpjieanhaaW.PrintLast Go.Proofs.YtojpibpjieanhaaW.PrintMore
attribute [local go_sem] max2_int min2_int max_two min_two max_three min_three max_four min_four   -- for this text's walks alone
set_option linter.unusedVariables false
set_option linter.unusedSimpArgs false
def laws_szWireS.f (l0 : List (S96)) (a1 : Int) : Option (Int) := if (wrap64 (a1 - (l0.length : Int))) < 0 then (some (-1)) else (some (wrap64 (a1 - (l0.length : Int))))
set_option maxHeartbeats 8000000 in
set_option maxRecDepth 100000 in
theorem laws_szWireS.calls (A0 : Option Addr) (c0 : Nat) (l0 : List (S96)) (a1 : Int) (r : Int) (w : World) (hr0 : Kd.C k96 w A0 l0.length l0) (hc0 : l0.length ≤ c0) (h : laws_szWireS.f l0 a1 = some r) :
  Calls Try.prog 50 #[.slice A0 l0.length c0, .int .i64 a1] w fun e w' => e = .returned (.int .i64 r) ∧ Drawn0 w w' := by
 have HR0 := Aside0.mk hr0
 have HC0 := Aside0.mk hc0
 clear hr0 hc0
 have H : (if (wrap64 (a1 - (l0.length : Int))) < 0 then (some (-1)) else (some (wrap64 (a1 - (l0.length : Int))))) = some r := h
 clear h
 by_cases c3 : (wrap64 (a1 - (l0.length : Int))) < 0
 ·rw [if_pos c3] at H
  have c3b0 : decide ((wrap64 (a1 - (l0.length : Int))) < 0) = true := decide_eq_true c3
  clear c3
  obtain rfl := Option.some.inj H
  go_enter Try.func50, Try.ntmps50
  go_wp2
  go_ret
  exact ⟨by first | rfl | (simp; done) | (simp [*]; done), by repeat (first | exact Drawn0.refl _ | apply Drawn0.step)⟩
 ·rw [if_neg c3] at H
  have c3b0 : decide ((wrap64 (a1 - (l0.length : Int))) < 0) = false := decide_eq_false c3
  clear c3
  obtain rfl := Option.some.inj H
  go_enter Try.func50, Try.ntmps50
  go_wp2
  go_ret
  exact ⟨by first | rfl | (simp; done) | (simp [*]; done), by repeat (first | exact Drawn0.refl _ | apply Drawn0.step)⟩
end Go.Proofs.Ytojpibpjieanhaa.X
end
section
-- Written by a program of this session out of the kit's print of the loaded functions: a plain function of a Go function, and its contract.
namespace Go.Proofs.Ytojpibpjieanhaa.X
open Go.RowKit Go.Proofs.YtojpibpjieanhaaW.PrintWords Go.Proofs.YtojpibpjieanhaaW.PrintLast Go.Proofs.YtojpibpjieanhaaW.PrintMore
attribute [local go_sem] max2_int min2_int max_two min_two max_three min_three max_four min_four   -- for this text's walks alone
set_option linter.unusedVariables false
set_option linter.unusedSimpArgs false
def laws_szFlow.f (l0_0 : List Int) (l0_1 : List (S96)) (a1 : Int) : Option (Int) := (laws_szInt64S.f l0_0 a1).bind fun t171 => (if t171 < 0 then (some (-1)) else ((laws_szWireS.f l0_1 t171).bind fun t172 => (if t172 < 0 then (some (-1)) else (some t172))))
set_option maxHeartbeats 8000000 in
set_option maxRecDepth 100000 in
theorem laws_szFlow.calls (A0_0 : Option Addr) (c0_0 : Nat) (l0_0 : List Int) (A0_1 : Option Addr) (c0_1 : Nat) (l0_1 : List (S96)) (a1 : Int) (r : Int) (w : World) (hr0_0 : Kd.C (Kd.int .i64) w A0_0 l0_0.length l0_0) (hc0_0 : l0_0.length ≤ c0_0) (hr0_1 : Kd.C k96 w A0_1 l0_1.length l0_1) (hc0_1 : l0_1.length ≤ c0_1) (h : laws_szFlow.f l0_0 l0_1 a1 = some r) :
  Calls Try.prog 20 #[.agg #[.slice A0_0 l0_0.length c0_0, .slice A0_1 l0_1.length c0_1], .int .i64 a1] w fun e w' => e = .returned (.int .i64 r) ∧ Below w.heap.size w w' := by
 have hu31 := Try.underlying31
 have HR0_0 := Aside0.mk hr0_0
 have HC0_0 := Aside0.mk hc0_0
 clear hr0_0 hc0_0
 have HR0_1 := Aside0.mk hr0_1
 have HC0_1 := Aside0.mk hc0_1
 clear hr0_1 hc0_1
 have HB := Aside0.mk (Below.refl w.heap.size w)
 have H : ((laws_szInt64S.f l0_0 a1).bind fun t171 => (if t171 < 0 then (some (-1)) else ((laws_szWireS.f l0_1 t171).bind fun t172 => (if t172 < 0 then (some (-1)) else (some t172))))) = some r := h
 clear h
 replace H := Option.bind_eq_some_iff.mp H
 obtain ⟨t171, A30, H⟩ := H
 replace H : (if t171 < 0 then (some (-1)) else ((laws_szWireS.f l0_1 t171).bind fun t172 => (if t172 < 0 then (some (-1)) else (some t172)))) = some r := H
 have A3 := Aside0.mk A30
 clear A30
 by_cases c4 : t171 < 0
 ·rw [if_pos c4] at H
  have c4b0 : decide (t171 < 0) = true := decide_eq_true c4
  clear c4
  obtain rfl := Option.some.inj H
  go_enter Try.func20, Try.ntmps20
  go_wp2_with (first | ((with_reducible refine gate_dst (N := 2) rfl ?_); refine box_event ?hg (N := 2) ?hd (cs := #[.slice A0_0 l0_0.length c0_0, .slice A0_1 l0_1.length c0_1]) (t := 31) ?hr ?_; (case hd => rfl); (case hg => rfl); (case hr => first | (go_simp; done) | (go_simp; rfl)); intro gb170 hg w5 hbox hb; have n0_ := Aside0.mk (below_step (by repeat (first | (with_reducible first | exact HB.out | apply below_alloc | apply pw_below_drewN | apply below_drew1) | exact HB.out)) hb); have n1_ := Aside0.mk (hbox); have n2_ := Aside0.mk ((by rw [hg]; exact (below_size (by repeat (first | (with_reducible first | exact HB.out | apply below_alloc | apply pw_below_drewN | apply below_drew1) | exact HB.out))) : w.heap.size ≤ gb170)); have n3_ := Aside0.mk ((by rw [hg]; exact (below_size (by repeat (first | (with_reducible first | exact HB.out | apply below_alloc | apply pw_below_drewN | apply below_drew1) | exact HB.out))) : w.heap.size ≤ gb170)); clear HB; have HB := n0_; have BK170 := n1_; have GW170 := n2_; have GE170 := n3_; clear n0_ n1_ n2_ n3_; clear hb hbox hg; have hcz6_0 : w5.cell? ⟨gb170, 0, none⟩ = some (.slice A0_0 l0_0.length c0_0) := (blk_cell BK170.out 0).trans rfl; have hcz6_1 : w5.cell? ⟨gb170, 1, none⟩ = some (.slice A0_1 l0_1.length c0_1) := (blk_cell BK170.out 1).trans rfl; have hfz6_0 := blk_frozen BK170.out 0; have hfz6_1 := blk_frozen BK170.out 1) | ((with_reducible refine gate_callee (f := 49) rfl ?_); refine goesL_ (some 8) rfl rfl Try.func49 (by kernel_rfl) rfl #[.slice A0_0 l0_0.length c0_0, .int .i64 a1] rfl (by (try simp only [List.map_toArray, List.map_cons, List.map_nil]); first | done | rfl | (simp only [List.length_drop, List.length_take]; rfl)) ?_; (with_reducible refine (laws_szInt64S.calls _ _ l0_0 a1 t171 _ ?side1 ?side2 A3.out).mono ?_); (case side1 => repeat (first | exact (Kd.C_below HR0_0.out HB.out) | (with_reducible refine Kd.C_alloc ?_ _) | (with_reducible refine Kd.C_drewN ?_ _) | (with_reducible refine Kd.C_drew ?_))); (case side2 => first | exact trivial | (exact HC0_0.out)); rintro e w' ⟨rfl, ⟨nd, rfl⟩⟩; refine ⟨_, rfl, ?_⟩))
  go_ret
  exact ⟨by first | rfl | (simp [errW_none, errW_some] <;> rfl) | (simp [*, errW_none, errW_some] <;> rfl), by repeat (first | (with_reducible first | exact HB.out | apply below_alloc | apply pw_below_drewN | apply below_drew1 | refine below_set ?_ GE170.out) | exact HB.out)⟩
 ·rw [if_neg c4] at H
  have c4b0 : decide (t171 < 0) = false := decide_eq_false c4
  clear c4
  replace H := Option.bind_eq_some_iff.mp H
  obtain ⟨t172, A70, H⟩ := H
  replace H : (if t172 < 0 then (some (-1)) else (some t172)) = some r := H
  have A7 := Aside0.mk A70
  clear A70
  by_cases c8 : t172 < 0
  ·rw [if_pos c8] at H
   have c8b0 : decide (t172 < 0) = true := decide_eq_true c8
   clear c8
   obtain rfl := Option.some.inj H
   go_enter Try.func20, Try.ntmps20
   go_wp2_with (first | ((with_reducible refine gate_dst (N := 2) rfl ?_); refine box_event ?hg (N := 2) ?hd (cs := #[.slice A0_0 l0_0.length c0_0, .slice A0_1 l0_1.length c0_1]) (t := 31) ?hr ?_; (case hd => rfl); (case hg => rfl); (case hr => first | (go_simp; done) | (go_simp; rfl)); intro gb170 hg w9 hbox hb; have n0_ := Aside0.mk (below_step (by repeat (first | (with_reducible first | exact HB.out | apply below_alloc | apply pw_below_drewN | apply below_drew1) | exact HB.out)) hb); have n1_ := Aside0.mk (hbox); have n2_ := Aside0.mk ((by rw [hg]; exact (below_size (by repeat (first | (with_reducible first | exact HB.out | apply below_alloc | apply pw_below_drewN | apply below_drew1) | exact HB.out))) : w.heap.size ≤ gb170)); have n3_ := Aside0.mk ((by rw [hg]; exact (below_size (by repeat (first | (with_reducible first | exact HB.out | apply below_alloc | apply pw_below_drewN | apply below_drew1) | exact HB.out))) : w.heap.size ≤ gb170)); clear HB; have HB := n0_; have BK170 := n1_; have GW170 := n2_; have GE170 := n3_; clear n0_ n1_ n2_ n3_; clear hb hbox hg; have hcz10_0 : w9.cell? ⟨gb170, 0, none⟩ = some (.slice A0_0 l0_0.length c0_0) := (blk_cell BK170.out 0).trans rfl; have hcz10_1 : w9.cell? ⟨gb170, 1, none⟩ = some (.slice A0_1 l0_1.length c0_1) := (blk_cell BK170.out 1).trans rfl; have hfz10_0 := blk_frozen BK170.out 0; have hfz10_1 := blk_frozen BK170.out 1) | ((with_reducible refine gate_callee (f := 49) rfl ?_); refine goesL_ (some 8) rfl rfl Try.func49 (by kernel_rfl) rfl #[.slice A0_0 l0_0.length c0_0, .int .i64 a1] rfl (by (try simp only [List.map_toArray, List.map_cons, List.map_nil]); first | done | rfl | (simp only [List.length_drop, List.length_take]; rfl)) ?_; (with_reducible refine (laws_szInt64S.calls _ _ l0_0 a1 t171 _ ?side1 ?side2 A3.out).mono ?_); (case side1 => repeat (first | exact (Kd.C_below HR0_0.out HB.out) | (with_reducible refine Kd.C_alloc ?_ _) | (with_reducible refine Kd.C_drewN ?_ _) | (with_reducible refine Kd.C_drew ?_))); (case side2 => first | exact trivial | (exact HC0_0.out)); rintro e w' ⟨rfl, ⟨nd, rfl⟩⟩; refine ⟨_, rfl, ?_⟩) | ((with_reducible refine gate_callee (f := 50) rfl ?_); refine goesL_ (some 14) rfl rfl Try.func50 (by kernel_rfl) rfl #[.slice A0_1 l0_1.length c0_1, .int .i64 t171] rfl (by (try simp only [List.map_toArray, List.map_cons, List.map_nil]); first | done | rfl | (simp only [List.length_drop, List.length_take]; rfl)) ?_; (with_reducible refine (laws_szWireS.calls _ _ l0_1 t171 t172 _ ?side1 ?side2 A7.out).mono ?_); (case side1 => repeat (first | exact (Kd.C_below HR0_1.out (by repeat (first | (with_reducible first | exact HB.out | apply below_alloc | apply pw_below_drewN | apply below_drew1 | refine below_set ?_ GE170.out) | exact HB.out))) | (with_reducible refine Kd.C_alloc ?_ _) | (with_reducible refine Kd.C_drewN ?_ _) | (with_reducible refine Kd.C_drew ?_))); (case side2 => first | exact trivial | (exact HC0_1.out)); rintro e w' ⟨rfl, ⟨nd, rfl⟩⟩; refine ⟨_, rfl, ?_⟩))
   go_ret
   exact ⟨by first | rfl | (simp [errW_none, errW_some] <;> rfl) | (simp [*, errW_none, errW_some] <;> rfl), by repeat (first | (with_reducible first | exact HB.out | apply below_alloc | apply pw_below_drewN | apply below_drew1 | refine below_set ?_ GE170.out) | exact HB.out)⟩
  ·rw [if_neg c8] at H
   have c8b0 : decide (t172 < 0) = false := decide_eq_false c8
   clear c8
   obtain rfl := Option.some.inj H
   go_enter Try.func20, Try.ntmps20
   go_wp2_with (first | ((with_reducible refine gate_dst (N := 2) rfl ?_); refine box_event ?hg (N := 2) ?hd (cs := #[.slice A0_0 l0_0.length c0_0, .slice A0_1 l0_1.length c0_1]) (t := 31) ?hr ?_; (case hd => rfl); (case hg => rfl); (case hr => first | (go_simp; done) | (go_simp; rfl)); intro gb170 hg w11 hbox hb; have n0_ := Aside0.mk (below_step (by repeat (first | (with_reducible first | exact HB.out | apply below_alloc | apply pw_below_drewN | apply below_drew1) | exact HB.out)) hb); have n1_ := Aside0.mk (hbox); have n2_ := Aside0.mk ((by rw [hg]; exact (below_size (by repeat (first | (with_reducible first | exact HB.out | apply below_alloc | apply pw_below_drewN | apply below_drew1) | exact HB.out))) : w.heap.size ≤ gb170)); have n3_ := Aside0.mk ((by rw [hg]; exact (below_size (by repeat (first | (with_reducible first | exact HB.out | apply below_alloc | apply pw_below_drewN | apply below_drew1) | exact HB.out))) : w.heap.size ≤ gb170)); clear HB; have HB := n0_; have BK170 := n1_; have GW170 := n2_; have GE170 := n3_; clear n0_ n1_ n2_ n3_; clear hb hbox hg; have hcz12_0 : w11.cell? ⟨gb170, 0, none⟩ = some (.slice A0_0 l0_0.length c0_0) := (blk_cell BK170.out 0).trans rfl; have hcz12_1 : w11.cell? ⟨gb170, 1, none⟩ = some (.slice A0_1 l0_1.length c0_1) := (blk_cell BK170.out 1).trans rfl; have hfz12_0 := blk_frozen BK170.out 0; have hfz12_1 := blk_frozen BK170.out 1) | ((with_reducible refine gate_callee (f := 49) rfl ?_); refine goesL_ (some 8) rfl rfl Try.func49 (by kernel_rfl) rfl #[.slice A0_0 l0_0.length c0_0, .int .i64 a1] rfl (by (try simp only [List.map_toArray, List.map_cons, List.map_nil]); first | done | rfl | (simp only [List.length_drop, List.length_take]; rfl)) ?_; (with_reducible refine (laws_szInt64S.calls _ _ l0_0 a1 t171 _ ?side1 ?side2 A3.out).mono ?_); (case side1 => repeat (first | exact (Kd.C_below HR0_0.out HB.out) | (with_reducible refine Kd.C_alloc ?_ _) | (with_reducible refine Kd.C_drewN ?_ _) | (with_reducible refine Kd.C_drew ?_))); (case side2 => first | exact trivial | (exact HC0_0.out)); rintro e w' ⟨rfl, ⟨nd, rfl⟩⟩; refine ⟨_, rfl, ?_⟩) | ((with_reducible refine gate_callee (f := 50) rfl ?_); refine goesL_ (some 14) rfl rfl Try.func50 (by kernel_rfl) rfl #[.slice A0_1 l0_1.length c0_1, .int .i64 t171] rfl (by (try simp only [List.map_toArray, List.map_cons, List.map_nil]); first | done | rfl | (simp only [List.length_drop, List.length_take]; rfl)) ?_; (with_reducible refine (laws_szWireS.calls _ _ l0_1 t171 t172 _ ?side1 ?side2 A7.out).mono ?_); (case side1 => repeat (first | exact (Kd.C_below HR0_1.out (by repeat (first | (with_reducible first | exact HB.out | apply below_alloc | apply pw_below_drewN | apply below_drew1 | refine below_set ?_ GE170.out) | exact HB.out))) | (with_reducible refine Kd.C_alloc ?_ _) | (with_reducible refine Kd.C_drewN ?_ _) | (with_reducible refine Kd.C_drew ?_))); (case side2 => first | exact trivial | (exact HC0_1.out)); rintro e w' ⟨rfl, ⟨nd, rfl⟩⟩; refine ⟨_, rfl, ?_⟩))
   go_ret
   exact ⟨by first | rfl | (simp [errW_none, errW_some] <;> rfl) | (simp [*, errW_none, errW_some] <;> rfl), by repeat (first | (with_reducible first | exact HB.out | apply below_alloc | apply pw_below_drewN | apply below_drew1 | refine below_set ?_ GE170.out) | exact HB.out)⟩
end Go.Proofs.Ytojpibpjieanhaa.X
end
section
-- Written by a program of this session out of the kit's print of the loaded functions: a plain function of a Go function, and its contract.
namespace Go.Proofs.Ytojpibpjieanhaa.X
open Go.RowKit Go.Proofs.YtojpibpjieanhaaW.PrintWords Go.Proofs.YtojpibpjieanhaaW.PrintLast Go.Proofs.YtojpibpjieanhaaW.PrintMore
attribute [local go_sem] max2_int min2_int max_two min_two max_three min_three max_four min_four   -- for this text's walks alone
set_option linter.unusedVariables false
set_option linter.unusedSimpArgs false
def laws_toWire.f (a0_0 : Int) (a0_1 : Int) (a0_2 : Int) : Option (Int × Int × Int) := some (a0_0, a0_1, a0_2)
set_option maxHeartbeats 8000000 in
set_option maxRecDepth 100000 in
theorem laws_toWire.calls (a0_0 : Int) (a0_1 : Int) (a0_2 : Int) (r1 : Int) (r2 : Int) (r3 : Int) (w : World) (h : laws_toWire.f a0_0 a0_1 a0_2 = some (r1, r2, r3)) :
  Calls Try.prog 80 #[.agg #[.int .i64 a0_0, .int .i64 a0_1, .int .i64 a0_2]] w fun e w' => e = .returned (.agg #[.int .i64 r1, .int .i64 r2, .int .i64 r3]) ∧ Below w.heap.size w w' := by
 have hu96 := Try.underlying96
 have hu55 := Try.underlying55
 have HB := Aside0.mk (Below.refl w.heap.size w)
 have H : (some (a0_0, a0_1, a0_2)) = some (r1, r2, r3) := h
 clear h
 simp only [Option.some.injEq, Prod.mk.injEq] at H
 obtain ⟨rfl, rfl, rfl⟩ := H
 go_enter Try.func80, Try.ntmps80
 go_wp2_with (first | ((with_reducible refine gate_dst (N := 1) rfl ?_); refine box_event ?hg (N := 1) ?hd (cs := #[.int .i64 a0_0, .int .i64 a0_1, .int .i64 a0_2]) (t := 96) ?hr ?_; (case hd => rfl); (case hg => rfl); (case hr => first | (go_simp; done) | (go_simp; rfl)); intro gb223 hg w2 hbox hb; have n0_ := Aside0.mk (below_step (by repeat (first | (with_reducible first | exact HB.out | apply below_alloc | apply pw_below_drewN | apply below_drew1) | exact HB.out)) hb); have n1_ := Aside0.mk (hbox); have n2_ := Aside0.mk ((by rw [hg]; exact (below_size (by repeat (first | (with_reducible first | exact HB.out | apply below_alloc | apply pw_below_drewN | apply below_drew1) | exact HB.out))) : w.heap.size ≤ gb223)); have n3_ := Aside0.mk ((by rw [hg]; exact (below_size (by repeat (first | (with_reducible first | exact HB.out | apply below_alloc | apply pw_below_drewN | apply below_drew1) | exact HB.out))) : w.heap.size ≤ gb223)); clear HB; have HB := n0_; have BK223 := n1_; have GW223 := n2_; have GE223 := n3_; clear n0_ n1_ n2_ n3_; clear hb hbox hg) | ((with_reducible refine gate_dst (N := 2) rfl ?_); refine box_event ?hg (N := 2) ?hd (cs := #[.int .i64 0, .int .i64 0, .int .i64 0]) (t := 55) ?hr ?_; (case hd => rfl); (case hg => rfl); (case hr => first | (go_simp; done) | (go_simp; rfl)); intro gb224 hg w3 hbox hb; have n0_ := Aside0.mk (blk_below (g := gb223) (o := .cells #[.int .i64 a0_0, .int .i64 a0_1, .int .i64 a0_2] 96 (0, 0)) (by (with_reducible repeat (first | refine blk_drewN ?_ _ | refine blk_drew ?_ | refine blk_alloc ?_ _)); exact BK223.out) hb); have n1_ := Aside0.mk (below_step (by repeat (first | (with_reducible first | exact HB.out | apply below_alloc | apply pw_below_drewN | apply below_drew1 | refine below_set ?_ GE223.out) | exact HB.out)) hb); have n2_ := Aside0.mk (hbox); have n3_ := Aside0.mk ((by rw [hg]; exact (below_size (by repeat (first | (with_reducible first | exact HB.out | apply below_alloc | apply pw_below_drewN | apply below_drew1 | refine below_set ?_ GE223.out) | exact HB.out))) : w.heap.size ≤ gb224)); have n4_ := Aside0.mk ((by rw [hg]; exact (below_size (by repeat (first | (with_reducible first | exact HB.out | apply below_alloc | apply pw_below_drewN | apply below_drew1 | refine below_set ?_ GE223.out) | exact HB.out))) : w.heap.size ≤ gb224)); have n5_ := Aside0.mk ((by rw [hg]; exact Nat.ne_of_lt (blk_lt (g := gb223) (o := .cells #[.int .i64 a0_0, .int .i64 a0_1, .int .i64 a0_2] 96 (0, 0)) (by (with_reducible repeat (first | refine blk_drewN ?_ _ | refine blk_drew ?_ | refine blk_alloc ?_ _)); exact BK223.out)) : gb223 ≠ gb224)); have n6_ := Aside0.mk ((by rw [hg]; exact Nat.ne_of_gt (blk_lt (g := gb223) (o := .cells #[.int .i64 a0_0, .int .i64 a0_1, .int .i64 a0_2] 96 (0, 0)) (by (with_reducible repeat (first | refine blk_drewN ?_ _ | refine blk_drew ?_ | refine blk_alloc ?_ _)); exact BK223.out)) : gb224 ≠ gb223)); clear BK223; clear HB; have BK223 := n0_; have HB := n1_; have BK224 := n2_; have GW224 := n3_; have GE224 := n4_; have NB223_224 := n5_; have NB224_223 := n6_; clear n0_ n1_ n2_ n3_ n4_ n5_ n6_; clear hb hbox hg) | ((with_reducible refine gate_dst (N := 3) rfl ?_); refine box_event ?hg (N := 3) ?hd (cs := #[.int .i64 0, .int .i64 0, .int .i64 0]) (t := 55) ?hr ?_; (case hd => rfl); (case hg => rfl); (case hr => first | (go_simp; done) | (go_simp; rfl)); intro gb225 hg w4 hbox hb; have n0_ := Aside0.mk (blk_below (g := gb223) (o := .cells #[.int .i64 a0_0, .int .i64 a0_1, .int .i64 a0_2] 96 (0, 0)) (by (with_reducible repeat (first | refine blk_drewN ?_ _ | refine blk_drew ?_ | refine blk_alloc ?_ _)); exact BK223.out) hb); have n1_ := Aside0.mk (blk_below (g := gb224) (o := .cells #[.int .i64 0, .int .i64 0, .int .i64 0] 55 (0, 0)) (by (with_reducible repeat (first | refine blk_drewN ?_ _ | refine blk_drew ?_ | refine blk_alloc ?_ _)); exact BK224.out) hb); have n2_ := Aside0.mk (below_step (by repeat (first | (with_reducible first | exact HB.out | apply below_alloc | apply pw_below_drewN | apply below_drew1 | refine below_set ?_ GE223.out | refine below_set ?_ GE224.out) | exact HB.out)) hb); have n3_ := Aside0.mk (hbox); have n4_ := Aside0.mk ((by rw [hg]; exact (below_size (by repeat (first | (with_reducible first | exact HB.out | apply below_alloc | apply pw_below_drewN | apply below_drew1 | refine below_set ?_ GE223.out | refine below_set ?_ GE224.out) | exact HB.out))) : w.heap.size ≤ gb225)); have n5_ := Aside0.mk ((by rw [hg]; exact (below_size (by repeat (first | (with_reducible first | exact HB.out | apply below_alloc | apply pw_below_drewN | apply below_drew1 | refine below_set ?_ GE223.out | refine below_set ?_ GE224.out) | exact HB.out))) : w.heap.size ≤ gb225)); have n6_ := Aside0.mk ((by rw [hg]; exact Nat.ne_of_lt (blk_lt (g := gb223) (o := .cells #[.int .i64 a0_0, .int .i64 a0_1, .int .i64 a0_2] 96 (0, 0)) (by (with_reducible repeat (first | refine blk_drewN ?_ _ | refine blk_drew ?_ | refine blk_alloc ?_ _)); exact BK223.out)) : gb223 ≠ gb225)); have n7_ := Aside0.mk ((by rw [hg]; exact Nat.ne_of_gt (blk_lt (g := gb223) (o := .cells #[.int .i64 a0_0, .int .i64 a0_1, .int .i64 a0_2] 96 (0, 0)) (by (with_reducible repeat (first | refine blk_drewN ?_ _ | refine blk_drew ?_ | refine blk_alloc ?_ _)); exact BK223.out)) : gb225 ≠ gb223)); have n8_ := Aside0.mk ((by rw [hg]; exact Nat.ne_of_lt (blk_lt (g := gb224) (o := .cells #[.int .i64 0, .int .i64 0, .int .i64 0] 55 (0, 0)) (by (with_reducible repeat (first | refine blk_drewN ?_ _ | refine blk_drew ?_ | refine blk_alloc ?_ _)); exact BK224.out)) : gb224 ≠ gb225)); have n9_ := Aside0.mk ((by rw [hg]; exact Nat.ne_of_gt (blk_lt (g := gb224) (o := .cells #[.int .i64 0, .int .i64 0, .int .i64 0] 55 (0, 0)) (by (with_reducible repeat (first | refine blk_drewN ?_ _ | refine blk_drew ?_ | refine blk_alloc ?_ _)); exact BK224.out)) : gb225 ≠ gb224)); clear BK223; clear BK224; clear HB; have BK223 := n0_; have BK224 := n1_; have HB := n2_; have BK225 := n3_; have GW225 := n4_; have GE225 := n5_; have NB223_225 := n6_; have NB225_223 := n7_; have NB224_225 := n8_; have NB225_224 := n9_; clear n0_ n1_ n2_ n3_ n4_ n5_ n6_ n7_ n8_ n9_; clear hb hbox hg; have hnb5 := NB223_224.out; have hnc5 := NB224_223.out; have hnb6 := NB223_225.out; have hnc6 := NB225_223.out; have hcz7_0 : w4.cell? ⟨gb223, 0, none⟩ = some (.int .i64 a0_0) := (blk_cell BK223.out 0).trans rfl; have hcz7_1 : w4.cell? ⟨gb223, 1, none⟩ = some (.int .i64 a0_1) := (blk_cell BK223.out 1).trans rfl; have hcz7_2 : w4.cell? ⟨gb223, 2, none⟩ = some (.int .i64 a0_2) := (blk_cell BK223.out 2).trans rfl; have hfz7_0 := blk_frozen BK223.out 0; have hfz7_1 := blk_frozen BK223.out 1; have hfz7_2 := blk_frozen BK223.out 2; have hnb8 := NB225_224.out; have hnc8 := NB224_225.out; have hcz9_0 : w4.cell? ⟨gb225, 0, none⟩ = some (.int .i64 0) := (blk_cell BK225.out 0).trans rfl; have hcz9_1 : w4.cell? ⟨gb225, 1, none⟩ = some (.int .i64 0) := (blk_cell BK225.out 1).trans rfl; have hcz9_2 : w4.cell? ⟨gb225, 2, none⟩ = some (.int .i64 0) := (blk_cell BK225.out 2).trans rfl; have hfz9_0 := blk_frozen BK225.out 0; have hfz9_1 := blk_frozen BK225.out 1; have hfz9_2 := blk_frozen BK225.out 2; have hcz10_0 : w4.cell? ⟨gb224, 0, none⟩ = some (.int .i64 0) := (blk_cell BK224.out 0).trans rfl; have hcz10_1 : w4.cell? ⟨gb224, 1, none⟩ = some (.int .i64 0) := (blk_cell BK224.out 1).trans rfl; have hcz10_2 : w4.cell? ⟨gb224, 2, none⟩ = some (.int .i64 0) := (blk_cell BK224.out 2).trans rfl; have hfz10_0 := blk_frozen BK224.out 0; have hfz10_1 := blk_frozen BK224.out 1; have hfz10_2 := blk_frozen BK224.out 2))
 refine bodyPost_ret (results_cell_row rfl _ _ gb224 55 #[.int .i64 a0_0, .int .i64 a0_1, .int .i64 a0_2] (0, 0) _ rfl (by (with_reducible repeat (first | refine blk_drewN ?_ _ | refine blk_drew ?_ | refine blk_alloc ?_ _)); refine blk_put (cs := #[.int .i64 a0_0, .int .i64 a0_1, .int .i64 0]) ?_ 2 _ rfl; (with_reducible repeat (first | refine blk_drewN ?_ _ | refine blk_drew ?_ | refine blk_alloc ?_ _)); refine blk_put (cs := #[.int .i64 a0_0, .int .i64 0, .int .i64 0]) ?_ 1 _ rfl; (with_reducible repeat (first | refine blk_drewN ?_ _ | refine blk_drew ?_ | refine blk_alloc ?_ _)); refine blk_put (cs := #[.int .i64 0, .int .i64 0, .int .i64 0]) ?_ 0 _ rfl; (with_reducible repeat (first | refine blk_drewN ?_ _ | refine blk_drew ?_ | refine blk_alloc ?_ _)); refine blk_far ?_ NB224_225.out _; (with_reducible repeat (first | refine blk_drewN ?_ _ | refine blk_drew ?_ | refine blk_alloc ?_ _)); refine blk_far ?_ NB224_225.out _; (with_reducible repeat (first | refine blk_drewN ?_ _ | refine blk_drew ?_ | refine blk_alloc ?_ _)); refine blk_far ?_ NB224_225.out _; (with_reducible repeat (first | refine blk_drewN ?_ _ | refine blk_drew ?_ | refine blk_alloc ?_ _)); exact BK224.out) Try.underlying55 rfl (by kernel_rfl)) rfl ?_
 exact ⟨by first | rfl | (simp [errW_none, errW_some] <;> rfl) | (simp [*, errW_none, errW_some] <;> rfl), by repeat (first | (with_reducible first | exact HB.out | apply below_alloc | apply pw_below_drewN | apply below_drew1 | refine below_set ?_ GE223.out | refine below_set ?_ GE224.out | refine below_set ?_ GE225.out) | exact HB.out)⟩
end Go.Proofs.Ytojpibpjieanhaa.X
end
section
-- Written by a program of this session out of the kit's print of the loaded functions: a plain function of a Go function, and its contract.
namespace Go.Proofs.Ytojpibpjieanhaa.X
open Go.RowKit Go.Proofs.YtojpibpjieanhaaW.PrintWords Go.Proofs.YtojpibpjieanhaaW.PrintLast Go.Proofs.YtojpibpjieanhaaW.PrintMore
attribute [local go_sem] max2_int min2_int max_two min_two max_three min_three max_four min_four   -- for this text's walks alone
set_option linter.unusedVariables false
set_option linter.unusedSimpArgs false
def laws_toWireS.l0 : Nat → List (S96) → List (S55) → Int → Option ((List (S55)))
 | 0, _, _, _ => none
 | k + 1, x0, x3, x4 => if x4 < (x0.length : Int) then (if 0 ≤ x4 then ((laws_toWire.f ((rd_T96 x0 x4).f0) ((rd_T96 x0 x4).f1) ((rd_T96 x0 x4).f2)).bind fun bt230 => (if x4 < (x3.length : Int) then (laws_toWireS.l0 k x0 (x3.set (x4 : Int).toNat (⟨bt230.1, bt230.2.1, bt230.2.2⟩ : S55)) (wrap64 (x4 + 1))) else (none))) else (none)) else (some x3)
def laws_toWireS.f (k : Nat) (l0 : List (S96)) : Option ((List (S55))) := if 0 ≤ (l0.length : Int) then (if ((l0.length : Int) : Int).toNat ≤ 11728124029610 then (laws_toWireS.l0 k l0 (List.replicate ((l0.length : Int) : Int).toNat z55) 0) else (none)) else (none)
set_option maxHeartbeats 8000000 in
set_option maxRecDepth 100000 in
theorem laws_toWireS.calls (k : Nat) (A0 : Option Addr) (c0 : Nat) (l0 : List (S96)) (r : List (S55)) (w : World) (hr0 : Kd.C k96 w A0 l0.length l0) (hc0 : l0.length ≤ c0) (h : laws_toWireS.f k l0 = some r) :
  Calls Try.prog 52 #[.slice A0 l0.length c0] w fun e w' => ∃ v0_ : Value, e = .returned (v0_) ∧ Kd.R k55 55 w' w.heap.size (fun _ => True) v0_ r ∧ Below w.heap.size w w' := by
 have hu96 := Try.underlying96
 have hu55 := Try.underlying55
 have HR0 := Aside0.mk hr0
 have HC0 := Aside0.mk hc0
 clear hr0 hc0
 have HB := Aside0.mk (Below.refl w.heap.size w)
 have H : (if 0 ≤ (l0.length : Int) then (if ((l0.length : Int) : Int).toNat ≤ 11728124029610 then (laws_toWireS.l0 k l0 (List.replicate ((l0.length : Int) : Int).toNat z55) 0) else (none)) else (none)) = some r := h
 clear h
 by_cases c2 : 0 ≤ (l0.length : Int)
 ·rw [if_pos c2] at H
  have c2b0 := eq_true c2
  have c2b1 : decide (0 ≤ (l0.length : Int)) = true := decide_eq_true c2
  clear c2
  by_cases c3 : ((l0.length : Int) : Int).toNat ≤ 11728124029610
  ·rw [if_pos c3] at H
   have c3b0 := eq_true c3
   have c3b1 : decide (((l0.length : Int) : Int).toNat ≤ 11728124029610) = true := decide_eq_true c3
   clear c3
   obtain ⟨y226, hy226⟩ : ∃ y_ : List (S55), y_ = (List.replicate ((l0.length : Int) : Int).toNat z55) := ⟨_, rfl⟩
   replace H : (laws_toWireS.l0 k l0 y226 0) = some r := by first | (rw [hy226]; with_reducible exact H) | (have H2_ := (Option.bind_some _ _).symm.trans H; rw [hy226]; with_reducible exact H2_) | (have H2_ := (Option.bind_some _ _).symm.trans H; with_reducible exact H2_) | with_reducible exact H | (rw [hy226]; exact H) | exact H
   have Ny226 := Aside0.mk hy226
   clear hy226
   have H' := Aside0.mk H
   clear H
   go_enter Try.func52, Try.ntmps52
   go_wp2_with (first | ((with_reducible refine gate_dst (N := 7) rfl ?_); refine Kd.R_make k55 _ 55 rfl (N := 7) rfl 34 _ _ rfl (l0.length : Int) rfl rfl Try.underlying34 (.agg #[(.int .i64 0), (.int .i64 0), (.int .i64 0)]) 24 info55 rfl (by decide) (by omega) z55 (ok := fun _ => True) (okp := fun _ => True) (k55_mkM _ _ _ z55 ) (fun _ hk => hk) trivial (of_decide_eq_true (by first | (with_reducible assumption) | assumption)) (Nat.le_trans (Nat.mul_le_mul_right _ (of_decide_eq_true (by first | (with_reducible assumption) | assumption) : (l0.length : Int).toNat ≤ 11728124029610)) (by omega)) (Below.refl _ _) (Nat.le_refl _) ?_; intro v227 w4 ho5 hb hg_ hnew_; clear hg_ hnew_; (first | rw [← Ny226.out] at ho5 | (simp only [Int.reduceToNat] at ho5; rw [← Ny226.out] at ho5)); have n0_ := Aside0.mk (Kd.R_lower ho5 (below_size (by repeat (first | (with_reducible first | exact HB.out | apply below_alloc | apply pw_below_drewN | apply below_drew1) | exact HB.out)))); have n1_ := Aside0.mk (below_step (by repeat (first | (with_reducible first | exact HB.out | apply below_alloc | apply pw_below_drewN | apply below_drew1) | exact HB.out)) hb); clear HB; have HO228 := n0_; have HB := n1_; clear n0_ n1_; clear hb ho5))
   go_loopg [4] k (fun kq v4 w' => ∃ (x3_1 : List (S55)) (x4_1 : Int), v4 = .int .i64 x4_1 ∧ Aside0 (laws_toWireS.l0 kq l0 x3_1 x4_1 = some r) ∧ Aside0 (kq ≤ k) ∧ Aside0 (Kd.R k55 55 w' w.heap.size (fun _ => True) v227 x3_1) ∧ Aside0 (Below w.heap.size w w'))
   case atStart => exact ⟨(y226), (0), (by first | rfl | (simp; done) | (simp [*]; done)), H', ⟨Nat.le_refl _⟩, ⟨by (with_reducible repeat (first | apply Kd.R_alloc | apply Kd.R_drewN | apply Kd.R_drew)); exact HO228.out⟩, ⟨by repeat (first | (with_reducible first | exact HB.out | apply below_alloc | apply pw_below_drewN | apply below_drew1) | exact HB.out)⟩⟩
   case round =>
    clear H'
    try clear c2
    try clear c2b0
    try clear c2b1
    try clear p2
    try clear c3
    try clear c3b0
    try clear c3b1
    try clear c5
    obtain ⟨x3_1, x4_1, rfl, HA, HK1, HO_3, HB⟩ := hrel
    cases gk with
    | zero => exact absurd HA.out (by simp [laws_toWireS.l0])
    | succ k1 =>
     have H := HA.out
     clear HA
     simp only [laws_toWireS.l0] at H
     by_cases c6 : x4_1 < (l0.length : Int)
     ·rw [if_pos c6] at H
      have c6b0 : decide (x4_1 < (l0.length : Int)) = true := decide_eq_true c6
      clear c6
      by_cases c7 : 0 ≤ x4_1
      ·rw [if_pos c7] at H
       have c7b0 : decide (0 ≤ x4_1) = true := decide_eq_true c7
       clear c7
       replace H := Option.bind_eq_some_iff.mp H
       obtain ⟨⟨t230, t231, t232⟩, A80, H⟩ := H
       replace H : (if x4_1 < (x3_1.length : Int) then (laws_toWireS.l0 k1 l0 (x3_1.set (x4_1 : Int).toNat (⟨t230, t231, t232⟩ : S55)) (wrap64 (x4_1 + 1))) else (none)) = some r := H
       have A8 := Aside0.mk A80
       clear A80
       by_cases c9 : x4_1 < (x3_1.length : Int)
       ·rw [if_pos c9] at H
        have c9b0 : decide (x4_1 < (x3_1.length : Int)) = true := decide_eq_true c9
        clear c9
        obtain ⟨y233, hy233⟩ : ∃ y_ : List (S55), y_ = (x3_1.set (x4_1 : Int).toNat (⟨t230, t231, t232⟩ : S55)) := ⟨_, rfl⟩
        replace H : (laws_toWireS.l0 k1 l0 y233 (wrap64 (x4_1 + 1))) = some r := by first | (rw [hy233]; with_reducible exact H) | (have H2_ := (Option.bind_some _ _).symm.trans H; rw [hy233]; with_reducible exact H2_) | (have H2_ := (Option.bind_some _ _).symm.trans H; with_reducible exact H2_) | with_reducible exact H | (rw [hy233]; exact H) | exact H
        have Ny233 := Aside0.mk hy233
        clear hy233
        have H' := Aside0.mk H
        clear H
        have p229 : 0 ≤ (x4_1 : Int) := of_decide_eq_true (by first | (with_reducible assumption) | assumption)
        have q229 : x4_1 < (l0.length : Int) := of_decide_eq_true (by first | (with_reducible assumption) | assumption)
        obtain ⟨ad229, e229, hx229_0, hx229_1, hx229_2⟩ := at_T96 HR0.out x4_1 p229 q229
        cases e229
        replace hx229_0 := (HB.out.cell (World.block_lt_of_cell? w _ hx229_0)).trans hx229_0
        replace hx229_1 := (HB.out.cell (World.block_lt_of_cell? w _ hx229_1)).trans hx229_1
        replace hx229_2 := (HB.out.cell (World.block_lt_of_cell? w _ hx229_2)).trans hx229_2
        replace p229 := eq_true p229
        replace q229 := eq_true q229
        go_wp2_with (first | ((with_reducible refine gate_callee (f := 80) rfl ?_); refine goesL_ (some 20) rfl rfl Try.func80 (by kernel_rfl) rfl #[.agg #[.int .i64 ((rd_T96 l0 x4_1).f0), .int .i64 ((rd_T96 l0 x4_1).f1), .int .i64 ((rd_T96 l0 x4_1).f2)]] rfl (by (try simp only [List.map_toArray, List.map_cons, List.map_nil]); first | done | rfl | (simp only [List.length_drop, List.length_take]; rfl)) ?_; (with_reducible refine (laws_toWire.calls ((rd_T96 l0 x4_1).f0) ((rd_T96 l0 x4_1).f1) ((rd_T96 l0 x4_1).f2) t230 t231 t232 _ A8.out).mono ?_); rintro e w11 ⟨rfl, hb⟩; refine ⟨_, rfl, ?_⟩; have n0_ := Aside0.mk (Kd.R_below (by (with_reducible repeat (first | apply Kd.R_alloc | apply Kd.R_drewN | apply Kd.R_drew)); exact HO_3.out) hb); have n1_ := Aside0.mk (below_step (by repeat (first | (with_reducible first | exact HB.out | apply below_alloc | apply pw_below_drewN | apply below_drew1) | exact HB.out)) hb); clear HO_3; clear HB; have HO_3 := n0_; have HB := n1_; clear n0_ n1_; (try clear hb); (try clear hb2); (try clear hk); (try clear hi); have p10 : 0 ≤ (x4_1 : Int) := of_decide_eq_true (by first | (with_reducible assumption) | assumption); have q10 : (x4_1 : Int) < ((x3_1.length : Int) : Int) := of_decide_eq_true (by first | (with_reducible assumption) | assumption); obtain ⟨go10, co10, eo10, gb10, gl10, cl10, HG10⟩ := Kd.R_form HO_3.out (by omega); (first | cases eo10 | (injection eo10 with ea_ en_ ec_; (first | subst ea_ | (injection ea_ with ea_; subst ea_)); subst ec_; clear en_)); have GB10 := Aside0.mk gb10; have GG10 := Aside0.mk HG10; clear gb10 gl10 HG10; obtain ⟨ce10, hcl10, hM10, hcc10, hfr10⟩ := Kd.R_elem HO_3.out z55 (x4_1 : Int) p10 q10; obtain rfl := k55_openM hM10; have hx10_0 : w11.cell? ⟨go10, (x4_1 : Int).toNat * 3, none⟩ = some (.int .i64 ((rd_T55 x3_1 x4_1).f0)) := hcc10 0 _ rfl; have hx10_1 : w11.cell? ⟨go10, (x4_1 : Int).toNat * 3 + 1, none⟩ = some (.int .i64 ((rd_T55 x3_1 x4_1).f1)) := hcc10 1 _ rfl; have hx10_2 : w11.cell? ⟨go10, (x4_1 : Int).toNat * 3 + 2, none⟩ = some (.int .i64 ((rd_T55 x3_1 x4_1).f2)) := hcc10 2 _ rfl; have hf10_0 : w11.frozen? ⟨go10, (x4_1 : Int).toNat * 3, none⟩ = false := hfr10 0; have hf10_1 : w11.frozen? ⟨go10, (x4_1 : Int).toNat * 3 + 1, none⟩ = false := hfr10 1; have hf10_2 : w11.frozen? ⟨go10, (x4_1 : Int).toNat * 3 + 2, none⟩ = false := hfr10 2; clear hcl10 hcc10 hfr10 hM10; replace p10 := eq_true p10; replace q10 := eq_true q10; have HX12 := Aside0.mk (show Kd.R k55 55 w11 w.heap.size (fun _ => True) (.slice (some ⟨go10, 0, none⟩) x3_1.length co10) x3_1 from (by (with_reducible repeat (first | apply Kd.R_alloc | apply Kd.R_drewN | apply Kd.R_drew)); exact HO_3.out)); obtain ⟨ce12, hcl12, hM12, hcc12, hfr12⟩ := Kd.R_elem HX12.out z55 (x4_1 : Int) (of_decide_eq_true (by first | (with_reducible assumption) | assumption)) (by have h_ : (x4_1 : Int) < ((x3_1.length : Int) : Int) := of_decide_eq_true (by first | (with_reducible assumption) | assumption); first | exact h_ | (have e_ := (Kd.R_reads' HO_3.out).1; omega) | simpa using h_); obtain rfl := k55_openM hM12; have HP12 := Kd.R_seg HX12.out (x4_1 : Int) (of_decide_eq_true (by first | (with_reducible assumption) | assumption)) (by have h_ : (x4_1 : Int) < ((x3_1.length : Int) : Int) := of_decide_eq_true (by first | (with_reducible assumption) | assumption); first | exact h_ | (have e_ := (Kd.R_reads' HO_3.out).1; omega) | simpa using h_) (seg := [.int .i64 t230, .int .i64 t231, .int .i64 t232]) (j := 0) hcl12 hcc12 (show 3 ≤ 3 from by decide) (x' := (⟨t230, t231, t232⟩ : S55)) (k55_mkM _ _ _ (⟨t230, t231, t232⟩ : S55) ) (fun _ hk => hk); have hx12_0 := hcc12 0 _ rfl; (try simp only [show (k55).sz = 3 from rfl, Nat.mul_one, Nat.add_zero] at hx12_0); have hf12_0 := hfr12 0; (try simp only [show (k55).sz = 3 from rfl, Nat.mul_one, Nat.add_zero] at hf12_0); have hx12_1 := hcc12 1 _ rfl; (try simp only [show (k55).sz = 3 from rfl, Nat.mul_one, Nat.add_zero] at hx12_1); have hf12_1 := hfr12 1; (try simp only [show (k55).sz = 3 from rfl, Nat.mul_one, Nat.add_zero] at hf12_1); have hx12_2 := hcc12 2 _ rfl; (try simp only [show (k55).sz = 3 from rfl, Nat.mul_one, Nat.add_zero] at hx12_2); have hf12_2 := hfr12 2; (try simp only [show (k55).sz = 3 from rfl, Nat.mul_one, Nat.add_zero] at hf12_2); clear hcl12 hcc12 hfr12 hM12) | ((with_reducible refine gate_store (t := 55) (p := 21) rfl ?_); refine store_event (t := 55) (p := 21) (v := ?vo_w13) (w1 := (((w11.setCell ⟨go10, (x4_1 : Int).toNat * 3, none⟩ (.int .i64 t230)).setCell ⟨go10, (x4_1 : Int).toNat * 3 + 1, none⟩ (.int .i64 t231)).setCell ⟨go10, (x4_1 : Int).toNat * 3 + 2, none⟩ (.int .i64 t232))) ?hg ?ho ?hn ?hr ?_; (case ho => rfl); (case hg => rfl); (case hn => rfl); (case hr => first | (go_simp; done) | (go_simp; rfl)); intro w13 hw; have hg : w11.grownBy w13 (some go10) := (by rw [hw]; exact HP12.2); have hp_ : Kd.R k55 55 w13 w.heap.size (fun _ => True) (.slice (some ⟨go10, 0, none⟩) x3_1.length co10) y233 := (by rw [hw, Ny233.out]; exact HP12.1); clear HP12; have n0_ := Aside0.mk (hp_); have n1_ := Aside0.mk ((by rw [hw]; exact below_set (below_set (below_set (HB.out) GB10.out) GB10.out) GB10.out : Below w.heap.size w w13)); clear HO_3; clear HB; have HO_3 := n0_; have HB := n1_; clear n0_ n1_; clear hg hw hp_))
        go_roundg k1
        case measure => have := HK1.out; omega
        case rel => exact ⟨(y233), (wrap64 (x4_1 + 1)), (by first | rfl | (simp; done) | (simp [*]; done)), H', ⟨by have := HK1.out; omega⟩, ⟨by (with_reducible repeat (first | apply Kd.R_alloc | apply Kd.R_drewN | apply Kd.R_drew)); exact HO_3.out⟩, ⟨by repeat (first | (with_reducible first | exact HB.out | apply below_alloc | apply pw_below_drewN | apply below_drew1) | exact HB.out)⟩⟩
       ·rw [if_neg c9] at H
        exact absurd H (by simp)
      ·rw [if_neg c7] at H
       exact absurd H (by simp)
     ·rw [if_neg c6] at H
      have c6b0 : decide (x4_1 < (l0.length : Int)) = false := decide_eq_false c6
      clear c6
      obtain rfl := Option.some.inj H
      go_wp2
      go_ret
      exact ⟨_, by first | rfl | (simp [errW_none, errW_some] <;> rfl) | (simp [*, errW_none, errW_some] <;> rfl), by (with_reducible repeat (first | apply Kd.R_alloc | apply Kd.R_drewN | apply Kd.R_drew)); exact HO_3.out, by repeat (first | (with_reducible first | exact HB.out | apply below_alloc | apply pw_below_drewN | apply below_drew1) | exact HB.out)⟩
  ·rw [if_neg c3] at H
   exact absurd H (by simp)
 ·rw [if_neg c2] at H
  exact absurd H (by simp)
end Go.Proofs.Ytojpibpjieanhaa.X
end
section
-- Written by a program of this session out of the kit's print of the loaded functions: a plain function of a Go function, and its contract.
namespace Go.Proofs.Ytojpibpjieanhaa.X
open Go.RowKit Go.Proofs.YtojpibpjieanhaaW.PrintWords Go.Proofs.YtojpibpjieanhaaW.PrintLast Go.Proofs.YtojpibpjieanhaaW.PrintMore
attribute [local go_sem] max2_int min2_int max_two min_two max_three min_three max_four min_four   -- for this text's walks alone
set_option linter.unusedVariables false
set_option linter.unusedSimpArgs false
def laws_toFlow.f (k : Nat) (l0_0 : List Int) (l0_1 : List (S96)) : Option (List Int × (List (S55))) := (laws_toInt64S.f k l0_0).bind fun t237 => ((laws_toWireS.f k l0_1).bind fun t240 => (some (t237, t240)))
set_option maxHeartbeats 8000000 in
set_option maxRecDepth 100000 in
theorem laws_toFlow.calls (k : Nat) (A0_0 : Option Addr) (c0_0 : Nat) (l0_0 : List Int) (A0_1 : Option Addr) (c0_1 : Nat) (l0_1 : List (S96)) (r1 : List Int) (r2 : List (S55)) (w : World) (hr0_0 : Kd.C (Kd.int .i64) w A0_0 l0_0.length l0_0) (hc0_0 : l0_0.length ≤ c0_0) (hr0_1 : Kd.C k96 w A0_1 l0_1.length l0_1) (hc0_1 : l0_1.length ≤ c0_1) (h : laws_toFlow.f k l0_0 l0_1 = some (r1, r2)) :
  Calls Try.prog 22 #[.agg #[.slice A0_0 l0_0.length c0_0, .slice A0_1 l0_1.length c0_1]] w fun e w' => ∃ v0_ v1_ : Value, e = .returned (.agg #[v0_, v1_]) ∧ Kd.R (Kd.int .i64) 2 w' w.heap.size (fun _ => True) v0_ r1 ∧ Kd.R k55 55 w' w.heap.size (fun _ => True) v1_ r2 ∧ Below w.heap.size w w' := by
 have hu31 := Try.underlying31
 have hu36 := Try.underlying36
 have HR0_0 := Aside0.mk hr0_0
 have HC0_0 := Aside0.mk hc0_0
 clear hr0_0 hc0_0
 have HR0_1 := Aside0.mk hr0_1
 have HC0_1 := Aside0.mk hc0_1
 clear hr0_1 hc0_1
 have HB := Aside0.mk (Below.refl w.heap.size w)
 have H : ((laws_toInt64S.f k l0_0).bind fun t237 => ((laws_toWireS.f k l0_1).bind fun t240 => (some (t237, t240)))) = some (r1, r2) := h
 clear h
 replace H := Option.bind_eq_some_iff.mp H
 obtain ⟨t237, A20, H⟩ := H
 replace H : ((laws_toWireS.f k l0_1).bind fun t240 => (some (t237, t240))) = some (r1, r2) := H
 have A2 := Aside0.mk A20
 clear A20
 replace H := Option.bind_eq_some_iff.mp H
 obtain ⟨t240, A30, H⟩ := H
 replace H : (some (t237, t240)) = some (r1, r2) := H
 have A3 := Aside0.mk A30
 clear A30
 simp only [Option.some.injEq, Prod.mk.injEq] at H
 obtain ⟨rfl, rfl⟩ := H
 go_enter Try.func22, Try.ntmps22
 go_wp2_with (first | ((with_reducible refine gate_dst (N := 1) rfl ?_); refine box_event ?hg (N := 1) ?hd (cs := #[.slice A0_0 l0_0.length c0_0, .slice A0_1 l0_1.length c0_1]) (t := 31) ?hr ?_; (case hd => rfl); (case hg => rfl); (case hr => first | (go_simp; done) | (go_simp; rfl)); intro gb234 hg w4 hbox hb; have n0_ := Aside0.mk (below_step (by repeat (first | (with_reducible first | exact HB.out | apply below_alloc | apply pw_below_drewN | apply below_drew1) | exact HB.out)) hb); have n1_ := Aside0.mk (hbox); have n2_ := Aside0.mk ((by rw [hg]; exact (below_size (by repeat (first | (with_reducible first | exact HB.out | apply below_alloc | apply pw_below_drewN | apply below_drew1) | exact HB.out))) : w.heap.size ≤ gb234)); have n3_ := Aside0.mk ((by rw [hg]; exact (below_size (by repeat (first | (with_reducible first | exact HB.out | apply below_alloc | apply pw_below_drewN | apply below_drew1) | exact HB.out))) : w.heap.size ≤ gb234)); clear HB; have HB := n0_; have BK234 := n1_; have GW234 := n2_; have GE234 := n3_; clear n0_ n1_ n2_ n3_; clear hb hbox hg) | ((with_reducible refine gate_dst (N := 2) rfl ?_); refine box_event ?hg (N := 2) ?hd (cs := #[.slice none 0 0, .slice none 0 0]) (t := 36) ?hr ?_; (case hd => rfl); (case hg => rfl); (case hr => first | (go_simp; done) | (go_simp; rfl)); intro gb235 hg w5 hbox hb; have n0_ := Aside0.mk (blk_below (g := gb234) (o := .cells #[.slice A0_0 l0_0.length c0_0, .slice A0_1 l0_1.length c0_1] 31 (0, 0)) (by (with_reducible repeat (first | refine blk_drewN ?_ _ | refine blk_drew ?_ | refine blk_alloc ?_ _)); exact BK234.out) hb); have n1_ := Aside0.mk (below_step (by repeat (first | (with_reducible first | exact HB.out | apply below_alloc | apply pw_below_drewN | apply below_drew1 | refine below_set ?_ GE234.out) | exact HB.out)) hb); have n2_ := Aside0.mk (hbox); have n3_ := Aside0.mk ((by rw [hg]; exact (below_size (by repeat (first | (with_reducible first | exact HB.out | apply below_alloc | apply pw_below_drewN | apply below_drew1 | refine below_set ?_ GE234.out) | exact HB.out))) : w.heap.size ≤ gb235)); have n4_ := Aside0.mk ((by rw [hg]; exact (below_size (by repeat (first | (with_reducible first | exact HB.out | apply below_alloc | apply pw_below_drewN | apply below_drew1 | refine below_set ?_ GE234.out) | exact HB.out))) : w.heap.size ≤ gb235)); have n5_ := Aside0.mk ((by rw [hg]; exact Nat.ne_of_lt (blk_lt (g := gb234) (o := .cells #[.slice A0_0 l0_0.length c0_0, .slice A0_1 l0_1.length c0_1] 31 (0, 0)) (by (with_reducible repeat (first | refine blk_drewN ?_ _ | refine blk_drew ?_ | refine blk_alloc ?_ _)); exact BK234.out)) : gb234 ≠ gb235)); have n6_ := Aside0.mk ((by rw [hg]; exact Nat.ne_of_gt (blk_lt (g := gb234) (o := .cells #[.slice A0_0 l0_0.length c0_0, .slice A0_1 l0_1.length c0_1] 31 (0, 0)) (by (with_reducible repeat (first | refine blk_drewN ?_ _ | refine blk_drew ?_ | refine blk_alloc ?_ _)); exact BK234.out)) : gb235 ≠ gb234)); clear BK234; clear HB; have BK234 := n0_; have HB := n1_; have BK235 := n2_; have GW235 := n3_; have GE235 := n4_; have NB234_235 := n5_; have NB235_234 := n6_; clear n0_ n1_ n2_ n3_ n4_ n5_ n6_; clear hb hbox hg) | ((with_reducible refine gate_dst (N := 3) rfl ?_); refine box_event ?hg (N := 3) ?hd (cs := #[.slice none 0 0, .slice none 0 0]) (t := 36) ?hr ?_; (case hd => rfl); (case hg => rfl); (case hr => first | (go_simp; done) | (go_simp; rfl)); intro gb236 hg w6 hbox hb; have n0_ := Aside0.mk (blk_below (g := gb234) (o := .cells #[.slice A0_0 l0_0.length c0_0, .slice A0_1 l0_1.length c0_1] 31 (0, 0)) (by (with_reducible repeat (first | refine blk_drewN ?_ _ | refine blk_drew ?_ | refine blk_alloc ?_ _)); exact BK234.out) hb); have n1_ := Aside0.mk (blk_below (g := gb235) (o := .cells #[.slice none 0 0, .slice none 0 0] 36 (0, 0)) (by (with_reducible repeat (first | refine blk_drewN ?_ _ | refine blk_drew ?_ | refine blk_alloc ?_ _)); exact BK235.out) hb); have n2_ := Aside0.mk (below_step (by repeat (first | (with_reducible first | exact HB.out | apply below_alloc | apply pw_below_drewN | apply below_drew1 | refine below_set ?_ GE234.out | refine below_set ?_ GE235.out) | exact HB.out)) hb); have n3_ := Aside0.mk (hbox); have n4_ := Aside0.mk ((by rw [hg]; exact (below_size (by repeat (first | (with_reducible first | exact HB.out | apply below_alloc | apply pw_below_drewN | apply below_drew1 | refine below_set ?_ GE234.out | refine below_set ?_ GE235.out) | exact HB.out))) : w.heap.size ≤ gb236)); have n5_ := Aside0.mk ((by rw [hg]; exact (below_size (by repeat (first | (with_reducible first | exact HB.out | apply below_alloc | apply pw_below_drewN | apply below_drew1 | refine below_set ?_ GE234.out | refine below_set ?_ GE235.out) | exact HB.out))) : w.heap.size ≤ gb236)); have n6_ := Aside0.mk ((by rw [hg]; exact Nat.ne_of_lt (blk_lt (g := gb234) (o := .cells #[.slice A0_0 l0_0.length c0_0, .slice A0_1 l0_1.length c0_1] 31 (0, 0)) (by (with_reducible repeat (first | refine blk_drewN ?_ _ | refine blk_drew ?_ | refine blk_alloc ?_ _)); exact BK234.out)) : gb234 ≠ gb236)); have n7_ := Aside0.mk ((by rw [hg]; exact Nat.ne_of_gt (blk_lt (g := gb234) (o := .cells #[.slice A0_0 l0_0.length c0_0, .slice A0_1 l0_1.length c0_1] 31 (0, 0)) (by (with_reducible repeat (first | refine blk_drewN ?_ _ | refine blk_drew ?_ | refine blk_alloc ?_ _)); exact BK234.out)) : gb236 ≠ gb234)); have n8_ := Aside0.mk ((by rw [hg]; exact Nat.ne_of_lt (blk_lt (g := gb235) (o := .cells #[.slice none 0 0, .slice none 0 0] 36 (0, 0)) (by (with_reducible repeat (first | refine blk_drewN ?_ _ | refine blk_drew ?_ | refine blk_alloc ?_ _)); exact BK235.out)) : gb235 ≠ gb236)); have n9_ := Aside0.mk ((by rw [hg]; exact Nat.ne_of_gt (blk_lt (g := gb235) (o := .cells #[.slice none 0 0, .slice none 0 0] 36 (0, 0)) (by (with_reducible repeat (first | refine blk_drewN ?_ _ | refine blk_drew ?_ | refine blk_alloc ?_ _)); exact BK235.out)) : gb236 ≠ gb235)); clear BK234; clear BK235; clear HB; have BK234 := n0_; have BK235 := n1_; have HB := n2_; have BK236 := n3_; have GW236 := n4_; have GE236 := n5_; have NB234_236 := n6_; have NB236_234 := n7_; have NB235_236 := n8_; have NB236_235 := n9_; clear n0_ n1_ n2_ n3_ n4_ n5_ n6_ n7_ n8_ n9_; clear hb hbox hg; have hnb7 := NB234_235.out; have hnc7 := NB235_234.out; have hnb8 := NB234_236.out; have hnc8 := NB236_234.out; have hcz9_0 : w6.cell? ⟨gb234, 0, none⟩ = some (.slice A0_0 l0_0.length c0_0) := (blk_cell BK234.out 0).trans rfl; have hcz9_1 : w6.cell? ⟨gb234, 1, none⟩ = some (.slice A0_1 l0_1.length c0_1) := (blk_cell BK234.out 1).trans rfl; have hfz9_0 := blk_frozen BK234.out 0; have hfz9_1 := blk_frozen BK234.out 1) | ((with_reducible refine gate_callee (f := 15) rfl ?_); refine goesL_ (some 6) rfl rfl Try.func15 (by kernel_rfl) rfl #[.slice A0_0 l0_0.length c0_0] rfl (by (try simp only [List.map_toArray, List.map_cons, List.map_nil]); first | done | rfl | (simp only [List.length_drop, List.length_take]; rfl)) ?_; (with_reducible refine (laws_toInt64S.calls k _ _ l0_0 t237 _ ?side1 ?side2 A2.out).mono ?_); (case side1 => repeat (first | exact (Kd.C_below HR0_0.out HB.out) | (with_reducible refine Kd.C_alloc ?_ _) | (with_reducible refine Kd.C_drewN ?_ _) | (with_reducible refine Kd.C_drew ?_))); (case side2 => first | exact trivial | (exact HC0_0.out)); rintro e w10 ⟨v238, rfl, ho0, hb⟩; refine ⟨_, rfl, ?_⟩; have n0_ := Aside0.mk (Kd.R_lower ho0 (below_size (by repeat (first | (with_reducible first | exact HB.out | apply below_alloc | apply pw_below_drewN | apply below_drew1 | refine below_set ?_ GE234.out | refine below_set ?_ GE235.out | refine below_set ?_ GE236.out) | exact HB.out)))); have n1_ := Aside0.mk (blk_below (g := gb234) (o := .cells #[.slice A0_0 l0_0.length c0_0, .slice A0_1 l0_1.length c0_1] 31 (0, 0)) (by (with_reducible repeat (first | refine blk_drewN ?_ _ | refine blk_drew ?_ | refine blk_alloc ?_ _)); exact BK234.out) hb); have n2_ := Aside0.mk (blk_below (g := gb235) (o := .cells #[.slice none 0 0, .slice none 0 0] 36 (0, 0)) (by (with_reducible repeat (first | refine blk_drewN ?_ _ | refine blk_drew ?_ | refine blk_alloc ?_ _)); exact BK235.out) hb); have n3_ := Aside0.mk (blk_below (g := gb236) (o := .cells #[.slice none 0 0, .slice none 0 0] 36 (0, 0)) (by (with_reducible repeat (first | refine blk_drewN ?_ _ | refine blk_drew ?_ | refine blk_alloc ?_ _)); exact BK236.out) hb); have n4_ := Aside0.mk (below_step (by repeat (first | (with_reducible first | exact HB.out | apply below_alloc | apply pw_below_drewN | apply below_drew1 | refine below_set ?_ GE234.out | refine below_set ?_ GE235.out | refine below_set ?_ GE236.out) | exact HB.out)) hb); clear BK234; clear BK235; clear BK236; clear HB; have HO239 := n0_; have BK234 := n1_; have BK235 := n2_; have BK236 := n3_; have HB := n4_; clear n0_ n1_ n2_ n3_ n4_; (try clear hb); (try clear hb2); (try clear hk); (try clear hi); (try clear ho0); obtain ⟨Ao11, co11, eo11⟩ := Kd.R_slice HO239.out; subst eo11; have hnb12 := NB236_235.out; have hnc12 := NB235_236.out; have hcz13_0 : w10.cell? ⟨gb236, 0, none⟩ = some (.slice none 0 0) := (blk_cell BK236.out 0).trans rfl; have hcz13_1 : w10.cell? ⟨gb236, 1, none⟩ = some (.slice none 0 0) := (blk_cell BK236.out 1).trans rfl; have hfz13_0 := blk_frozen BK236.out 0; have hfz13_1 := blk_frozen BK236.out 1; have hcz14_0 : w10.cell? ⟨gb234, 0, none⟩ = some (.slice A0_0 l0_0.length c0_0) := (blk_cell BK234.out 0).trans rfl; have hcz14_1 : w10.cell? ⟨gb234, 1, none⟩ = some (.slice A0_1 l0_1.length c0_1) := (blk_cell BK234.out 1).trans rfl; have hfz14_0 := blk_frozen BK234.out 0; have hfz14_1 := blk_frozen BK234.out 1) | ((with_reducible refine gate_callee (f := 52) rfl ?_); refine goesL_ (some 10) rfl rfl Try.func52 (by kernel_rfl) rfl #[.slice A0_1 l0_1.length c0_1] rfl (by (try simp only [List.map_toArray, List.map_cons, List.map_nil]); first | done | rfl | (simp only [List.length_drop, List.length_take]; rfl)) ?_; (with_reducible refine (laws_toWireS.calls k _ _ l0_1 t240 _ ?side1 ?side2 A3.out).mono ?_); (case side1 => exact Kd.C_below HR0_1.out (by repeat (first | (with_reducible first | exact HB.out | apply below_alloc | apply pw_below_drewN | apply below_drew1 | refine below_set ?_ GE234.out | refine below_set ?_ GE235.out | refine below_set ?_ GE236.out) | exact HB.out))); (case side2 => first | exact trivial | (exact HC0_1.out)); rintro e w15 ⟨v241, rfl, ho0, hb⟩; refine ⟨_, rfl, ?_⟩; have n0_ := Aside0.mk (Kd.R_below (by (with_reducible repeat (first | apply Kd.R_alloc | apply Kd.R_drewN | apply Kd.R_drew)); exact (Kd.R_mono (Kd.R_far (p := ⟨gb236, 0, none⟩) (Kd.R_types HO239.out BK236.out (by decide)) (fun _ hk => hk.2) (.slice Ao11 t237.length co11)) (fun _ h_ => h_.1))) hb); have n1_ := Aside0.mk (Kd.R_lower ho0 (below_size (by repeat (first | (with_reducible first | exact HB.out | apply below_alloc | apply pw_below_drewN | apply below_drew1 | refine below_set ?_ GE234.out | refine below_set ?_ GE235.out | refine below_set ?_ GE236.out) | exact HB.out)))); have n2_ := Aside0.mk (blk_below (g := gb234) (o := .cells #[.slice A0_0 l0_0.length c0_0, .slice A0_1 l0_1.length c0_1] 31 (0, 0)) (by (with_reducible repeat (first | refine blk_drewN ?_ _ | refine blk_drew ?_ | refine blk_alloc ?_ _)); refine blk_far ?_ NB234_236.out _; (with_reducible repeat (first | refine blk_drewN ?_ _ | refine blk_drew ?_ | refine blk_alloc ?_ _)); exact BK234.out) hb); have n3_ := Aside0.mk (blk_below (g := gb235) (o := .cells #[.slice none 0 0, .slice none 0 0] 36 (0, 0)) (by (with_reducible repeat (first | refine blk_drewN ?_ _ | refine blk_drew ?_ | refine blk_alloc ?_ _)); refine blk_far ?_ NB235_236.out _; (with_reducible repeat (first | refine blk_drewN ?_ _ | refine blk_drew ?_ | refine blk_alloc ?_ _)); exact BK235.out) hb); have n4_ := Aside0.mk (blk_below (g := gb236) (o := .cells #[.slice Ao11 t237.length co11, .slice none 0 0] 36 (0, 0)) (by (with_reducible repeat (first | refine blk_drewN ?_ _ | refine blk_drew ?_ | refine blk_alloc ?_ _)); refine blk_put (cs := #[.slice none 0 0, .slice none 0 0]) ?_ 0 _ rfl; (with_reducible repeat (first | refine blk_drewN ?_ _ | refine blk_drew ?_ | refine blk_alloc ?_ _)); exact BK236.out) hb); have n5_ := Aside0.mk (below_step (by repeat (first | (with_reducible first | exact HB.out | apply below_alloc | apply pw_below_drewN | apply below_drew1 | refine below_set ?_ GE234.out | refine below_set ?_ GE235.out | refine below_set ?_ GE236.out) | exact HB.out)) hb); clear HO239; clear BK234; clear BK235; clear BK236; clear HB; have HO239 := n0_; have HO242 := n1_; have BK234 := n2_; have BK235 := n3_; have BK236 := n4_; have HB := n5_; clear n0_ n1_ n2_ n3_ n4_ n5_; (try clear hb); (try clear hb2); (try clear hk); (try clear hi); (try clear ho0); obtain ⟨Ao16, co16, eo16⟩ := Kd.R_slice HO242.out; subst eo16; have hcz17_0 : w15.cell? ⟨gb236, 0, none⟩ = some (.slice Ao11 t237.length co11) := (blk_cell BK236.out 0).trans rfl; have hcz17_1 : w15.cell? ⟨gb236, 1, none⟩ = some (.slice none 0 0) := (blk_cell BK236.out 1).trans rfl; have hfz17_0 := blk_frozen BK236.out 0; have hfz17_1 := blk_frozen BK236.out 1; have hcz18_0 : w15.cell? ⟨gb235, 0, none⟩ = some (.slice none 0 0) := (blk_cell BK235.out 0).trans rfl; have hcz18_1 : w15.cell? ⟨gb235, 1, none⟩ = some (.slice none 0 0) := (blk_cell BK235.out 1).trans rfl; have hfz18_0 := blk_frozen BK235.out 0; have hfz18_1 := blk_frozen BK235.out 1))
 refine bodyPost_ret (results_cell_row rfl _ _ gb235 36 #[.slice Ao11 t237.length co11, .slice Ao16 t240.length co16] (0, 0) _ rfl (by (with_reducible repeat (first | refine blk_drewN ?_ _ | refine blk_drew ?_ | refine blk_alloc ?_ _)); refine blk_put (cs := #[.slice Ao11 t237.length co11, .slice none 0 0]) ?_ 1 _ rfl; (with_reducible repeat (first | refine blk_drewN ?_ _ | refine blk_drew ?_ | refine blk_alloc ?_ _)); refine blk_put (cs := #[.slice none 0 0, .slice none 0 0]) ?_ 0 _ rfl; (with_reducible repeat (first | refine blk_drewN ?_ _ | refine blk_drew ?_ | refine blk_alloc ?_ _)); refine blk_far ?_ NB235_236.out _; (with_reducible repeat (first | refine blk_drewN ?_ _ | refine blk_drew ?_ | refine blk_alloc ?_ _)); exact BK235.out) Try.underlying36 rfl (by kernel_rfl)) rfl ?_
 exact ⟨_, _, by first | rfl | (simp [errW_none, errW_some] <;> rfl) | (simp [*, errW_none, errW_some] <;> rfl), by (with_reducible repeat (first | apply Kd.R_alloc | apply Kd.R_drewN | apply Kd.R_drew)); exact Kd.R_mono (Kd.R_far (p := ⟨gb235, 1, none⟩) (Kd.R_far (p := ⟨gb235, 0, none⟩) (Kd.R_far (p := ⟨gb236, 1, none⟩) (Kd.R_types (Kd.R_types HO239.out BK236.out (by decide)) BK235.out (by decide)) (fun _ hk => hk.1.2) (.slice Ao16 t240.length co16)) (fun _ hk => hk.2) (.slice Ao11 t237.length co11)) (fun _ hk => hk.2) (.slice Ao16 t240.length co16)) (fun _ hk => trivial), by (with_reducible repeat (first | apply Kd.R_alloc | apply Kd.R_drewN | apply Kd.R_drew)); exact Kd.R_mono (Kd.R_far (p := ⟨gb235, 1, none⟩) (Kd.R_far (p := ⟨gb235, 0, none⟩) (Kd.R_far (p := ⟨gb236, 1, none⟩) (Kd.R_types (Kd.R_types HO242.out BK236.out (by decide)) BK235.out (by decide)) (fun _ hk => hk.1.2) (.slice Ao16 t240.length co16)) (fun _ hk => hk.2) (.slice Ao11 t237.length co11)) (fun _ hk => hk.2) (.slice Ao16 t240.length co16)) (fun _ hk => trivial), by repeat (first | (with_reducible first | exact HB.out | apply below_alloc | apply pw_below_drewN | apply below_drew1 | refine below_set ?_ GE234.out | refine below_set ?_ GE235.out | refine below_set ?_ GE236.out) | exact HB.out)⟩
end Go.Proofs.Ytojpibpjieanhaa.X
end
