/- The law FnExactNearEdges in plain numbers: what the print tells of the program and of the reference is alike. No conditions. -/
import Derived.Test.YtmhfknmjchaccaaPFnExactNearEdgesx
import Derived.Test.YtmhfknmjchaccaaCMath
import Derived.Test.YtmhfknmjchaccaaCNear
namespace Go.Proofs.Ytmhfknmjchaccaa.CFnExactNearEdges
open Go.RowKit Go.Proofs.Ytmhfknmjchaccaa.PFnExactNearEdges Go.Proofs.YtmhfknmjchaccaaW.PrintWords Go.Proofs.YtmhfknmjchaccaaW.PrintLast Go.Proofs.YtmhfknmjchaccaaW.PrintMore Go.Proofs.Ytmhfknmjchaccaa.CMath Go.Proofs.Ytmhfknmjchaccaa.CNear

theorem within_eq (a b c : Int) : impl_within.f a b c = some (decide (b ≤ a ∧ a ≤ c)) := by
  unfold impl_within.f; by_cases h : a ≥ b <;> simp [h] <;> omega
theorem l00In_eq (a b c : Int) : spec_l00In.f a b c = some (decide (b ≤ a ∧ a ≤ c)) := by
  unfold spec_l00In.f; by_cases h : a ≥ b <;> simp [h] <;> omega
def Clk (P O : Int) : Prop := (1 ≤ P ∧ P ≤ 100000) ∧ (0 ≤ O ∧ O ≤ 100000)
instance (P O : Int) : Decidable (Clk P O) := by unfold Clk; infer_instance
theorem impl_valid (P O : Int) : impl_ValidClock.f P O = some (decide (Clk P O)) := by
  unfold impl_ValidClock.f Clk; simp only [within_eq, Option.bind_some]
  by_cases h : 1 ≤ P ∧ P ≤ 100000 <;> simp [h]
theorem spec_valid (P O : Int) : spec_l10Is.f P O = some (decide (Clk P O)) := by
  unfold spec_l10Is.f Clk; simp only [l00In_eq, Option.bind_some]
  by_cases h : 1 ≤ P ∧ P ≤ 100000 <;> simp [h]
theorem sgcd : ∀ (k a b : Nat), b < k → spec_l01Gcd.l0 k a b = some ((Nat.gcd a b : Nat) : Int)
  | 0, _, _, h => absurd h (by omega)
  | k + 1, a, b, h => by
    rw [spec_l01Gcd.l0]
    by_cases hb : b = 0
    · subst hb; simp
    · have := Nat.mod_lt a (y := b) (by omega)
      rw [if_pos (by omega), if_neg (by omega), tmod_nat, sgcd k b (a % b) (by omega), gcd_step]
theorem igcd : ∀ (k a b : Nat), b < k → a ≤ 100000 → b ≤ 100000 → impl_gcd.l0 k a b = some ((Nat.gcd a b : Nat) : Int)
  | 0, _, _, h, _, _ => absurd h (by omega)
  | k + 1, a, b, h, ha, hb => by
    rw [impl_gcd.l0]
    by_cases hz : b = 0
    · subst hz; rw [w64 (by omega) (by omega), mx_eq]; simp; omega
    · have := Nat.mod_lt a (y := b) (by omega)
      rw [if_neg (by omega), tmod_nat, igcd k b (a % b) (by omega) (by omega) (by omega), gcd_step]
/-- The greatest common divisor of two periods. -/
def g (P Q : Int) : Int := ((Nat.gcd P.toNat Q.toNat : Nat) : Int)
theorem g_bd (P Q : Int) (hP : 1 ≤ P ∧ P ≤ 100000) : 1 ≤ g P Q ∧ g P Q ≤ P := by
  unfold g
  have h1 : 0 < Nat.gcd P.toNat Q.toNat := Nat.gcd_pos_of_pos_left _ (by omega)
  have h2 : Nat.gcd P.toNat Q.toNat ≤ P.toNat := Nat.gcd_le_left _ (by omega)
  omega
theorem sg (k : Nat) (hk : 100000 < k) (P Q : Int) (hP : 1 ≤ P ∧ P ≤ 100000) (hQ : 1 ≤ Q ∧ Q ≤ 100000) : spec_l01Gcd.f k P Q = some (g P Q) := by
  have h := sgcd k P.toNat Q.toNat (by omega)
  rw [show ((P.toNat : Nat) : Int) = P by omega, show ((Q.toNat : Nat) : Int) = Q by omega] at h
  exact h
theorem ig (k : Nat) (hk : 100000 < k) (P Q : Int) (hP : 1 ≤ P ∧ P ≤ 100000) (hQ : 1 ≤ Q ∧ Q ≤ 100000) : impl_gcd.f k P Q = some (g P Q) := by
  have h := igcd k P.toNat Q.toNat (by omega) (by omega) (by omega)
  rw [show ((P.toNat : Nat) : Int) = P by omega, show ((Q.toNat : Nat) : Int) = Q by omega] at h
  exact h
theorem apart_eq (k : Nat) (hk : 100000 < k) (P O Q U : Int) (h : Clk P O) (h' : Clk Q U) : impl_apart.f k P O Q U = some (g P Q, (U - O) % g P Q) := by
  obtain ⟨hP, hO⟩ := id h
  obtain ⟨hQ, hU⟩ := id h'
  have b := g_bd P Q hP
  unfold impl_apart.f
  rw [ig k hk P Q hP hQ, Option.bind_some, if_neg (by omega), w64 (n := U - O) (by omega) (by omega), (shift_eq (U - O) (g P Q) (by omega) (by omega)).1]
/-- Whether an edge that comes so long behind the last edge of the other clock is near. -/
def near (P B H y : Int) : Bool := decide (y ≤ B) || decide (P - y < H)
theorem late_eq (e P : Int) (hP : 1 ≤ P ∧ P ≤ 100000) (_he : -1000000000000 ≤ e ∧ e ≤ 1000000000000) :
    (if Int.tmod e P < 0 then wrap64 (Int.tmod e P + P) else Int.tmod e P) = e % P := by
  by_cases h : 0 ≤ e
  · rw [tmodp (a := e) h]
    have h0 := Int.emod_nonneg e (b := P) (by omega)
    rw [if_neg (by omega)]
  · rw [tmodn (a := e) (by omega)]
    have h0 := Int.emod_nonneg (-e) (b := P) (by omega)
    have h1 := Int.emod_lt_of_pos (-e) (b := P) (by omega)
    have h2 := Int.emod_nonneg e (b := P) (by omega)
    have h3 := Int.emod_lt_of_pos e (b := P) (by omega)
    have k0 : e % P + (-e) % P = 0 ∨ e % P + (-e) % P = P := by
      have e2 : ((e % P) + (-e) % P) % P = 0 := by rw [Int.emod_add_emod, Int.add_emod_emod]; simp [Int.add_right_neg]
      rcases Int.lt_or_le (e % P + (-e) % P) P with hlt | hge
      · rw [Int.emod_eq_of_lt (by omega) hlt] at e2; exact .inl e2
      · have : (e % P + (-e) % P - P) % P = 0 := by rw [Int.sub_emod_right]; exact e2
        rw [Int.emod_eq_of_lt (by omega) (by omega)] at this
        right; omega
    split
    · rw [w64 (by omega) (by omega)]; omega
    · omega
theorem near_step {α : Type} (P B H x : Int) (hB : 0 ≤ B) (hx : 0 ≤ x ∧ x < P) (hP : 1 ≤ P ∧ P ≤ 100000) (R1 R0 : Option α) :
    (if x ≤ B then R1 else (if (wrap64 (P - x)) < H then R1 else (if x = 0 then (if H > 0 then R1 else R0) else R0))) = if near P B H x = true then R1 else R0 := by
  rw [w64 (n := P - x) (by omega) (by omega)]
  unfold near
  by_cases q1 : x ≤ B
  · simp [q1]
  · have q3 : ¬ x = 0 := by omega
    by_cases q2 : P - x < H
    · simp [q2]
    · simp [q1, q2, q3]
theorem spec_loop (B H P O Q U : Int) (hB : 0 ≤ B) (h : Clk P O) (h' : Clk Q U) (n : Nat) (hn : n ≤ 100000) :
    ∀ (d k i : Nat) (c : Int), i + d = n → d < k → 0 ≤ c → c ≤ i →
      spec_NearEdges.l0 k B H n c i P O Q U = some (c + ((List.range' i d).countP fun (j : Nat) => near P B H ((U - O + (j : Int) * Q) % P) : Nat), (n : Int), true)
  | 0, k, i, c, hi, hk, _, _ => by
    obtain ⟨k, rfl⟩ : ∃ m, k = m + 1 := ⟨k - 1, by omega⟩
    rw [spec_NearEdges.l0, if_neg (by omega)]; simp
  | d + 1, k, i, c, hi, hk, hc0, hc1 => by
    obtain ⟨k, rfl⟩ : ∃ m, k = m + 1 := ⟨k - 1, by omega⟩
    obtain ⟨hP, hO⟩ := id h
    obtain ⟨hQ, hU⟩ := id h'
    have m0 : 0 ≤ (i : Int) * Q := Int.mul_nonneg (by omega) (by omega)
    have m1 : (i : Int) * Q ≤ 100000 * 100000 := Int.mul_le_mul (by omega) hQ.2 (by omega) (by omega)
    have e : U - O + i * Q = U + i * Q - O := by omega
    have h2 := Int.emod_nonneg (U + i * Q - O) (b := P) (by omega)
    have h3 := Int.emod_lt_of_pos (U + i * Q - O) (b := P) (by omega)
    have ih1 := spec_loop B H P O Q U hB h h' n hn d k (i + 1) (c + 1) (by omega) (by omega) (by omega) (by omega)
    have ih0 := spec_loop B H P O Q U hB h h' n hn d k (i + 1) c (by omega) (by omega) (by omega) (by omega)
    rw [Int.natCast_add, Int.natCast_one] at ih0 ih1
    have cc := cnt_succ (fun (j : Nat) => near P B H ((U - O + (j : Int) * Q) % P)) i d
    simp only [e] at cc
    rw [cc, spec_NearEdges.l0, if_pos (by omega), if_neg (by omega), w64 (n := i * Q) (by omega) (by omega), w64 (n := U + i * Q) (by omega) (by omega), w64 (n := U + i * Q - O) (by omega) (by omega), w64 (n := (i : Int) + 1) (by omega) (by omega), w64 (n := c + 1) (by omega) (by omega)]
    have L := late_eq (U + i * Q - O) P hP ⟨by omega, by omega⟩
    by_cases hs : Int.tmod (U + i * Q - O) P < 0
    · rw [if_pos hs] at L
      rw [if_pos hs, L, near_step P B H _ hB ⟨h2, h3⟩ hP]
      clear L
      split
      · rw [ih1, Int.add_assoc]
      · rw [ih0, Int.zero_add]
    · rw [if_neg hs] at L
      rw [if_neg hs, L, near_step P B H _ hB ⟨h2, h3⟩ hP]
      clear L
      split
      · rw [ih1, Int.add_assoc]
      · rw [ih0, Int.zero_add]
theorem impl_loop (B H P O r G : Int) (h : Clk P O) (n : Nat) (hG : 1 ≤ G ∧ G ≤ 100000) (hr : 0 ≤ r ∧ r < G) (hm : n * G = P) :
    ∀ (d k j : Nat) (c : Int), j + d = n → d < k → 0 ≤ c → c ≤ j →
      impl_NearEdges.l0 k B H G c (r + j * G) P O = some (c + ((List.range' j d).countP fun (i : Nat) => near P B H (r + (i : Int) * G) : Nat), (n : Int), true)
  | 0, k, j, c, hi, hk, _, _ => by
    obtain ⟨k, rfl⟩ : ∃ m, k = m + 1 := ⟨k - 1, by omega⟩
    obtain ⟨hP, hO⟩ := id h
    have : j = n := by omega
    subst this
    rw [impl_NearEdges.l0, if_neg (by omega), if_neg (by omega), tdivp (by omega)]
    have : P / G = j := by rw [← hm, Int.mul_ediv_cancel _ (by omega)]
    have b := ediv_bd (a := P) (b := G) (by omega) (by omega)
    rw [w64 (by omega) (by omega), this]; simp
  | d + 1, k, j, c, hi, hk, hc0, hc1 => by
    obtain ⟨k, rfl⟩ : ∃ m, k = m + 1 := ⟨k - 1, by omega⟩
    obtain ⟨hP, hO⟩ := id h
    have ih1 := impl_loop B H P O r G h n hG hr hm d k (j + 1) (c + 1) (by omega) (by omega) (by omega) (by omega)
    have ih0 := impl_loop B H P O r G h n hG hr hm d k (j + 1) c (by omega) (by omega) (by omega) (by omega)
    have m0 : 0 ≤ (j : Int) * G := Int.mul_nonneg (by omega) (by omega)
    have m1 : ((j : Int) + 1) * G ≤ n * G := Int.mul_le_mul_of_nonneg_right (by omega) (by omega)
    rw [Int.add_mul] at m1
    have nle : (n : Int) ≤ n * G := by have := Int.mul_le_mul_of_nonneg_left (a := 1) (b := G) (c := n) hG.1 (by omega); omega
    have e : r + ((j + 1 : Nat) : Int) * G = r + j * G + G := by rw [Int.natCast_add, Int.add_mul]; omega
    rw [e] at ih0 ih1
    have cc := cnt_succ (fun (i : Nat) => near P B H (r + (i : Int) * G)) j d
    rw [cc, impl_NearEdges.l0, if_pos (by omega), w64 (n := c + 1) (by omega) (by omega), w64 (n := r + j * G + G) (by omega) (by omega), w64 (n := P - (r + j * G)) (by omega) (by omega), ih0, ih1]
    unfold near
    by_cases q1 : r + j * G ≤ B
    · simp [q1]; omega
    · by_cases q2 : P - (r + j * G) < H
      · simp [q1, q2]; omega
      · simp [q1, q2]

theorem edges (P O Q U B H : Int) : impl_NearEdges.f (200001 + 1) P O Q U B H = spec_NearEdges.f (200001 + 1) P O Q U B H ∧ ∃ r, spec_NearEdges.f (200001 + 1) P O Q U B H = some r := by
  unfold impl_NearEdges.f spec_NearEdges.f
  simp only [impl_valid, spec_valid, within_eq, l00In_eq, Option.bind_some]
  have ti : impl_NearEdges.j0 (200001 + 1) B H true P O Q U = some (0, 0, false) := by rw [impl_NearEdges.j0, if_pos rfl]
  have ts : spec_NearEdges.j0 (200001 + 1) B H true P O Q U = some (0, 0, false) := by rw [spec_NearEdges.j0, if_pos rfl]
  by_cases h : Clk P O
  · by_cases h' : Clk Q U
    · by_cases hB : 0 ≤ B ∧ B ≤ 100000
      · by_cases hH : 0 ≤ H ∧ H ≤ 100000
        · obtain ⟨hP, hO⟩ := id h
          obtain ⟨hQ, hU⟩ := id h'
          have bG := g_bd P Q hP
          obtain ⟨p, hp⟩ : ∃ p : Nat, P = p := ⟨P.toNat, by omega⟩
          obtain ⟨q, hq⟩ : ∃ q : Nat, Q = q := ⟨Q.toNat, by omega⟩
          have hg : g P Q = ((Nat.gcd p q : Nat) : Int) := by unfold g; rw [hp, hq]; rfl
          have hn : p / Nat.gcd p q * Nat.gcd p q = p := Nat.div_mul_cancel (Nat.gcd_dvd_left p q)
          have hn1 : p / Nat.gcd p q ≤ p := Nat.div_le_self _ _
          have hr0 := Int.emod_nonneg (U - O) (b := g P Q) (by omega)
          have hr1 := Int.emod_lt_of_pos (U - O) (b := g P Q) (by omega)
          have hmG : ((p / Nat.gcd p q : Nat) : Int) * g P Q = P := by rw [hg, hp]; exact_mod_cast hn
          have si := impl_loop B H P O ((U - O) % g P Q) (g P Q) h (p / Nat.gcd p q) (by omega) ⟨hr0, hr1⟩ hmG (p / Nat.gcd p q) 200001 0 0 (by omega) (by omega) (by omega) (by omega)
          have ss := spec_loop B H P O Q U hB.1 h h' (p / Nat.gcd p q) (by omega) (p / Nat.gcd p q) 200001 0 0 (by omega) (by omega) (by omega) (by omega)
          have same : (List.range' 0 (p / Nat.gcd p q)).countP (fun (j : Nat) => near P B H ((U - O + (j : Int) * Q) % P)) = (List.range' 0 (p / Nat.gcd p q)).countP (fun (i : Nat) => near P B H ((U - O) % g P Q + (i : Int) * g P Q)) := by
            rw [← List.range_eq_range', ← count_map (p / Nat.gcd p q) (place p q (U - O)) (fun (i : Nat) => near P B H ((U - O) % g P Q + (i : Int) * g P Q)) (fun i _ => place_lt p q (U - O) (by omega) i) (fun i j hij hj => place_inj p q (U - O) (by omega) i j hij hj)]
            apply List.countP_congr
            intro i _
            have := (late_form p q (U - O) (by omega) i).2.2
            rw [hg, hp, hq, this]
            exact Iff.rfl
          have fi : impl_NearEdges.j0 (200001 + 1) B H false P O Q U = some ((((List.range' 0 (p / Nat.gcd p q)).countP (fun (i : Nat) => near P B H ((U - O) % g P Q + (i : Int) * g P Q)) : Nat) : Int), ((p / Nat.gcd p q : Nat) : Int), true) := by
            rw [impl_NearEdges.j0, if_neg (by simp), apart_eq _ (by omega) P O Q U h h', Option.bind_some]
            simpa using si
          have fs : spec_NearEdges.j0 (200001 + 1) B H false P O Q U = some ((((List.range' 0 (p / Nat.gcd p q)).countP (fun (i : Nat) => near P B H ((U - O) % g P Q + (i : Int) * g P Q)) : Nat) : Int), ((p / Nat.gcd p q : Nat) : Int), true) := by
            have dvb := ediv_bd (a := P) (b := g P Q) (by omega) (by omega)
            have dv : P / g P Q = ((p / Nat.gcd p q : Nat) : Int) := by rw [hg, hp]; rfl
            rw [spec_NearEdges.j0, if_neg (by simp), sg _ (by omega) P Q hP hQ, Option.bind_some, if_neg (by omega), tdivp (by omega), w64 (n := P / g P Q) (by omega) (by omega), dv, ← same]
            simpa using ss
          simp [h, h', hB, hH, fi, fs]
        · simp [h, h', hB, hH, ti, ts]
      · simp [h, h', hB, ti, ts]
    · simp [h, h', ti, ts]
  · simp [h, ti, ts]

theorem pure (P O Q U B H : Int) (_hp : (Lit.int .i64 P).wf = true) (_ho : (Lit.int .i64 O).wf = true) (_hq : (Lit.int .i64 Q).wf = true) (_hu : (Lit.int .i64 U).wf = true) (_hb : (Lit.int .i64 B).wf = true) (_hh : (Lit.int .i64 H).wf = true) :
    ∃ k, laws_FnExactNearEdges.f k P O Q U B H = some true := by
  obtain ⟨h1, r, h2⟩ := edges P O Q U B H
  refine ⟨200001 + 1, ?_⟩
  unfold laws_FnExactNearEdges.f laws_toClock.f
  simp [h1, h2]
end Go.Proofs.Ytmhfknmjchaccaa.CFnExactNearEdges
