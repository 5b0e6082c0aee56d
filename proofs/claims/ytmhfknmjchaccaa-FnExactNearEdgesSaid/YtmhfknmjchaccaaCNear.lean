/- The edges of a clock in a common period lie, each once, at the remainders of the other clock's period that differ by multiples of the greatest common divisor. No conditions. -/
import Derived.Test.YtmhfknmjchaccaaCMath
namespace Go.Proofs.Ytmhfknmjchaccaa.CNear
open Go.Proofs.Ytmhfknmjchaccaa.CMath

theorem perm_of_nodup : ∀ (l m : List Nat), l.Nodup → (∀ x ∈ l, x ∈ m) → ∃ rest, m.Perm (l ++ rest)
  | [], m, _, _ => ⟨m, .refl _⟩
  | a :: t, m, hn, hs => by
    have ha : a ∈ m := hs a (by simp)
    have hp := List.perm_cons_erase ha
    rw [List.nodup_cons] at hn
    obtain ⟨rest, hr⟩ := perm_of_nodup t (m.erase a) hn.2 (fun x hx => by
      have hne : x ≠ a := by intro h; exact hn.1 (h ▸ hx)
      rw [List.mem_erase_of_ne hne]; exact hs x (by simp [hx]))
    exact ⟨rest, hp.trans (by simpa using hr.cons a)⟩
theorem perm_range (l : List Nat) (n : Nat) (hn : l.Nodup) (hl : l.length = n) (hs : ∀ x ∈ l, x < n) : (List.range n).Perm l := by
  obtain ⟨rest, hr⟩ := perm_of_nodup l (List.range n) hn (fun x hx => by simpa using hs x hx)
  have := hr.length_eq
  simp [hl] at this
  simpa [this] using hr
theorem nodup_map_range (n : Nat) (f : Nat → Nat) (hi : ∀ i j, i < j → j < n → f i ≠ f j) : ((List.range n).map f).Nodup := by
  rw [List.Nodup, List.pairwise_map]
  have h := List.pairwise_lt_range (n := n)
  refine h.imp_of_mem ?_
  intro a b ha hb hab
  exact hi a b hab (by simpa using hb)
/-- What a count over all numbers below n is under a map that takes none of them twice. -/
theorem count_map (n : Nat) (f : Nat → Nat) (q : Nat → Bool) (hf : ∀ i, i < n → f i < n) (hi : ∀ i j, i < j → j < n → f i ≠ f j) :
    (List.range n).countP (fun i => q (f i)) = (List.range n).countP q := by
  have h := perm_range ((List.range n).map f) n (nodup_map_range n f hi) (by simp) (fun x hx => by
    obtain ⟨i, h1, h2⟩ := List.mem_map.1 hx
    rw [← h2]; exact hf i (by simpa using h1))
  rw [h.countP_eq q, List.countP_map]; rfl

theorem cnt_succ (f : Nat → Bool) (i d : Nat) : (((List.range' i (d + 1)).countP f : Nat) : Int) = (if f i = true then 1 else 0) + ((List.range' (i + 1) d).countP f : Nat) := by
  rw [List.range'_succ, List.countP_cons, Int.natCast_add]
  split
  · rw [Int.add_comm]; rfl
  · rw [Int.add_comm]; rfl
section
variable (p q : Nat) (z : Int)
theorem late_form (hp : 0 < p) (i : Nat) :
    0 ≤ (z + i * q) % p ∧ (z + i * q) % p < p ∧ (z + i * q) % (p : Int) = z % (Nat.gcd p q : Nat) + ((((z + i * q) % p) / (Nat.gcd p q : Nat)).toNat : Int) * (Nat.gcd p q : Nat) := by
  have hg : 0 < Nat.gcd p q := Nat.gcd_pos_of_pos_left _ hp
  have h0 := Int.emod_nonneg (z + i * q) (b := (p : Int)) (by omega)
  have h1 := Int.emod_lt_of_pos (z + i * q) (b := (p : Int)) (by omega)
  refine ⟨h0, h1, ?_⟩
  have hd : ((Nat.gcd p q : Nat) : Int) ∣ (p : Int) := Int.natCast_dvd_natCast.2 (Nat.gcd_dvd_left p q)
  have hq : ((Nat.gcd p q : Nat) : Int) ∣ (i : Int) * (q : Int) := Int.dvd_mul_of_dvd_right (Int.natCast_dvd_natCast.2 (Nat.gcd_dvd_right p q))
  have e1 : (z + i * q) % (p : Int) % (Nat.gcd p q : Nat) = z % (Nat.gcd p q : Nat) := by
    rw [Int.emod_emod_of_dvd _ hd]
    obtain ⟨c, hc⟩ := hq
    rw [hc, Int.add_mul_emod_self_left]
  have e2 := Int.mul_ediv_add_emod ((z + i * q) % (p : Int)) (Nat.gcd p q : Nat)
  have h3 : 0 ≤ ((z + i * q) % (p : Int)) / (Nat.gcd p q : Nat) := Int.ediv_nonneg h0 (by omega)
  rw [e1] at e2
  rw [Int.toNat_of_nonneg h3, Int.mul_comm _ ((Nat.gcd p q : Nat) : Int)]
  omega
/-- Where in its row the k-th edge lies. -/
def place (i : Nat) : Nat := (((z + i * q) % p) / (Nat.gcd p q : Nat)).toNat
theorem place_lt (hp : 0 < p) (i : Nat) : place p q z i < p / Nat.gcd p q := by
  have hg : 0 < Nat.gcd p q := Nat.gcd_pos_of_pos_left _ hp
  obtain ⟨h0, h1, h2⟩ := late_form p q z hp i
  have hz := Int.emod_nonneg z (b := ((Nat.gcd p q : Nat) : Int)) (by omega)
  have hm : p / Nat.gcd p q * Nat.gcd p q = p := Nat.div_mul_cancel (Nat.gcd_dvd_left p q)
  have hx : (place p q z i : Int) * (Nat.gcd p q : Nat) < p := by
    change (z + i * q) % (p : Int) = z % (Nat.gcd p q : Nat) + (place p q z i : Int) * (Nat.gcd p q : Nat) at h2
    omega
  have hy : place p q z i * Nat.gcd p q < p / Nat.gcd p q * Nat.gcd p q := by rw [hm]; exact_mod_cast hx
  exact Nat.lt_of_mul_lt_mul_right hy
theorem place_inj (hp : 0 < p) (i j : Nat) (hij : i < j) (hj : j < p / Nat.gcd p q) : place p q z i ≠ place p q z j := by
  intro he
  have hg : 0 < Nat.gcd p q := Nat.gcd_pos_of_pos_left _ hp
  obtain ⟨_, _, h2⟩ := late_form p q z hp i
  obtain ⟨_, _, h2'⟩ := late_form p q z hp j
  change (z + i * q) % (p : Int) = z % (Nat.gcd p q : Nat) + (place p q z i : Int) * (Nat.gcd p q : Nat) at h2
  change (z + j * q) % (p : Int) = z % (Nat.gcd p q : Nat) + (place p q z j : Int) * (Nat.gcd p q : Nat) at h2'
  rw [he, ← h2'] at h2
  have hd : (p : Int) ∣ (z + j * q) - (z + i * q) := Int.dvd_of_emod_eq_zero (by rw [Int.sub_emod, h2, Int.sub_self, Int.zero_emod])
  have e : (z + j * q) - (z + i * q) = (((j - i) * q : Nat) : Int) := by
    rw [Int.natCast_mul, Int.natCast_sub (by omega), Int.sub_mul]; omega
  rw [e] at hd
  have hd := Int.natCast_dvd_natCast.1 hd
  have hm : Nat.gcd p q * (p / Nat.gcd p q) = p := Nat.mul_div_cancel' (Nat.gcd_dvd_left p q)
  have hm' : Nat.gcd p q * (q / Nat.gcd p q) = q := Nat.mul_div_cancel' (Nat.gcd_dvd_right p q)
  have h5 : Nat.gcd p q * (p / Nat.gcd p q) ∣ Nat.gcd p q * ((j - i) * (q / Nat.gcd p q)) := by
    rw [hm, Nat.mul_left_comm, hm']; exact hd
  have h6 := Nat.dvd_of_mul_dvd_mul_left hg h5
  have h7 : (p / Nat.gcd p q).Coprime (q / Nat.gcd p q) := Nat.coprime_div_gcd_div_gcd hg
  have h8 := h7.dvd_of_dvd_mul_right h6
  have := Nat.le_of_dvd (by omega) h8
  omega
end
end Go.Proofs.Ytmhfknmjchaccaa.CNear
