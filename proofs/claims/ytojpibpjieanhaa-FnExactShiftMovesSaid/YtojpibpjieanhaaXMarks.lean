/- Lists that are held against each other, marked, and held against their marks: what the laws' own functions tell. Conditions: as each lemma says. -/
import Derived.Test.YtojpibpjieanhaaXp17
import Derived.Test.YtojpibpjieanhaaXp18
import Derived.Test.YtojpibpjieanhaaXp19
namespace Go.Proofs.Ytojpibpjieanhaa.X
open Go.RowKit Go.Proofs.YtojpibpjieanhaaW.PrintWords Go.Proofs.YtojpibpjieanhaaW.PrintLast Go.Proofs.YtojpibpjieanhaaW.PrintMore

theorem w64 {n : Int} (h0 : -9223372036854775808 ≤ n) (h1 : n ≤ 9223372036854775807) : wrap64 n = n := by unfold wrap64; omega
theorem mx_eq (a b : Int) : mx a b = max a b := by unfold mx; split <;> omega
theorem mn_eq (a b : Int) : mn a b = min a b := by unfold mn; split <;> omega
theorem tdivp {a b : Int} (h : 0 ≤ a) : Int.tdiv a b = a / b := Int.tdiv_eq_ediv_of_nonneg h
theorem tmodp {a b : Int} (h : 0 ≤ a) : Int.tmod a b = a % b := Int.tmod_eq_emod_of_nonneg h
theorem rd_nat (l : List Int) (i : Nat) (h : i < l.length) : rd l (i : Int) = l[i] := by
  unfold rd
  simp [h]
/-- The numbers m, m + 1, .. -/
def iota (m : Int) (n : Nat) : List Int := (List.range n).map fun (i : Nat) => m + (i : Int)
theorem iota_len (m : Int) (n : Nat) : (iota m n).length = n := by simp [iota]
theorem iota_get (m : Int) (n i : Nat) (h : i < n) : (iota m n)[i]? = some (m + (i : Int)) := by simp [iota, h]

theorem eq_loop (l : List Int) (hl : l.length ≤ 4000000) : ∀ (d k i : Nat), i + d = l.length → d < k → laws_eqInt64S.l0 k l l i = some true
  | 0, k, i, hi, hk => by
    cases k with
    | zero => omega
    | succ k => rw [laws_eqInt64S.l0, if_neg (by omega)]
  | d + 1, k, i, hi, hk => by
    cases k with
    | zero => omega
    | succ k =>
      have ih := eq_loop l hl d k (i + 1) (by omega) (by omega)
      rw [laws_eqInt64S.l0, if_pos (by omega), if_pos (by omega), if_pos (by omega), if_pos rfl, w64 (by omega) (by omega)]
      rw [Int.natCast_add, Int.natCast_one] at ih
      exact ih
theorem eqInt64S_refl (k : Nat) (l : List Int) (hl : l.length ≤ 4000000) (hk : l.length < k) : laws_eqInt64S.f k l l = some true := by
  unfold laws_eqInt64S.f
  rw [if_pos rfl]
  exact eq_loop l hl l.length k 0 (by omega) hk
theorem mark_loop (m : Int) (n : Nat) (hm : 0 ≤ m) (hm2 : m ≤ 1000000000) (hn : n ≤ 4000000) : ∀ (d k i : Nat) (x : List Int), x.length = n → i + d = n → d < k → (∀ j, j < i → x[j]? = some (m + (j : Int))) →
    laws_markInt64S.l0 k x (m + (i : Int)) i = some (m + (n : Int), iota m n)
  | 0, k, i, x, hx, hi, hk, hj => by
    cases k with
    | zero => omega
    | succ k =>
      have e : x = iota m n := by
        apply List.ext_getElem?
        intro j
        rcases Nat.lt_or_ge j n with h | h
        · rw [hj j (by omega), iota_get m n j h]
        · rw [List.getElem?_eq_none (by omega), List.getElem?_eq_none (by rw [iota_len]; omega)]
      rw [laws_markInt64S.l0, if_neg (by omega), e, show i = n by omega]
  | d + 1, k, i, x, hx, hi, hk, hj => by
    cases k with
    | zero => omega
    | succ k =>
      have ih := mark_loop m n hm hm2 hn d k (i + 1) (x.set i (m + (i : Int))) (by simpa using hx) (by omega) (by omega) (by
        intro j hlt
        rw [List.getElem?_set]
        by_cases h : i = j
        · subst h; rw [if_pos rfl, if_pos (by omega)]
        · rw [if_neg h]; exact hj j (by omega))
      rw [laws_markInt64S.l0, if_pos (by omega), if_pos (by omega), w64 (n := m + (i : Int) + 1) (by omega) (by omega), w64 (n := (i : Int) + 1) (by omega) (by omega)]
      rw [Int.natCast_add, Int.natCast_one, ← Int.add_assoc] at ih
      exact ih
theorem markInt64S_eq (k : Nat) (l : List Int) (m : Int) (hm : 0 ≤ m) (hm2 : m ≤ 1000000000) (hl : l.length ≤ 4000000) (hk : l.length < k) :
    laws_markInt64S.f k l m = some (m + (l.length : Int), iota m l.length) := by
  unfold laws_markInt64S.f
  have h := mark_loop m l.length hm hm2 hl l.length k 0 l rfl (by omega) hk (fun j h => absurd h (by omega))
  simpa using h
theorem held_loop (m : Int) (n : Nat) (hm : 0 ≤ m) (hm2 : m ≤ 1000000000) (hn : n ≤ 4000000) : ∀ (d k i : Nat), i + d = n → d < k →
    laws_heldInt64S.l0 k (iota m n) (m + (i : Int)) i = some (m + (n : Int))
  | 0, k, i, hi, hk => by
    cases k with
    | zero => omega
    | succ k => rw [laws_heldInt64S.l0, if_neg (by rw [iota_len]; omega), show i = n by omega]
  | d + 1, k, i, hi, hk => by
    cases k with
    | zero => omega
    | succ k =>
      have ih := held_loop m n hm hm2 hn d k (i + 1) (by omega) (by omega)
      have e : rd (iota m n) (i : Int) = m + (i : Int) := by rw [rd_nat _ _ (by rw [iota_len]; omega)]; simp [iota]
      rw [laws_heldInt64S.l0, if_pos (by rw [iota_len]; omega), if_pos (by omega), if_pos e, w64 (n := m + (i : Int) + 1) (by omega) (by omega), w64 (n := (i : Int) + 1) (by omega) (by omega)]
      rw [Int.natCast_add, Int.natCast_one, ← Int.add_assoc] at ih
      exact ih
theorem heldInt64S_eq (k : Nat) (m : Int) (n : Nat) (hm : 0 ≤ m) (hm2 : m ≤ 1000000000) (hn : n ≤ 4000000) (hk : n < k) : laws_heldInt64S.f k (iota m n) m = some (m + (n : Int)) := by
  unfold laws_heldInt64S.f
  have h := held_loop m n hm hm2 hn n k 0 (by omega) hk
  simpa using h
end Go.Proofs.Ytojpibpjieanhaa.X
