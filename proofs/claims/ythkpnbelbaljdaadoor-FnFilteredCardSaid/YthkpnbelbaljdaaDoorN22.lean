/- My own texts of this seat and its words, merged: CPls, XShelf, XRep, Xp74, XFiltClo, XLast, XDebounce, XStretch, XMajority, Xp55, Xp34, CFlt, XShelfS, XSplit, XLens, CPieces, XTrim, CRuns. Conditions: as each lemma says. -/
import Derived.Test.YthkpnbelbaljdaaDoorN21
import Derived.Shelf.Strings.Builder1
import Derived.Shelf.Strings.Builder2
import Derived.Shelf.Strings.Trim
import Derived.Shelf.Small.Utf8
import Derived.Shelf.Small.Strs
import Derived.Shelf.Strings.BuilderF
import Derived.Shelf.Strings.BuilderK
import Derived.Shelf.Utf8.RuneCount
import Derived.Shelf.Strings.Builder2Cap
import Derived.Shelf.Strings.Search1
import Derived.Shelf.Strings.Search2
import Derived.Shelf.Strings.Search3
import Derived.Shelf.Strings.Count
import Derived.Shelf.LaysM
import Derived.Shelf.Strings.Shaped
import Derived.Shelf.Strings.Prefix
import Derived.Shelf.Strings.Split
import Derived.Shelf.Strings.SplitShaped
import Derived.Shelf.Unicode.Decode
import Derived.Shelf.Strings.Runes
import Derived.Shelf.Strings.RuneCount
import Derived.Shelf.Strings.AsciiSet
import Derived.Shelf.Strings.Explode
import Derived.Shelf.Bits.Mul64
import Derived.Shelf.Strings.Repeat
import Derived.Shelf.Unicode.DecodeSlow
import Derived.Shelf.Unicode.DecodeAny
import Derived.Shelf.Unicode.DecodeLast
import Derived.Shelf.Strings.BuilderCap
import Derived.Test.YthkpnbelbaljdaaDoorProg
import Derived.Lib.Bytealg
import Derived.Lib.Walk
section
namespace Go.Proofs.YthkpnbelbaljdaaDoor.X
open Go.RowKit Go.Proofs.YthkpnbelbaljdaaDoorW.PrintWords Go.Proofs.YthkpnbelbaljdaaDoorW.PrintLast Go.Proofs.YthkpnbelbaljdaaDoorW.PrintMore
set_option linter.unusedVariables false
set_option linter.unusedSimpArgs false
abbrev Pin (ps : List S61) (a n : Nat) : Prop := (⟨(a : Int), (n : Int)⟩ : S61) ∈ ps
theorem pin_cons {ps : List S61} {a n a' n' : Nat} (h : Pin (⟨(a : Int), (n : Int)⟩ :: ps) a' n') : (a' = a ∧ n' = n) ∨ Pin ps a' n' := by
  rcases List.mem_cons.1 h with h | h
  · injection h with e1 e2
    exact .inl ⟨by omega, by omega⟩
  · exact .inr h
theorem dropL_out (t : Int) (j : Nat) : ∀ (ps : List S61) (l : List Int), (∀ p ∈ ps, ∃ a n : Nat, p = ⟨(a : Int), (n : Int)⟩ ∧ a + n ≤ l.length) → (∀ a n : Nat, Pin ps a n → (n : Int) < t → ¬ (a ≤ j ∧ j < a + n)) → (dropL t l ps)[j]? = l[j]?
  | [], l, _, _ => rfl
  | p :: ps, l, hin, h => by
    obtain ⟨a, n, rfl, han⟩ := hin p List.mem_cons_self
    show (dropL t (dropS t l _) ps)[j]? = _
    rw [dropL_out t j ps (dropS t l ⟨(a : Int), (n : Int)⟩) (fun p hp => by rw [dropS_len]; exact hin p (List.mem_cons_of_mem _ hp)) (fun a n hp => h a n (List.mem_cons_of_mem _ hp))]
    show (if (n : Int) < t then fillN l a 48 n else l)[j]? = _
    by_cases h2 : (n : Int) < t
    · rw [if_pos h2, fillN_get _ _ _ _ _ han, if_neg (h a n List.mem_cons_self h2)]
    · rw [if_neg h2]
theorem dropL_stay (t : Int) (j : Nat) : ∀ (ps : List S61) (l : List Int), (∀ p ∈ ps, ∃ a n : Nat, p = ⟨(a : Int), (n : Int)⟩ ∧ a + n ≤ l.length) → l[j]? = some 48 → (dropL t l ps)[j]? = some 48
  | [], l, _, h => h
  | p :: ps, l, hin, h => by
    obtain ⟨a, n, rfl, han⟩ := hin p List.mem_cons_self
    refine dropL_stay t j ps (dropS t l ⟨(a : Int), (n : Int)⟩) (fun p hp => by rw [dropS_len]; exact hin p (List.mem_cons_of_mem _ hp)) ?_
    show (if (n : Int) < t then fillN l a 48 n else l)[j]? = _
    by_cases h2 : (n : Int) < t
    · rw [if_pos h2, fillN_get _ _ _ _ _ han]
      split
      · rfl
      · exact h
    · rw [if_neg h2]; exact h
theorem dropL_in (t : Int) (j : Nat) : ∀ (ps : List S61) (l : List Int), (∀ p ∈ ps, ∃ a n : Nat, p = ⟨(a : Int), (n : Int)⟩ ∧ a + n ≤ l.length) → ∀ a n : Nat, Pin ps a n → (n : Int) < t → a ≤ j → j < a + n → (dropL t l ps)[j]? = some 48
  | [], l, _, a, n, h, _, _, _ => by simp [Pin] at h
  | p :: ps, l, hin, a', n', h, h1, h2, h3 => by
    obtain ⟨a, n, rfl, han⟩ := hin p List.mem_cons_self
    have hin2 : ∀ p ∈ ps, ∃ a' n' : Nat, p = ⟨(a' : Int), (n' : Int)⟩ ∧ a' + n' ≤ (dropS t l ⟨(a : Int), (n : Int)⟩).length := fun p hp => by rw [dropS_len]; exact hin p (List.mem_cons_of_mem _ hp)
    rcases pin_cons h with ⟨rfl, rfl⟩ | h
    · refine dropL_stay t j ps (dropS t l ⟨(a' : Int), (n' : Int)⟩) hin2 ?_
      show (if (n' : Int) < t then fillN l a' 48 n' else l)[j]? = _
      rw [if_pos h1, fillN_get _ _ _ _ _ han, if_pos ⟨h2, h3⟩]
    · exact dropL_in t j ps (dropS t l ⟨(a : Int), (n : Int)⟩) hin2 a' n' h h1 h2 h3
def Pls (s : ByteArray) (a n : Nat) : Prop := 0 < n ∧ a + n ≤ s.size ∧ (∀ i : Nat, a ≤ i → i < a + n → bt s (i : Int) = 49) ∧ (a + n < s.size → bt s ((a + n : Nat) : Int) = 48)
theorem pz_pls (s : ByteArray) : ∀ us ds : List Int, Runs s us ds → ∀ a n : Nat, Pin (pz us ds) a n → (a : Int) ∈ us ∧ Pls s a n
  | [], [], _, a, n, h => by simp [Pin, pz] at h
  | u :: us, d :: ds, hr, a, n, h => by
    rw [show pz (u :: us) (d :: ds) = ⟨u, d - u⟩ :: pz us ds from rfl] at h
    obtain ⟨a', b', rfl, rfl, h1, h2, h3, h4⟩ := hr.1
    rcases List.mem_cons.1 h with h | h
    · injection h with e1 e2
      obtain rfl : a = a' := by omega
      obtain rfl : b' = a + n := by omega
      exact ⟨List.mem_cons_self, by omega, h2, h3, h4⟩
    · obtain ⟨h5, h6⟩ := pz_pls s us ds hr.2 a n h
      exact ⟨List.mem_cons_of_mem _ h5, h6⟩
  | [], _ :: _, h, _, _, _ => h.elim
  | _ :: _, [], h, _, _, _ => h.elim
theorem pz_has (s : ByteArray) : ∀ us ds : List Int, Runs s us ds → ∀ a : Nat, (a : Int) ∈ us → ∃ n : Nat, Pin (pz us ds) a n
  | [], [], _, a, h => by simp at h
  | u :: us, d :: ds, hr, a, h => by
    obtain ⟨a', b', rfl, rfl, h1, h2, h3, h4⟩ := hr.1
    rcases List.mem_cons.1 h with h | h
    · obtain rfl : a = a' := by omega
      refine ⟨b' - a, ?_⟩
      show _ ∈ (⟨(a : Int), (b' : Int) - (a : Int)⟩ : S61) :: pz us ds
      rw [show ((b' - a : Nat) : Int) = (b' : Int) - (a : Int) by omega]
      exact List.mem_cons_self
    · obtain ⟨n, hn⟩ := pz_has s us ds hr.2 a h
      exact ⟨n, List.mem_cons_of_mem _ hn⟩
  | [], _ :: _, h, _, _ => h.elim
  | _ :: _, [], h, _, _ => h.elim
theorem covered_at (s : ByteArray) (hL : Lev s) : ∀ n : Nat, n ≤ s.size → ∀ j : Nat, j < n → bt s (j : Int) = 49 → ∃ u : Nat, u ≤ j ∧ isE s 49 u = true ∧ ∀ i : Nat, u ≤ i → i ≤ j → bt s (i : Int) = 49
  | 0, _, j, hj, _ => absurd hj (by omega)
  | n + 1, hn, j, hj, h1 => by
    rcases Nat.lt_or_ge j n with h | h
    · exact covered_at s hL n (by omega) j h h1
    · obtain rfl : j = n := by omega
      by_cases hp : prv s j = 49
      · have hj0 : j ≠ 0 := by
          rintro rfl
          unfold prv at hp
          simp at hp
        obtain ⟨j', rfl⟩ : ∃ j', j = j' + 1 := ⟨j - 1, by omega⟩
        rw [prv_succ] at hp
        obtain ⟨u, hu, he, hall⟩ := covered_at s hL (j' + 1) (by omega) j' (by omega) hp
        refine ⟨u, by omega, he, fun i hi1 hi2 => ?_⟩
        rcases Nat.lt_or_ge i (j' + 1) with h3 | h3
        · exact hall i hi1 (by omega)
        · obtain rfl : i = j' + 1 := by omega
          exact h1
      · refine ⟨j, Nat.le_refl _, ?_, fun i hi1 hi2 => ?_⟩
        · unfold isE
          simp [h1, hp]
        · obtain rfl : i = j := by omega
          exact h1
def pls (s : ByteArray) : List S61 := pz (edg s 49 s.size) (dns s)
theorem pls_is (s : ByteArray) (hL : Lev s) (a n : Nat) (h : Pin (pls s) a n) : isE s 49 a = true ∧ Pls s a n := by
  obtain ⟨h1, h2⟩ := pz_pls s _ _ (runs_all s hL) a n h
  obtain ⟨i, _, h3, h4⟩ := (edg_mem s 49 s.size _).1 h1
  obtain rfl : a = i := by omega
  exact ⟨h3, h2⟩
theorem isE_prv {s : ByteArray} {a : Nat} (h : isE s 49 a = true) : bt s (a : Int) = 49 ∧ prv s a ≠ 49 := by
  unfold isE at h
  simpa using h
theorem pls_one (s : ByteArray) (hL : Lev s) (j a n a' n' : Nat) (h : Pin (pls s) a n) (h' : Pin (pls s) a' n') (h1 : a ≤ j) (h2 : j < a + n) (h3 : a' ≤ j) (h4 : j < a' + n') : a = a' ∧ n = n' := by
  obtain ⟨e, p0, p1, p2, p3⟩ := pls_is s hL a n h
  obtain ⟨e', q0, q1, q2, q3⟩ := pls_is s hL a' n' h'
  have half : ∀ a n a' : Nat, (∀ i : Nat, a ≤ i → i < a + n → bt s (i : Int) = 49) → isE s 49 a' = true → a < a' → a' ≤ a + n → False := by
    intro a n a' hp he hlt hle
    obtain ⟨a'', rfl⟩ : ∃ a'', a' = a'' + 1 := ⟨a' - 1, by omega⟩
    have := (isE_prv he).2
    rw [prv_succ] at this
    exact this (hp a'' (by omega) (by omega))
  have ea : a = a' := by
    rcases Nat.lt_trichotomy a a' with h5 | h5 | h5
    · exact (half a n a' p2 e' h5 (by omega)).elim
    · exact h5
    · exact (half a' n' a q2 e h5 (by omega)).elim
  subst ea
  refine ⟨rfl, ?_⟩
  rcases Nat.lt_trichotomy n n' with h5 | h5 | h5
  · have := q2 (a + n) (by omega) (by omega)
    rw [p3 (by omega)] at this
    cases this
  · exact h5
  · have := p2 (a + n') (by omega) (by omega)
    rw [q3 (by omega)] at this
    cases this
theorem pls_cover (s : ByteArray) (hL : Lev s) (j : Nat) (hj : j < s.size) (h : bt s (j : Int) = 49) : ∃ a n : Nat, Pin (pls s) a n ∧ a ≤ j ∧ j < a + n := by
  obtain ⟨u, hu, he, hall⟩ := covered_at s hL s.size (Nat.le_refl _) j hj h
  obtain ⟨n, hn⟩ := pz_has s _ _ (runs_all s hL) u ((edg_mem s 49 s.size _).2 ⟨u, by omega, he, rfl⟩)
  obtain ⟨_, q0, q1, q2, q3⟩ := pls_is s hL u n hn
  refine ⟨u, n, hn, hu, ?_⟩
  rcases Nat.lt_or_ge j (u + n) with h1 | h1
  · exact h1
  · have := hall (u + n) (by omega) h1
    rw [q3 (by omega)] at this
    cases this
theorem bytesOf_get (s : ByteArray) (j : Nat) (hj : j < s.size) : (bytesOf s)[j]? = some (bt s (j : Int)) := by
  rw [List.getElem?_eq_getElem (by rw [bytesOf_length]; exact hj)]
  rw [← rd_bytesOf, rd_nat _ _ (by rw [bytesOf_length]; exact hj)]
theorem pls_in (s : ByteArray) (hL : Lev s) (m : Nat) (hm : m = s.size) : ∀ p ∈ pls s, ∃ a n : Nat, p = ⟨(a : Int), (n : Int)⟩ ∧ a + n ≤ m := by
  subst hm
  exact pz_in s _ _ (runs_all s hL)
theorem gapL_out (t : Int) (j : Nat) : ∀ (ps : List S61) (l : List Int), (∀ p ∈ ps, ∃ a n : Nat, p = ⟨(a : Int), (n : Int)⟩ ∧ a + n ≤ l.length) → (∀ a n : Nat, Pin ps a n → (n : Int) < t → ¬ (a ≤ j ∧ j < a + n)) → (gapL t l ps)[j]? = l[j]?
  | [], l, _, _ => rfl
  | p :: ps, l, hin, h => by
    obtain ⟨a, n, rfl, han⟩ := hin p List.mem_cons_self
    show (gapL t (gapS t l _) ps)[j]? = _
    rw [gapL_out t j ps (gapS t l ⟨(a : Int), (n : Int)⟩) (fun p hp => by rw [gapS_len]; exact hin p (List.mem_cons_of_mem _ hp)) (fun a n hp => h a n (List.mem_cons_of_mem _ hp))]
    show (if (n : Int) < t then fillN l a 49 n else l)[j]? = _
    by_cases h2 : (n : Int) < t
    · rw [if_pos h2, fillN_get _ _ _ _ _ han, if_neg (h a n List.mem_cons_self h2)]
    · rw [if_neg h2]
theorem gapL_stay (t : Int) (j : Nat) : ∀ (ps : List S61) (l : List Int), (∀ p ∈ ps, ∃ a n : Nat, p = ⟨(a : Int), (n : Int)⟩ ∧ a + n ≤ l.length) → l[j]? = some 49 → (gapL t l ps)[j]? = some 49
  | [], l, _, h => h
  | p :: ps, l, hin, h => by
    obtain ⟨a, n, rfl, han⟩ := hin p List.mem_cons_self
    refine gapL_stay t j ps (gapS t l ⟨(a : Int), (n : Int)⟩) (fun p hp => by rw [gapS_len]; exact hin p (List.mem_cons_of_mem _ hp)) ?_
    show (if (n : Int) < t then fillN l a 49 n else l)[j]? = _
    by_cases h2 : (n : Int) < t
    · rw [if_pos h2, fillN_get _ _ _ _ _ han]
      split
      · rfl
      · exact h
    · rw [if_neg h2]; exact h
theorem gapL_in (t : Int) (j : Nat) : ∀ (ps : List S61) (l : List Int), (∀ p ∈ ps, ∃ a n : Nat, p = ⟨(a : Int), (n : Int)⟩ ∧ a + n ≤ l.length) → ∀ a n : Nat, Pin ps a n → (n : Int) < t → a ≤ j → j < a + n → (gapL t l ps)[j]? = some 49
  | [], l, _, a, n, h, _, _, _ => by simp [Pin] at h
  | p :: ps, l, hin, a', n', h, h1, h2, h3 => by
    obtain ⟨a, n, rfl, han⟩ := hin p List.mem_cons_self
    have hin2 : ∀ p ∈ ps, ∃ a' n' : Nat, p = ⟨(a' : Int), (n' : Int)⟩ ∧ a' + n' ≤ (gapS t l ⟨(a : Int), (n : Int)⟩).length := fun p hp => by rw [gapS_len]; exact hin p (List.mem_cons_of_mem _ hp)
    rcases pin_cons h with ⟨rfl, rfl⟩ | h
    · refine gapL_stay t j ps (gapS t l ⟨(a' : Int), (n' : Int)⟩) hin2 ?_
      show (if (n' : Int) < t then fillN l a' 49 n' else l)[j]? = _
      rw [if_pos h1, fillN_get _ _ _ _ _ han, if_pos ⟨h2, h3⟩]
    · exact gapL_in t j ps (gapS t l ⟨(a : Int), (n : Int)⟩) hin2 a' n' h h1 h2 h3
theorem drop_at (s : ByteArray) (hL : Lev s) (t : Int) (j : Nat) (hj : j < s.size) : ∃ v : Int, (dropL t (bytesOf s) (pls s))[j]? = some v ∧
    ((v = 48 ∧ (bt s (j : Int) = 48 ∨ ∃ a n : Nat, Pin (pls s) a n ∧ a ≤ j ∧ j < a + n ∧ (n : Int) < t)) ∨ (v = 49 ∧ ∃ a n : Nat, Pin (pls s) a n ∧ a ≤ j ∧ j < a + n ∧ t ≤ (n : Int))) := by
  have i1 := pls_in s hL (bytesOf s).length (bytesOf_length s)
  rcases hL j hj with hb | hb
  · have hno : ∀ a n : Nat, Pin (pls s) a n → ¬ (a ≤ j ∧ j < a + n) := fun a n hp hc => by
      obtain ⟨_, _, _, q2, _⟩ := pls_is s hL a n hp
      have := q2 j hc.1 hc.2
      rw [hb] at this
      cases this
    exact ⟨48, by rw [dropL_out t j _ _ i1 (fun a n hp _ => hno a n hp), bytesOf_get s j hj, hb], .inl ⟨rfl, .inl hb⟩⟩
  · obtain ⟨a, n, hp, h1, h2⟩ := pls_cover s hL j hj hb
    have huni : ∀ a' n' : Nat, Pin (pls s) a' n' → a' ≤ j ∧ j < a' + n' → n' = n := fun a' n' hp' hc => (pls_one s hL j a' n' a n hp' hp hc.1 hc.2 h1 h2).2
    rcases Int.lt_or_le (n : Int) t with h3 | h3
    · exact ⟨48, dropL_in t j _ _ i1 a n hp h3 h1 h2, .inl ⟨rfl, .inr ⟨a, n, hp, h1, h2, h3⟩⟩⟩
    · refine ⟨49, ?_, .inr ⟨rfl, a, n, hp, h1, h2, h3⟩⟩
      rw [dropL_out t j _ _ i1 (fun a' n' hp' ht hc => by have := huni a' n' hp' hc; subst this; omega), bytesOf_get s j hj, hb]
theorem pz_get (us ds : List Int) (i : Nat) (p : S61) (h : (pz us ds)[i]? = some p) : us[i]? = some p.f0 := by
  unfold pz at h
  rw [List.getElem?_zipWith] at h
  cases hu : us[i]? with
  | none => rw [hu] at h; cases h
  | some u =>
    cases hd : ds[i]? with
    | none => rw [hu, hd] at h; cases h
    | some d =>
      rw [hu, hd] at h
      obtain rfl := Option.some.inj h
      rfl
theorem edg_sorted (s : ByteArray) (c : Int) (n : Nat) : (edg s c n).Pairwise (· < ·) := by
  unfold edg
  rw [List.pairwise_map]
  refine List.Pairwise.filter _ (List.Pairwise.imp ?_ List.pairwise_lt_range)
  intro a b h
  exact Int.ofNat_lt.mpr h
theorem sorted_le {l : List Int} (h : l.Pairwise (· < ·)) {i j : Nat} {x y : Int} (hi : l[i]? = some x) (hj : l[j]? = some y) (hij : i ≤ j) : x ≤ y := by
  obtain ⟨h1, e1⟩ := List.getElem?_eq_some_iff.mp hi
  obtain ⟨h2, e2⟩ := List.getElem?_eq_some_iff.mp hj
  rcases Nat.lt_or_eq_of_le hij with h3 | h3
  · have := List.pairwise_iff_getElem.mp h i j h1 h2 h3
    omega
  · subst h3; omega
def gps (s : ByteArray) : List S61 := gz (edg s 49 s.size) (dns s)
theorem dns_len (s : ByteArray) (hL : Lev s) : (dns s).length = (edg s 49 s.size).length := (runs_all s hL).len.symm
theorem gps_is (s : ByteArray) (hL : Lev s) (p : S61) (h : p ∈ gps s) : ∃ a n : Nat, p = ⟨(a : Int), (n : Int)⟩ ∧ a + n < s.size ∧ bt s ((a + n : Nat) : Int) = 49 := by
  obtain ⟨i, hi, e⟩ := List.getElem_of_mem h
  have hl := gz_len (edg s 49 s.size) (dns s) (dns_len s hL)
  have hi2 : i + 1 < (edg s 49 s.size).length := by unfold gps at hi; omega
  obtain ⟨a, n, b, m, h1, h2, h3, h4, h5, h6, h7, h8⟩ := gaps_of s hL i hi2
  have h9 : (gps s)[i]? = some p := by rw [List.getElem?_eq_getElem hi, e]
  unfold gps at h9
  rw [h6] at h9
  obtain rfl := Option.some.inj h9
  have hb : (b : Int) ∈ edg s 49 s.size := List.mem_of_getElem? h3
  obtain ⟨b', hb1, hb2, hb3⟩ := (edg_mem s 49 s.size _).1 hb
  obtain rfl : b = b' := by omega
  refine ⟨a + n, b - (a + n), rfl, by omega, ?_⟩
  rw [show a + n + (b - (a + n)) = b by omega]
  exact (isE_prv hb2).1
theorem gps_pre (s : ByteArray) (hL : Lev s) (a n : Nat) (h : Pin (gps s) a n) : 0 < a ∧ bt s ((a - 1 : Nat) : Int) = 49 := by
  obtain ⟨i, hi, e⟩ := List.getElem_of_mem h
  have hl := gz_len (edg s 49 s.size) (dns s) (dns_len s hL)
  have hi2 : i + 1 < (edg s 49 s.size).length := by unfold gps at hi; omega
  obtain ⟨a', n', b, m, h1, h2, h3, h4, h5, h6, h7, h8⟩ := gaps_of s hL i hi2
  have h9 : (gps s)[i]? = some ⟨(a : Int), (n : Int)⟩ := by rw [List.getElem?_eq_getElem hi, e]
  unfold gps at h9
  rw [h6] at h9
  have h9 := Option.some.inj h9
  injection h9 with e1 e2
  obtain rfl : a = a' + n' := by omega
  have hp : Pin (pls s) a' n' := List.mem_of_getElem? h4
  obtain ⟨_, q0, q1, q2, q3⟩ := pls_is s hL a' n' hp
  exact ⟨by omega, q2 _ (by omega) (by omega)⟩
theorem gps_in (s : ByteArray) (hL : Lev s) (m : Nat) (hm : m = s.size) : ∀ p ∈ gps s, ∃ a n : Nat, p = ⟨(a : Int), (n : Int)⟩ ∧ a + n ≤ m := fun p hp => by
  obtain ⟨a, n, h1, h2, h3⟩ := gps_is s hL p hp
  exact ⟨a, n, h1, by omega⟩
theorem gps_has (s : ByteArray) (hL : Lev s) (a b : Nat) (h0 : 0 < a) (hab : a < b) (hb : b < s.size) (h1 : bt s ((a - 1 : Nat) : Int) = 49) (h2 : bt s (b : Int) = 49) (h3 : ∀ j : Nat, a ≤ j → j < b → bt s (j : Int) = 48) : Pin (gps s) a (b - a) := by
  obtain ⟨u, n, hp, hu1, hu2⟩ := pls_cover s hL (a - 1) (by omega) h1
  obtain ⟨u', n', hp', hv1, hv2⟩ := pls_cover s hL b hb h2
  obtain ⟨e, p0, p1, p2, p3⟩ := pls_is s hL u n hp
  obtain ⟨e', q0, q1, q2, q3⟩ := pls_is s hL u' n' hp'
  have hun : u + n = a := by
    rcases Nat.lt_or_ge a (u + n) with h | h
    · have := p2 a (by omega) h
      rw [h3 a (Nat.le_refl _) hab] at this; cases this
    · omega
  have hu' : a ≤ u' := by
    rcases Nat.lt_or_ge u' a with h | h
    · have := q2 a (by omega) (by omega)
      rw [h3 a (Nat.le_refl _) hab] at this; cases this
    · exact h
  obtain ⟨i, hi, ei⟩ := List.getElem_of_mem hp
  obtain ⟨i', hi', ei'⟩ := List.getElem_of_mem hp'
  have g1 : (pz (edg s 49 s.size) (dns s))[i]? = some ⟨(u : Int), (n : Int)⟩ := by show (pls s)[i]? = _; rw [List.getElem?_eq_getElem hi, ei]
  have g2 : (pz (edg s 49 s.size) (dns s))[i']? = some ⟨(u' : Int), (n' : Int)⟩ := by show (pls s)[i']? = _; rw [List.getElem?_eq_getElem hi', ei']
  have k1 := pz_get _ _ _ _ g1
  have k2 := pz_get _ _ _ _ g2
  simp only at k1 k2
  have hii : i < i' := by
    rcases Nat.lt_or_ge i i' with h | h
    · exact h
    · have := sorted_le (edg_sorted s 49 s.size) k2 k1 h
      omega
  have hlt : i + 1 < (edg s 49 s.size).length := by
    have := (List.getElem?_eq_some_iff.mp k2).1
    omega
  obtain ⟨a1, n1, b1, m1, f1, f2, f3, f4, f5, f6, f7, f8⟩ := gaps_of s hL i hlt
  rw [g1] at f4
  have f4 := Option.some.inj f4
  injection f4 with f4a f4b
  obtain rfl : u = a1 := by omega
  obtain rfl : n = n1 := by omega
  have hb1 : (b1 : Int) ∈ edg s 49 s.size := List.mem_of_getElem? f3
  obtain ⟨b', hb2, hb3, hb4⟩ := (edg_mem s 49 s.size _).1 hb1
  obtain rfl : b1 = b' := by omega
  have hb49 := (isE_prv hb3).1
  have hle := sorted_le (edg_sorted s 49 s.size) f3 k2 hii
  have hbb : b1 = b := by
    rcases Nat.lt_or_ge b1 b with h | h
    · have := h3 b1 (by omega) h
      rw [hb49] at this; cases this
    · omega
  subst hbb
  rw [hun] at f6
  exact List.mem_of_getElem? f6
theorem fill_at (s : ByteArray) (hL : Lev s) (t : Int) (j : Nat) (hj : j < s.size) : ((gapL t (bytesOf s) (gps s))[j]? = some 49 ∧ (bt s (j : Int) = 49 ∨ ∃ a n : Nat, Pin (gps s) a n ∧ a ≤ j ∧ j < a + n ∧ (n : Int) < t)) ∨
    ((gapL t (bytesOf s) (gps s))[j]? = some 48 ∧ bt s (j : Int) = 48 ∧ ∀ a n : Nat, Pin (gps s) a n → (n : Int) < t → ¬ (a ≤ j ∧ j < a + n)) := by
  have i1 := gps_in s hL (bytesOf s).length (bytesOf_length s)
  by_cases h : ∃ a n : Nat, Pin (gps s) a n ∧ a ≤ j ∧ j < a + n ∧ (n : Int) < t
  · obtain ⟨a, n, hp, h1, h2, h3⟩ := h
    exact .inl ⟨gapL_in t j _ _ i1 a n hp h3 h1 h2, .inr ⟨a, n, hp, h1, h2, h3⟩⟩
  · have hno : ∀ a n : Nat, Pin (gps s) a n → (n : Int) < t → ¬ (a ≤ j ∧ j < a + n) := fun a n hp ht hc => h ⟨a, n, hp, hc.1, hc.2, ht⟩
    have e := gapL_out t j _ _ i1 hno
    rw [bytesOf_get s j hj] at e
    rcases hL j hj with hb | hb
    · exact .inr ⟨by rw [e, hb], hb, hno⟩
    · exact .inl ⟨by rw [e, hb], .inl hb⟩
end Go.Proofs.YthkpnbelbaljdaaDoor.X
end
section
end
section
namespace Go.Proofs.YthkpnbelbaljdaaDoor.X
open Go.RowKit Go.Proofs.YthkpnbelbaljdaaDoorW.PrintWords Go.Proofs.YthkpnbelbaljdaaDoorW.PrintLast Go.Proofs.YthkpnbelbaljdaaDoorW.PrintMore
set_option linter.unusedVariables false
def repS (s : ByteArray) (c : Nat) : ByteArray := ⟨(Go.Lib.repeatL s.data.toList c).toArray⟩
def strings_Repeat.f (a0 : ByteArray) (a1 : Int) : Option ByteArray := if 0 ≤ a1 ∧ a1 ≤ 1000 ∧ a0.size ≤ 1000 then some (repS a0 a1.toNat) else none
theorem strings_Repeat.calls (a0 : ByteArray) (a1 : Int) (r1 : ByteArray) (w : World) (h : strings_Repeat.f a0 a1 = some r1) :
    Calls Tryd.prog 100 #[.string a0, .int .i64 a1] w fun e w' => e = .returned (.string r1) ∧ Below w.heap.size w w' := by
  unfold strings_Repeat.f at h
  by_cases hc : 0 ≤ a1 ∧ a1 ≤ 1000 ∧ a0.size ≤ 1000
  · rw [if_pos hc] at h
    obtain rfl := Option.some.inj h
    have hn : ((a1.toNat : Nat) : Int) = a1 := by omega
    have hm : a0.size * a1.toNat ≤ 1000 * 1000 := Nat.mul_le_mul hc.2.2 (by omega)
    have := Tryd.strings_Repeat a0 a1.toNat w (by omega) (by omega)
    rw [hn] at this
    exact this
  · rw [if_neg hc] at h; cases h
end Go.Proofs.YthkpnbelbaljdaaDoor.X
end
section
-- Written by a program of this session out of the kit's print of the loaded functions: a plain function of a Go function, and its contract.
namespace Go.Proofs.YthkpnbelbaljdaaDoor.X
open Go.RowKit Go.Proofs.YthkpnbelbaljdaaDoorW.PrintWords Go.Proofs.YthkpnbelbaljdaaDoorW.PrintLast Go.Proofs.YthkpnbelbaljdaaDoorW.PrintMore
attribute [local go_sem] max2_int min2_int max_two min_two max_three min_three max_four min_four   -- for this text's walks alone
set_option linter.unusedVariables false
set_option linter.unusedSimpArgs false
def impl_levelsBack.f (a0 : ByteArray) (a1 : Int) (a2 : Int) : Option (ByteArray) := (strings_Repeat.f (⟨#[48]⟩ : ByteArray) a2).bind fun t513 => (if t513.size + a0.size ≤ 9223372036854775807 then (if 0 ≤ (wrap64 (a1 + 1)) then (if (wrap64 (a1 + 1)) ≤ (wrap64 ((wrap64 (a1 + 1)) + a2)) then (if (wrap64 ((wrap64 (a1 + 1)) + a2)) ≤ ((t513 ++ a0).size : Int) then (some ((t513 ++ a0).extract ((wrap64 (a1 + 1)) : Int).toNat ((wrap64 ((wrap64 (a1 + 1)) + a2)) : Int).toNat)) else (none)) else (none)) else (none)) else (none))
set_option maxHeartbeats 8000000 in
set_option maxRecDepth 100000 in
theorem impl_levelsBack.calls (a0 : ByteArray) (a1 : Int) (a2 : Int) (r : ByteArray) (w : World) (h : impl_levelsBack.f a0 a1 a2 = some r) :
  Calls Tryd.prog 74 #[.string a0, .int .i64 a1, .int .i64 a2] w fun e w' => e = .returned (.string r) ∧ Below w.heap.size w w' := by
 have HB := Aside0.mk (Below.refl w.heap.size w)
 have H : ((strings_Repeat.f (⟨#[48]⟩ : ByteArray) a2).bind fun t513 => (if t513.size + a0.size ≤ 9223372036854775807 then (if 0 ≤ (wrap64 (a1 + 1)) then (if (wrap64 (a1 + 1)) ≤ (wrap64 ((wrap64 (a1 + 1)) + a2)) then (if (wrap64 ((wrap64 (a1 + 1)) + a2)) ≤ ((t513 ++ a0).size : Int) then (some ((t513 ++ a0).extract ((wrap64 (a1 + 1)) : Int).toNat ((wrap64 ((wrap64 (a1 + 1)) + a2)) : Int).toNat)) else (none)) else (none)) else (none)) else (none))) = some r := h
 clear h
 replace H := Option.bind_eq_some_iff.mp H
 obtain ⟨t513, A40, H⟩ := H
 replace H : (if t513.size + a0.size ≤ 9223372036854775807 then (if 0 ≤ (wrap64 (a1 + 1)) then (if (wrap64 (a1 + 1)) ≤ (wrap64 ((wrap64 (a1 + 1)) + a2)) then (if (wrap64 ((wrap64 (a1 + 1)) + a2)) ≤ ((t513 ++ a0).size : Int) then (some ((t513 ++ a0).extract ((wrap64 (a1 + 1)) : Int).toNat ((wrap64 ((wrap64 (a1 + 1)) + a2)) : Int).toNat)) else (none)) else (none)) else (none)) else (none)) = some r := H
 have A4 := Aside0.mk A40
 clear A40
 by_cases c5 : t513.size + a0.size ≤ 9223372036854775807
 ·rw [if_pos c5] at H
  have c5b0 := eq_true c5
  have c5b1 : decide (t513.size + a0.size ≤ 9223372036854775807) = true := decide_eq_true c5
  try have c5b2 : (9223372036854775807 < t513.size + a0.size) = False := eq_false (Nat.not_lt.2 c5)
  obtain ⟨ji6, hji6⟩ : ∃ j_ : Int, (wrap64 (a1 + 1)) = j_ := ⟨_, rfl⟩
  replace H : (if 0 ≤ (ji6) then (if (ji6) ≤ (wrap64 ((ji6) + a2)) then (if (wrap64 ((ji6) + a2)) ≤ ((t513 ++ a0).size : Int) then (some ((t513 ++ a0).extract ((ji6) : Int).toNat ((wrap64 ((ji6) + a2)) : Int).toNat)) else (none)) else (none)) else (none)) = some r := by first | (rw [hji6] at H; exact H) | (simp only [hji6] at H ⊢; exact H)
  (try rw [hji6] at A4)
  have hji6w : (IntKind.i64.wrap (a1 + 1)) = ji6 := (i64_w _).trans hji6
  by_cases c7 : 0 ≤ (ji6)
  ·rw [if_pos c7] at H
   have c7b0 := eq_true c7
   have c7b1 : decide (0 ≤ (ji6)) = true := decide_eq_true c7
   clear c7
   by_cases c8 : (ji6) ≤ (wrap64 ((ji6) + a2))
   ·rw [if_pos c8] at H
    have c8b0 := eq_true c8
    have c8b1 : decide ((ji6) ≤ (wrap64 ((ji6) + a2))) = true := decide_eq_true c8
    by_cases c9 : (wrap64 ((ji6) + a2)) ≤ ((t513 ++ a0).size : Int)
    ·rw [if_pos c9] at H
     have c9b0 := eq_true c9
     have c9b1 : decide ((wrap64 ((ji6) + a2)) ≤ ((t513 ++ a0).size : Int)) = true := decide_eq_true c9
     have c9b3 : (wrap64 (ji6 + a2) ≤ ((t513.size + a0.size : Nat) : Int)) = True := eq_true (by rw [ByteArray.size_append] at c9; exact c9)
     have c9b4 : (wrap64 (ji6 + a2) ≤ (t513.size : Int) + (a0.size : Int)) = True := eq_true (by rw [ByteArray.size_append] at c9; rw [← Int.natCast_add]; exact c9)
     have c9b5 : decide (wrap64 (ji6 + a2) ≤ (t513.size : Int) + (a0.size : Int)) = true := decide_eq_true (c9b4 ▸ trivial)
     obtain rfl := Option.some.inj H
     go_enter Tryd.func74, Tryd.ntmps74
     go_wp2_with (first | ((with_reducible refine gate_callee (f := 100) rfl ?_); refine goesL_ (some 8) rfl rfl Tryd.func100 (by kernel_rfl) rfl #[.string (⟨#[48]⟩ : ByteArray), .int .i64 a2] rfl (by (try simp only [List.map_toArray, List.map_cons, List.map_nil]); first | done | rfl | (simp only [List.length_drop, List.length_take]; rfl)) ?_; (with_reducible refine (strings_Repeat.calls (⟨#[48]⟩ : ByteArray) a2 t513 _ A4.out).mono ?_); rintro e w10 ⟨rfl, hb⟩; refine ⟨_, rfl, ?_⟩; have n0_ := Aside0.mk (below_step (by repeat (first | (with_reducible first | exact HB.out | apply below_alloc | apply pw_below_drewN | apply below_drew1) | exact HB.out)) hb); clear HB; have HB := n0_; clear n0_; (try clear hb); (try clear hb2); (try clear hk); (try clear hi)))
     go_ret
     exact ⟨by first | rfl | (simp [errW_none, errW_some] <;> rfl) | (simp only [← hji6]; first | rfl | (simp [errW_none, errW_some] <;> rfl)) | (simp [*, errW_none, errW_some] <;> rfl), by repeat (first | (with_reducible first | exact HB.out | apply below_alloc | apply pw_below_drewN | apply below_drew1) | exact HB.out)⟩
    ·rw [if_neg c9] at H
     exact absurd H (by simp)
   ·rw [if_neg c8] at H
    exact absurd H (by simp)
  ·rw [if_neg c7] at H
   exact absurd H (by simp)
 ·rw [if_neg c5] at H
  exact absurd H (by simp)
end Go.Proofs.YthkpnbelbaljdaaDoor.X
end
section
namespace Go.Proofs.YthkpnbelbaljdaaDoor.X
open Go.RowKit Go.Proofs.YthkpnbelbaljdaaDoorW.PrintWords Go.Proofs.YthkpnbelbaljdaaDoorW.PrintLast Go.Proofs.YthkpnbelbaljdaaDoorW.PrintMore
set_option linter.unusedVariables false
set_option linter.unusedSimpArgs false
set_option maxHeartbeats 4000000 in
set_option maxRecDepth 100000 in
theorem StretchClo (s b : ByteArray) (t i : Int) (g1 g2 : Nat) (w : World) (h1 : w.heap[g1]? = some (.cells #[.string s] 9 (0, 0))) (h2 : w.heap[g2]? = some (.cells #[.int .i64 t] 2 (0, 0))) (hb : impl_levelsBack.f s i t = some b) :
    Calls Tryd.prog 75 #[.int .i64 i, .pointer (some ⟨g1, 0, none⟩), .pointer (some ⟨g2, 0, none⟩)] w fun e w' => e = .returned (.bool (decide (0 ≤ Lib.indexByte b.data.toList 49))) ∧ Below w.heap.size w w' := by
  have c1 : w.cell? ⟨g1, 0, none⟩ = some (.string s) := (blk_cell h1 0).trans rfl
  have c2 : w.cell? ⟨g2, 0, none⟩ = some (.int .i64 t) := (blk_cell h2 0).trans rfl
  have H := Aside0.mk hb
  clear h1 h2 hb
  have HB := Aside0.mk (Below.refl w.heap.size w)
  go_enter Tryd.func75, Tryd.ntmps75
  go_wp2_with (first
    | (go_at_call 74; (with_reducible refine (impl_levelsBack.calls s i t b _ H.out).mono ?_); rintro e wn ⟨rfl, hb⟩; have n0_ := Aside0.mk (below_step HB.out hb); clear HB hb; have HB := n0_; clear n0_)
    | (go_at_call 76; (with_reducible refine (Tryd.strings_Contains_one b 49 _).mono ?_); rintro e wn ⟨rfl, rfl⟩))
  go_ret
  exact ⟨rfl, HB.out⟩
theorem keepS {w0 : World} {g1 g2 : Nat} {v1 v2 : Value} (l1 : g1 < w0.heap.size) (l2 : g2 < w0.heap.size) {W W' : World} (h : W.cell? ⟨g1, 0, none⟩ = some v1 ∧ W.cell? ⟨g2, 0, none⟩ = some v2 ∧ Below w0.heap.size w0 W) (hb : Below W.heap.size W W') :
    W'.cell? ⟨g1, 0, none⟩ = some v1 ∧ W'.cell? ⟨g2, 0, none⟩ = some v2 ∧ Below w0.heap.size w0 W' :=
  have hsz : w0.heap.size ≤ W.heap.size := below_size h.2.2
  ⟨(hb.cell (p := ⟨g1, 0, none⟩) (Nat.lt_of_lt_of_le l1 hsz)).trans h.1, (hb.cell (p := ⟨g2, 0, none⟩) (Nat.lt_of_lt_of_le l2 hsz)).trans h.2.1, below_step h.2.2 hb⟩
set_option maxHeartbeats 4000000 in
set_option maxRecDepth 100000 in
theorem MajorClo (s b : ByteArray) (t i : Int) (g1 g2 : Nat) (w : World) (h1 : w.heap[g1]? = some (.cells #[.string s] 9 (0, 0))) (h2 : w.heap[g2]? = some (.cells #[.int .i64 t] 2 (0, 0))) (hb : impl_levelsBack.f s i t = some b) (n : Nat) (hn : Lib.countByte b.data.toList 49 = n) (hn2 : n ≤ 1000) :
    Calls Tryd.prog 78 #[.int .i64 i, .pointer (some ⟨g1, 0, none⟩), .pointer (some ⟨g2, 0, none⟩)] w fun e w' => e = .returned (.bool (decide (2 * (n : Int) > t))) ∧ Below w.heap.size w w' := by
  have c1 : w.cell? ⟨g1, 0, none⟩ = some (.string s) := (blk_cell h1 0).trans rfl
  have c2 : w.cell? ⟨g2, 0, none⟩ = some (.int .i64 t) := (blk_cell h2 0).trans rfl
  have l1 : g1 < w.heap.size := blk_lt h1
  have l2 : g2 < w.heap.size := blk_lt h2
  have H := Aside0.mk hb
  have HN := Aside0.mk hn
  clear h1 h2 hb hn
  have e1 : IntKind.i64.wrap (2 * (n : Int)) = 2 * (n : Int) := IntWalk.i64_in _ ⟨by omega, by omega⟩
  have hd : ∀ x, x = w.drew → (x.cell? ⟨g1, 0, none⟩ = some (.string s) ∧ x.cell? ⟨g2, 0, none⟩ = some (.int .i64 t) ∧ Below w.heap.size w x) := by
    rintro x rfl
    exact ⟨c1, c2, below_drew1 (Below.refl _ _)⟩
  go_enter Tryd.func78, Tryd.ntmps78
  go_wp2
  go_region_held3 (fun W => W.cell? ⟨g1, 0, none⟩ = some (.string s) ∧ W.cell? ⟨g2, 0, none⟩ = some (.int .i64 t) ∧ Below w.heap.size w W) (first | exact hd _ rfl | assumption | exact keepS l1 l2 ‹_› ‹_›) (first | (go_at_call 74; (with_reducible refine (impl_levelsBack.calls s i t b _ H.out).mono ?_); rintro e wn ⟨rfl, hb⟩) | (go_at_call 73; (with_reducible refine (Tryd.strings_Count_one b 49 _).mono ?_); rintro e wn ⟨he, rfl⟩; rw [HN.out] at he; subst he))
  have HS := ‹_ ∧ _ ∧ Below w.heap.size w _›.2.2
  go_wp2
  go_ret
  exact ⟨rfl, HS⟩
set_option maxHeartbeats 4000000 in
set_option maxRecDepth 100000 in
theorem DebClo (s b : ByteArray) (t i : Int) (lv lw : Bool) (g1 g2 g3 B0 : Nat) (w : World) (h1 : w.heap[g1]? = some (.cells #[.string s] 9 (0, 0))) (h2 : w.heap[g2]? = some (.cells #[.int .i64 t] 2 (0, 0))) (h3 : w.heap[g3]? = some (.cells #[.bool lv] 4 (0, 0))) (hB : B0 ≤ g3) (hb : impl_levelsBack.f s i t = some b) (n : Nat) (hn : Lib.countByte b.data.toList 49 = n) (hn2 : n ≤ 1000) (ht : 1 ≤ t)
    (hlw : lw = if n = 0 then false else if (n : Int) = t then true else lv) :
    Calls Tryd.prog 72 #[.int .i64 i, .pointer (some ⟨g1, 0, none⟩), .pointer (some ⟨g2, 0, none⟩), .pointer (some ⟨g3, 0, none⟩)] w fun e w' => e = .returned (.bool lw) ∧ w'.heap[g3]? = some (.cells #[.bool lw] 4 (0, 0)) ∧ Below B0 w w' ∧ Kept w w' (· = g3) := by
  have n13 : g1 ≠ g3 := blk_ne h1 h3 (by decide)
  have n23 : g2 ≠ g3 := blk_ne h2 h3 (by decide)
  have B3 := Aside0.mk h3
  have hB0 : B0 ≤ w.heap.size := Nat.le_trans hB (Nat.le_of_lt (blk_lt h3))
  have c1 : w.cell? ⟨g1, 0, none⟩ = some (.string s) := (blk_cell h1 0).trans rfl
  have c2 : w.cell? ⟨g2, 0, none⟩ = some (.int .i64 t) := (blk_cell h2 0).trans rfl
  have c3 : w.cell? ⟨g3, 0, none⟩ = some (.bool lv) := (blk_cell h3 0).trans rfl
  have B1 := Aside0.mk h1
  have B2 := Aside0.mk h2
  have H := Aside0.mk hb
  have HN := Aside0.mk hn
  have HLW := Aside0.mk hlw
  have HBB := Aside0.mk hB
  have HBB0 := Aside0.mk hB0
  clear h1 h2 h3 hb hn hlw hB hB0
  have HB := Aside0.mk (Below.refl w.heap.size w)
  have fin : ∀ W : World, Below w.heap.size w W → ∀ u : Bool, (W.setCell ⟨g3, 0, none⟩ (.bool u)).heap[g3]? = some (.cells #[.bool u] 4 (0, 0)) ∧ Below B0 w (W.setCell ⟨g3, 0, none⟩ (.bool u)) ∧ Kept w (W.setCell ⟨g3, 0, none⟩ (.bool u)) (· = g3) := fun W hW u =>
    ⟨blk_put (blk_below B3.out hW) 0 _ rfl, (hW.mono HBB0.out).setCell HBB.out _, Kept.setCell (p := ⟨g3, 0, none⟩) (Kept.of_below hW (· = g3)) (.inl rfl) (.bool u)⟩
  have FIN := Aside0.mk fin
  clear fin
  by_cases hz : n = 0
  · subst hz
    have hv : Aside0 (lw = false) := ⟨HLW.out.trans (if_pos rfl)⟩
    go_enter Tryd.func72, Tryd.ntmps72
    go_wp2_with (first
      | (go_at_call 74; (with_reducible refine (impl_levelsBack.calls s i t b _ H.out).mono ?_); rintro e wn ⟨rfl, hb⟩; have n0_ := Aside0.mk hb; have z3 := blk_frozen (blk_below B3.out hb) 0; have c2 : wn.cell? ⟨g2, 0, none⟩ = some (.int .i64 t) := (blk_cell (blk_below B2.out hb) 0).trans rfl; have c3 : wn.cell? ⟨g3, 0, none⟩ = some (.bool lv) := (blk_cell (blk_below B3.out hb) 0).trans rfl; clear HB hb; have HB := n0_; clear n0_)
      | (go_at_call 73; (with_reducible refine (Tryd.strings_Count_one b 49 _).mono ?_); rintro e wn ⟨he, rfl⟩; rw [HN.out] at he; subst he))
    go_ret
    exact ⟨by rw [hv.out]; rfl, by rw [hv.out]; exact FIN.out _ HB.out false⟩
  · have q0 : ((n : Int) = 0) = False := eq_false (by omega)
    have q1 : ((n : Int) == 0) = false := beq_eq_false_iff_ne.mpr (by omega)
    have q2 : (0 = (n : Int)) = False := eq_false (by omega)
    have q3 : (n = 0) = False := eq_false (by omega)
    by_cases hq : (n : Int) = t
    · subst hq
      have hv : Aside0 (lw = true) := ⟨HLW.out.trans ((if_neg hz).trans (if_pos rfl))⟩
      clear hz HLW
      go_enter Tryd.func72, Tryd.ntmps72
      go_wp2_with (first
        | (go_at_call 74; (with_reducible refine (impl_levelsBack.calls s i n b _ H.out).mono ?_); rintro e wn ⟨rfl, hb⟩; have n0_ := Aside0.mk hb; have z3 := blk_frozen (blk_below B3.out hb) 0; have c2 : wn.cell? ⟨g2, 0, none⟩ = some (.int .i64 n) := (blk_cell (blk_below B2.out hb) 0).trans rfl; have c3 : wn.cell? ⟨g3, 0, none⟩ = some (.bool lv) := (blk_cell (blk_below B3.out hb) 0).trans rfl; clear HB hb; have HB := n0_; clear n0_)
        | (go_at_call 73; (with_reducible refine (Tryd.strings_Count_one b 49 _).mono ?_); rintro e wn ⟨he, rfl⟩; rw [HN.out] at he; subst he))
      go_ret
      exact ⟨by rw [hv.out]; rfl, by rw [hv.out]; exact FIN.out _ HB.out true⟩
    · have hv : Aside0 (lw = lv) := ⟨HLW.out.trans ((if_neg hz).trans (if_neg hq))⟩
      have q4 : ((n : Int) = t) = False := eq_false hq
      have q5 : ((n : Int) == t) = false := beq_eq_false_iff_ne.mpr hq
      have q6 : (t = (n : Int)) = False := eq_false (fun h => hq h.symm)
      clear hz HLW hq
      go_enter Tryd.func72, Tryd.ntmps72
      go_wp2_with (first
        | (go_at_call 74; (with_reducible refine (impl_levelsBack.calls s i t b _ H.out).mono ?_); rintro e wn ⟨rfl, hb⟩; have n0_ := Aside0.mk hb; have z3 := blk_frozen (blk_below B3.out hb) 0; have c2 : wn.cell? ⟨g2, 0, none⟩ = some (.int .i64 t) := (blk_cell (blk_below B2.out hb) 0).trans rfl; have c3 : wn.cell? ⟨g3, 0, none⟩ = some (.bool lv) := (blk_cell (blk_below B3.out hb) 0).trans rfl; clear HB hb; have HB := n0_; clear n0_)
        | (go_at_call 73; (with_reducible refine (Tryd.strings_Count_one b 49 _).mono ?_); rintro e wn ⟨he, rfl⟩; rw [HN.out] at he; subst he))
      go_ret
      exact ⟨by rw [hv.out]; rfl, by rw [hv.out]; exact ⟨blk_below B3.out HB.out, HB.out.mono HBB0.out, Kept.of_below HB.out _⟩⟩
end Go.Proofs.YthkpnbelbaljdaaDoor.X
end
section
namespace Go.Proofs.YthkpnbelbaljdaaDoor.X
open Go.RowKit Go.Proofs.YthkpnbelbaljdaaDoorW.PrintWords Go.Proofs.YthkpnbelbaljdaaDoorW.PrintLast Go.Proofs.YthkpnbelbaljdaaDoorW.PrintMore
set_option linter.unusedVariables false
set_option linter.unusedSimpArgs false
def ones (l : List UInt8) : Nat := l.count 49
theorem ones_le (l : List UInt8) : ones l ≤ l.length := List.count_le_length
def cnt (s : ByteArray) (i t : Nat) : Nat := ones ((s.data.toList.take (i + 1)).drop (i + 1 - t))
theorem cnt_le (s : ByteArray) (i t : Nat) : cnt s i t ≤ t := by
  have := ones_le ((s.data.toList.take (i + 1)).drop (i + 1 - t))
  unfold cnt
  rw [List.length_drop, List.length_take] at this
  omega
theorem ext_list (s : ByteArray) (a b : Nat) (hab : a ≤ b) (hb : b ≤ s.size) : (s.extract a b).data.toList = (s.data.toList.take b).drop a := by
  rw [ByteArray.data_extract, Array.toList_extract, List.extract_eq_take_drop, List.drop_take]
theorem rep_zero (t : Nat) : (repS (⟨#[48]⟩ : ByteArray) t).data.toList = List.replicate t 48 := by
  unfold repS
  have := Go.Lib.repeatL_replicate 48 1 t
  simpa using this
def lback (s : ByteArray) (i t : Nat) : ByteArray := (repS (⟨#[48]⟩ : ByteArray) t ++ s).extract (i + 1) (i + 1 + t)
theorem levelsBack_eq (s : ByteArray) (hs : s.size ≤ 400) (i t : Nat) (hi : i < s.size) (h1 : 1 ≤ t) (h2 : t ≤ 50) : impl_levelsBack.f s i t = some (lback s i t) := by
  have hz : (repS (⟨#[48]⟩ : ByteArray) t).size = t := by have := congrArg List.length (rep_zero t); simpa using this
  have e : ((repS (⟨#[48]⟩ : ByteArray) t) ++ s).size = t + s.size := by rw [ByteArray.size_append, hz]
  unfold impl_levelsBack.f strings_Repeat.f
  rw [if_pos ⟨by omega, by omega, by decide⟩, Option.bind_some, Int.toNat_natCast, w64 (n := (i : Int) + 1) (by omega) (by omega), w64 (n := (i : Int) + 1 + t) (by omega) (by omega), if_pos (by omega), if_pos (by omega), if_pos (by omega), if_pos (by omega)]
  congr 1
theorem lback_list (s : ByteArray) (i t : Nat) (hi : i < s.size) : (lback s i t).data.toList = (List.replicate t 48).drop (i + 1) ++ (s.data.toList.take (i + 1)).drop (i + 1 - t) := by
  have hl : s.data.toList.length = s.size := by simp
  unfold lback
  have hz : (repS (⟨#[48]⟩ : ByteArray) t).size = t := by have := congrArg List.length (rep_zero t); simpa using this
  rw [ext_list _ _ _ (by omega) (by rw [ByteArray.size_append, hz]; omega), ByteArray.data_append, Array.toList_append, rep_zero, List.take_append, List.length_replicate, List.drop_append, List.length_take, List.length_replicate]
  rw [List.take_of_length_le (by rw [List.length_replicate]; omega), show i + 1 + t - t = i + 1 by omega, show min (i + 1 + t) t = t by omega]
theorem lback_ones (s : ByteArray) (i t : Nat) (hi : i < s.size) : ones (lback s i t).data.toList = cnt s i t := by
  unfold cnt
  rw [lback_list s i t hi]
  unfold ones
  rw [List.count_append, List.drop_replicate, List.count_replicate]
  simp
theorem index_ones (l : List UInt8) : (0 ≤ Go.Lib.indexByte l 49) ↔ 0 < ones l := by
  unfold ones
  rw [List.count_pos_iff]
  rcases Int.lt_or_le (Go.Lib.indexByte l 49) 0 with h | h
  · have hm : Go.Lib.indexByte l 49 = -1 := by have := Go.Lib.indexByte_ge l 49; omega
    refine ⟨fun h2 => by omega, fun h2 => ?_⟩
    obtain ⟨j, hj, e⟩ := List.getElem_of_mem h2
    exact absurd (by rw [List.getElem?_eq_getElem hj, e]) (Go.Lib.indexByte_none hm j)
  · obtain ⟨o, ho⟩ : ∃ o : Nat, Go.Lib.indexByte l 49 = o := ⟨_, (Int.toNat_of_nonneg h).symm⟩
    have := (Go.Lib.indexByte_some ho).1
    exact ⟨fun _ => List.mem_of_getElem? this, fun _ => h⟩
end Go.Proofs.YthkpnbelbaljdaaDoor.X
end
section
namespace Go.Proofs.YthkpnbelbaljdaaDoor.X
open Go.RowKit Go.Proofs.YthkpnbelbaljdaaDoorW.PrintWords Go.Proofs.YthkpnbelbaljdaaDoorW.PrintLast Go.Proofs.YthkpnbelbaljdaaDoorW.PrintMore
set_option linter.unusedVariables false
set_option linter.unusedSimpArgs false
def dlv (s : ByteArray) (t : Nat) : Nat → Bool
  | 0 => false
  | i + 1 => if cnt s i t = 0 then false else if cnt s i t = t then true else dlv s t i
set_option maxHeartbeats 4000000 in
set_option maxRecDepth 100000 in
theorem Debounce_no (s : ByteArray) (t : Int) (w : World) (h1 : impl_isFilter.f s t = some false) :
    Calls Tryd.prog 38 #[.string s, .int .i64 t] w fun e w' => e = .returned (.tuple #[.string ⟨#[]⟩, .bool false]) ∧ Below w.heap.size w w' := by
  have Hh1 := Aside0.mk h1
  clear h1
  have HB := Aside0.mk (Below.refl w.heap.size w)
  go_enter Tryd.func38, Tryd.ntmps38
  go_wp2_with (first
    | ((with_reducible refine gate_dst (N := 2) rfl ?_); refine box_event ?hg (N := 2) ?hd (cs := #[.string s]) (t := 9) ?hr ?_; (case hd => rfl); (case hg => rfl); (case hr => first | (go_simp; done) | (go_simp; rfl)); intro g2 hg wn hbox hb; have GE2 := Aside0.mk (by rw [hg]; exact below_size HB.out : w.heap.size ≤ g2); clear hg; have BK20 := Aside0.mk hbox; clear hbox; have n0_ := Aside0.mk (below_step HB.out hb); clear HB  hb; have HB := n0_; clear n0_ ; have BK2 := BK20; clear BK20; have c2_0 : wn.cell? ⟨g2, 0, none⟩ = some (.string s) := (blk_cell BK2.out 0).trans rfl)
    | ((with_reducible refine gate_dst (N := 3) rfl ?_); refine box_event ?hg (N := 3) ?hd (cs := #[.int .i64 t]) (t := 2) ?hr ?_; (case hd => rfl); (case hg => rfl); (case hr => first | (go_simp; done) | (go_simp; rfl)); intro g3 hg wn hbox hb; have GE3 := Aside0.mk (by rw [hg]; exact below_size HB.out : w.heap.size ≤ g3); have NE2_3 := Aside0.mk (show g2 ≠ g3 by have := blk_lt BK2.out; omega); clear hg; have BK30 := Aside0.mk hbox; clear hbox; have n0_ := Aside0.mk (below_step HB.out hb); have m2_ := Aside0.mk (blk_below BK2.out hb); clear HB BK2 hb; have HB := n0_; have BK2 := m2_; clear n0_ m2_; have c2_0 : wn.cell? ⟨g2, 0, none⟩ = some (.string s) := (blk_cell BK2.out 0).trans rfl; have BK3 := BK30; clear BK30; have c3_0 : wn.cell? ⟨g3, 0, none⟩ = some (.int .i64 t) := (blk_cell BK3.out 0).trans rfl)
    | (go_at_call 71; (with_reducible refine (impl_isFilter.calls s t false _ Hh1.out).mono ?_); rintro e wn ⟨rfl, hb0⟩; (first | have hb := to_below_d hb0 | have hb := to_below_b hb0); clear hb0; have n0_ := Aside0.mk (below_step HB.out hb); have m2_ := Aside0.mk (blk_below BK2.out hb); have m3_ := Aside0.mk (blk_below BK3.out hb); clear HB BK2 BK3 hb; have HB := n0_; have BK2 := m2_; have BK3 := m3_; clear n0_ m2_ m3_; have c2_0 : wn.cell? ⟨g2, 0, none⟩ = some (.string s) := (blk_cell BK2.out 0).trans rfl; have c3_0 : wn.cell? ⟨g3, 0, none⟩ = some (.int .i64 t) := (blk_cell BK3.out 0).trans rfl))
  go_ret2
  exact ⟨rfl, HB.out⟩
set_option maxHeartbeats 4000000 in
set_option maxRecDepth 100000 in
theorem Debounce_yes (s : ByteArray) (t : Int) (tn : Nat) (htn : t = tn) (w : World) (h1 : impl_isFilter.f s t = some true) :
    Calls Tryd.prog 38 #[.string s, .int .i64 t] w fun e w' => e = .returned (.tuple #[.string (strOfNums (lvs (fun i => dlv s tn (i + 1)) s.size)), .bool true]) ∧ Below w.heap.size w w' := by
  have Hh1 := Aside0.mk h1
  clear h1
  have HB := Aside0.mk (Below.refl w.heap.size w)
  obtain ⟨hs, hL, ht1, ht2⟩ := isFilter_true Hh1.out
  have HLB : Aside0 (∀ i : Nat, i < s.size → impl_levelsBack.f s i t = some (lback s i tn)) := ⟨fun i hi => by rw [htn]; exact levelsBack_eq s hs i tn hi (by omega) (by omega)⟩
  have HDL : Aside0 (∀ i : Nat, dlv s tn (i + 1) = if cnt s i tn = 0 then false else if (cnt s i tn : Int) = t then true else dlv s tn i) := ⟨fun i => by rw [dlv, htn]; simp only [Int.natCast_inj]⟩
  have htn3 : tn ≤ 50 := by omega
  clear htn
  go_enter Tryd.func38, Tryd.ntmps38
  go_wp2_with (first
    | ((with_reducible refine gate_dst (N := 2) rfl ?_); refine box_event ?hg (N := 2) ?hd (cs := #[.string s]) (t := 9) ?hr ?_; (case hd => rfl); (case hg => rfl); (case hr => first | (go_simp; done) | (go_simp; rfl)); intro g2 hg wn hbox hb; have GE2 := Aside0.mk (by rw [hg]; exact below_size HB.out : w.heap.size ≤ g2); clear hg; have BK20 := Aside0.mk hbox; clear hbox; have n0_ := Aside0.mk (below_step HB.out hb); clear HB  hb; have HB := n0_; clear n0_ ; have BK2 := BK20; clear BK20; have c2_0 : wn.cell? ⟨g2, 0, none⟩ = some (.string s) := (blk_cell BK2.out 0).trans rfl)
    | ((with_reducible refine gate_dst (N := 3) rfl ?_); refine box_event ?hg (N := 3) ?hd (cs := #[.int .i64 t]) (t := 2) ?hr ?_; (case hd => rfl); (case hg => rfl); (case hr => first | (go_simp; done) | (go_simp; rfl)); intro g3 hg wn hbox hb; have GE3 := Aside0.mk (by rw [hg]; exact below_size HB.out : w.heap.size ≤ g3); have NE2_3 := Aside0.mk (show g2 ≠ g3 by have := blk_lt BK2.out; omega); clear hg; have BK30 := Aside0.mk hbox; clear hbox; have n0_ := Aside0.mk (below_step HB.out hb); have m2_ := Aside0.mk (blk_below BK2.out hb); clear HB BK2 hb; have HB := n0_; have BK2 := m2_; clear n0_ m2_; have c2_0 : wn.cell? ⟨g2, 0, none⟩ = some (.string s) := (blk_cell BK2.out 0).trans rfl; have BK3 := BK30; clear BK30; have c3_0 : wn.cell? ⟨g3, 0, none⟩ = some (.int .i64 t) := (blk_cell BK3.out 0).trans rfl)
    | (go_at_call 71; (with_reducible refine (impl_isFilter.calls s t true _ Hh1.out).mono ?_); rintro e wn ⟨rfl, hb0⟩; (first | have hb := to_below_d hb0 | have hb := to_below_b hb0); clear hb0; have n0_ := Aside0.mk (below_step HB.out hb); have m2_ := Aside0.mk (blk_below BK2.out hb); have m3_ := Aside0.mk (blk_below BK3.out hb); clear HB BK2 BK3 hb; have HB := n0_; have BK2 := m2_; have BK3 := m3_; clear n0_ m2_ m3_; have c2_0 : wn.cell? ⟨g2, 0, none⟩ = some (.string s) := (blk_cell BK2.out 0).trans rfl; have c3_0 : wn.cell? ⟨g3, 0, none⟩ = some (.int .i64 t) := (blk_cell BK3.out 0).trans rfl)
    | ((with_reducible refine gate_dst (N := 6) rfl ?_); refine box_event ?hg (N := 6) ?hd (cs := #[.bool false]) (t := 4) ?hr ?_; (case hd => rfl); (case hg => rfl); (case hr => first | (go_simp; done) | (go_simp; rfl)); intro g6 hg wn hbox hb; have GE6 := Aside0.mk (by rw [hg]; exact below_size HB.out : w.heap.size ≤ g6); have NE2_6 := Aside0.mk (show g2 ≠ g6 by have := blk_lt BK2.out; omega); have NE3_6 := Aside0.mk (show g3 ≠ g6 by have := blk_lt BK3.out; omega); clear hg; have BK60 := Aside0.mk hbox; clear hbox; have n0_ := Aside0.mk (below_step HB.out hb); have m2_ := Aside0.mk (blk_below BK2.out hb); have m3_ := Aside0.mk (blk_below BK3.out hb); clear HB BK2 BK3 hb; have HB := n0_; have BK2 := m2_; have BK3 := m3_; clear n0_ m2_ m3_; have c2_0 : wn.cell? ⟨g2, 0, none⟩ = some (.string s) := (blk_cell BK2.out 0).trans rfl; have c3_0 : wn.cell? ⟨g3, 0, none⟩ = some (.int .i64 t) := (blk_cell BK3.out 0).trans rfl; have BK6 := BK60; clear BK60; have c6_0 : wn.cell? ⟨g6, 0, none⟩ = some (.bool false) := (blk_cell BK6.out 0).trans rfl; have z6_0 := blk_frozen BK6.out 0; have c2s : ∀ v, (wn.setCell ⟨g6, 0, none⟩ v).cell? ⟨g2, 0, none⟩ = some (.string s) := fun v => (blk_cell (blk_far BK2.out (p := ⟨g6, 0, none⟩) NE2_6.out v) 0).trans rfl)
    | (go_at_call 50; have p2 := blk_far BK2.out (p := ⟨g6, 0, none⟩) NE2_6.out (.bool false); have p3 := blk_far BK3.out (p := ⟨g6, 0, none⟩) NE3_6.out (.bool false); have p6 := blk_put BK6.out 0 (.bool false) (cs' := #[.bool (dlv s tn 0)]) rfl; have pb := below_set (j := 0) (v := .bool false) HB.out GE6.out; (with_reducible refine (waveOf_any s.size (by omega) 72 Tryd.f72 #[.pointer (some ⟨g2, 0, none⟩), .pointer (some ⟨g3, 0, none⟩), .pointer (some ⟨g6, 0, none⟩)] (fun i => dlv s tn (i + 1)) (fun i W => W.heap[g2]? = some (.cells #[.string s] 9 (0, 0)) ∧ W.heap[g3]? = some (.cells #[.int .i64 t] 2 (0, 0)) ∧ W.heap[g6]? = some (.cells #[.bool (dlv s tn i)] 4 (0, 0))) w.heap.size ((· = g6)) _ Tryd.func72 rfl (by kernel_rfl) ⟨p2, p3, p6⟩ (below_size pb) (by rintro _ rfl; exact blk_lt p6) ?st ?cl).mono ?_); (case st => exact fun i wa wb hI hs => ⟨(hs g2 (blk_lt p2)).trans hI.1, (hs g3 (blk_lt p3)).trans hI.2.1, (hs g6 (blk_lt p6)).trans hI.2.2⟩); (case cl => exact fun i hi wr hI hsz => (DebClo s (lback s i tn) t i (dlv s tn i) (dlv s tn (i + 1)) g2 g3 g6 w.heap.size wr hI.1 hI.2.1 hI.2.2 GE6.out (HLB.out i hi) (cnt s i tn) (lback_ones s i tn hi) (by have := cnt_le s i tn; omega) ht1 (HDL.out i)).mono fun e w' ⟨h1, h3, h4, h5⟩ => ⟨h1, ⟨blk_kept hI.1 h5 NE2_6.out, blk_kept hI.2.1 h5 NE3_6.out, h3⟩, h4, h5⟩); rintro e wn ⟨rfl, hI, hb, hk⟩; have n0_ := Aside0.mk (pb.trans hb); clear HB hb hI hk; have HB := n0_; clear n0_))
  go_ret2
  exact ⟨rfl, HB.out⟩
def impl_Debounce.f (a0 : ByteArray) (a1 : Int) : Option (ByteArray × Bool) :=
  (impl_isFilter.f a0 a1).bind fun t => if t = true then some (strOfNums (lvs (fun i => dlv a0 a1.toNat (i + 1)) a0.size), true) else some (⟨#[]⟩, false)
theorem impl_Debounce.calls (a0 : ByteArray) (a1 : Int) (r1 : ByteArray) (r2 : Bool) (w : World) (h : impl_Debounce.f a0 a1 = some (r1, r2)) :
    Calls Tryd.prog 38 #[.string a0, .int .i64 a1] w fun e w' => e = .returned (.tuple #[.string r1, .bool r2]) ∧ Below w.heap.size w w' := by
  unfold impl_Debounce.f at h
  obtain ⟨t, ht, h⟩ := Option.bind_eq_some_iff.mp h
  cases t with
  | false =>
    rw [if_neg (by simp)] at h
    simp only [Option.some.injEq, Prod.mk.injEq] at h
    obtain ⟨rfl, rfl⟩ := h
    exact Debounce_no a0 a1 w ht
  | true =>
    rw [if_pos rfl] at h
    simp only [Option.some.injEq, Prod.mk.injEq] at h
    obtain ⟨rfl, rfl⟩ := h
    exact Debounce_yes a0 a1 a1.toNat (by have := isFilter_true ht; omega) w ht
end Go.Proofs.YthkpnbelbaljdaaDoor.X
end
section
namespace Go.Proofs.YthkpnbelbaljdaaDoor.X
open Go.RowKit Go.Proofs.YthkpnbelbaljdaaDoorW.PrintWords Go.Proofs.YthkpnbelbaljdaaDoorW.PrintLast Go.Proofs.YthkpnbelbaljdaaDoorW.PrintMore
set_option linter.unusedVariables false
set_option linter.unusedSimpArgs false
set_option maxHeartbeats 4000000 in
set_option maxRecDepth 100000 in
theorem StretchPulses_no (s : ByteArray) (t : Int) (w : World) (h1 : impl_isFilter.f s t = some false) :
    Calls Tryd.prog 39 #[.string s, .int .i64 t] w fun e w' => e = .returned (.tuple #[.string ⟨#[]⟩, .bool false]) ∧ Below w.heap.size w w' := by
  have Hh1 := Aside0.mk h1
  clear h1
  have HB := Aside0.mk (Below.refl w.heap.size w)
  go_enter Tryd.func39, Tryd.ntmps39
  go_wp2_with (first
    | ((with_reducible refine gate_dst (N := 2) rfl ?_); refine box_event ?hg (N := 2) ?hd (cs := #[.string s]) (t := 9) ?hr ?_; (case hd => rfl); (case hg => rfl); (case hr => first | (go_simp; done) | (go_simp; rfl)); intro g2 hg wn hbox hb; have GE2 := Aside0.mk (by rw [hg]; exact below_size HB.out : w.heap.size ≤ g2); clear hg; have BK20 := Aside0.mk hbox; clear hbox; have n0_ := Aside0.mk (below_step HB.out hb); clear HB  hb; have HB := n0_; clear n0_ ; have BK2 := BK20; clear BK20; have c2_0 : wn.cell? ⟨g2, 0, none⟩ = some (.string s) := (blk_cell BK2.out 0).trans rfl)
    | ((with_reducible refine gate_dst (N := 3) rfl ?_); refine box_event ?hg (N := 3) ?hd (cs := #[.int .i64 t]) (t := 2) ?hr ?_; (case hd => rfl); (case hg => rfl); (case hr => first | (go_simp; done) | (go_simp; rfl)); intro g3 hg wn hbox hb; have GE3 := Aside0.mk (by rw [hg]; exact below_size HB.out : w.heap.size ≤ g3); have NE2_3 := Aside0.mk (show g2 ≠ g3 by have := blk_lt BK2.out; omega); clear hg; have BK30 := Aside0.mk hbox; clear hbox; have n0_ := Aside0.mk (below_step HB.out hb); have m2_ := Aside0.mk (blk_below BK2.out hb); clear HB BK2 hb; have HB := n0_; have BK2 := m2_; clear n0_ m2_; have c2_0 : wn.cell? ⟨g2, 0, none⟩ = some (.string s) := (blk_cell BK2.out 0).trans rfl; have BK3 := BK30; clear BK30; have c3_0 : wn.cell? ⟨g3, 0, none⟩ = some (.int .i64 t) := (blk_cell BK3.out 0).trans rfl)
    | (go_at_call 71; (with_reducible refine (impl_isFilter.calls s t false _ Hh1.out).mono ?_); rintro e wn ⟨rfl, hb0⟩; (first | have hb := to_below_d hb0 | have hb := to_below_b hb0); clear hb0; have n0_ := Aside0.mk (below_step HB.out hb); have m2_ := Aside0.mk (blk_below BK2.out hb); have m3_ := Aside0.mk (blk_below BK3.out hb); clear HB BK2 BK3 hb; have HB := n0_; have BK2 := m2_; have BK3 := m3_; clear n0_ m2_ m3_; have c2_0 : wn.cell? ⟨g2, 0, none⟩ = some (.string s) := (blk_cell BK2.out 0).trans rfl; have c3_0 : wn.cell? ⟨g3, 0, none⟩ = some (.int .i64 t) := (blk_cell BK3.out 0).trans rfl))
  go_ret2
  exact ⟨rfl, HB.out⟩
set_option maxHeartbeats 4000000 in
set_option maxRecDepth 100000 in
theorem StretchPulses_yes (s : ByteArray) (t : Int) (w : World) (h1 : impl_isFilter.f s t = some true) :
    Calls Tryd.prog 39 #[.string s, .int .i64 t] w fun e w' => e = .returned (.tuple #[.string (strOfNums (lvs (fun i => decide (0 < cnt s i t.toNat)) s.size)), .bool true]) ∧ Below w.heap.size w w' := by
  have Hh1 := Aside0.mk h1
  clear h1
  have HB := Aside0.mk (Below.refl w.heap.size w)
  obtain ⟨hs, hL, ht1, ht2⟩ := isFilter_true Hh1.out
  obtain ⟨tn, htn⟩ : ∃ n : Nat, t = n := ⟨t.toNat, by omega⟩
  have htn2 : t.toNat = tn := by omega
  have HLV : Aside0 (∀ i, i < s.size → decide (0 ≤ Lib.indexByte (lback s i tn).data.toList 49) = (fun i => decide (0 < cnt s i t.toNat)) i) := ⟨fun i hi => by rw [decide_eq_decide, index_ones, lback_ones s i tn hi, htn2]⟩
  have HLB : Aside0 (∀ i : Nat, i < s.size → impl_levelsBack.f s i t = some (lback s i tn)) := ⟨fun i hi => by rw [htn]; exact levelsBack_eq s hs i tn hi (by omega) (by omega)⟩
  have HTN := Aside0.mk htn
  have htn3 : tn ≤ 50 := by omega
  clear htn htn2
  go_enter Tryd.func39, Tryd.ntmps39
  go_wp2_with (first
    | ((with_reducible refine gate_dst (N := 2) rfl ?_); refine box_event ?hg (N := 2) ?hd (cs := #[.string s]) (t := 9) ?hr ?_; (case hd => rfl); (case hg => rfl); (case hr => first | (go_simp; done) | (go_simp; rfl)); intro g2 hg wn hbox hb; have GE2 := Aside0.mk (by rw [hg]; exact below_size HB.out : w.heap.size ≤ g2); clear hg; have BK20 := Aside0.mk hbox; clear hbox; have n0_ := Aside0.mk (below_step HB.out hb); clear HB  hb; have HB := n0_; clear n0_ ; have BK2 := BK20; clear BK20; have c2_0 : wn.cell? ⟨g2, 0, none⟩ = some (.string s) := (blk_cell BK2.out 0).trans rfl)
    | ((with_reducible refine gate_dst (N := 3) rfl ?_); refine box_event ?hg (N := 3) ?hd (cs := #[.int .i64 t]) (t := 2) ?hr ?_; (case hd => rfl); (case hg => rfl); (case hr => first | (go_simp; done) | (go_simp; rfl)); intro g3 hg wn hbox hb; have GE3 := Aside0.mk (by rw [hg]; exact below_size HB.out : w.heap.size ≤ g3); have NE2_3 := Aside0.mk (show g2 ≠ g3 by have := blk_lt BK2.out; omega); clear hg; have BK30 := Aside0.mk hbox; clear hbox; have n0_ := Aside0.mk (below_step HB.out hb); have m2_ := Aside0.mk (blk_below BK2.out hb); clear HB BK2 hb; have HB := n0_; have BK2 := m2_; clear n0_ m2_; have c2_0 : wn.cell? ⟨g2, 0, none⟩ = some (.string s) := (blk_cell BK2.out 0).trans rfl; have BK3 := BK30; clear BK30; have c3_0 : wn.cell? ⟨g3, 0, none⟩ = some (.int .i64 t) := (blk_cell BK3.out 0).trans rfl)
    | (go_at_call 71; (with_reducible refine (impl_isFilter.calls s t true _ Hh1.out).mono ?_); rintro e wn ⟨rfl, hb0⟩; (first | have hb := to_below_d hb0 | have hb := to_below_b hb0); clear hb0; have n0_ := Aside0.mk (below_step HB.out hb); have m2_ := Aside0.mk (blk_below BK2.out hb); have m3_ := Aside0.mk (blk_below BK3.out hb); clear HB BK2 BK3 hb; have HB := n0_; have BK2 := m2_; have BK3 := m3_; clear n0_ m2_ m3_; have c2_0 : wn.cell? ⟨g2, 0, none⟩ = some (.string s) := (blk_cell BK2.out 0).trans rfl; have c3_0 : wn.cell? ⟨g3, 0, none⟩ = some (.int .i64 t) := (blk_cell BK3.out 0).trans rfl)
    | (go_at_call 50; (with_reducible refine (waveOf_any s.size (by omega) 75 Tryd.f75 #[.pointer (some ⟨g2, 0, none⟩), .pointer (some ⟨g3, 0, none⟩)] (fun i => decide (0 < cnt s i t.toNat)) (fun _ W => W.heap[g2]? = some (.cells #[.string s] 9 (0, 0)) ∧ W.heap[g3]? = some (.cells #[.int .i64 t] 2 (0, 0))) w.heap.size (fun _ => False) _ Tryd.func75 rfl (by kernel_rfl) ⟨BK2.out, BK3.out⟩ (below_size HB.out) (fun _ hk => hk.elim) ?st ?cl).mono ?_); (case st => exact fun i wa wb hI hs => ⟨(hs g2 (blk_lt BK2.out)).trans hI.1, (hs g3 (blk_lt BK3.out)).trans hI.2⟩); (case cl => exact fun i hi wr hI hsz => (StretchClo s (lback s i tn) t i g2 g3 wr hI.1 hI.2 (HLB.out i hi)).mono fun e w' ⟨h1, h2⟩ => ⟨h1.trans (by rw [HLV.out i hi]), ⟨blk_below hI.1 h2, blk_below hI.2 h2⟩, h2.mono (Nat.le_trans (below_size HB.out) hsz), Kept.of_below h2 _⟩); rintro e wn ⟨rfl, hI, hb, hk⟩; have n0_ := Aside0.mk (HB.out.trans hb); clear HB hb hI hk; have HB := n0_; clear n0_))
  go_ret2
  exact ⟨rfl, HB.out⟩
def impl_StretchPulses.f (a0 : ByteArray) (a1 : Int) : Option (ByteArray × Bool) :=
  (impl_isFilter.f a0 a1).bind fun t => if t = true then some (strOfNums (lvs (fun i => decide (0 < cnt a0 i a1.toNat)) a0.size), true) else some (⟨#[]⟩, false)
theorem impl_StretchPulses.calls (a0 : ByteArray) (a1 : Int) (r1 : ByteArray) (r2 : Bool) (w : World) (h : impl_StretchPulses.f a0 a1 = some (r1, r2)) :
    Calls Tryd.prog 39 #[.string a0, .int .i64 a1] w fun e w' => e = .returned (.tuple #[.string r1, .bool r2]) ∧ Below w.heap.size w w' := by
  unfold impl_StretchPulses.f at h
  obtain ⟨t, ht, h⟩ := Option.bind_eq_some_iff.mp h
  cases t with
  | false =>
    rw [if_neg (by simp)] at h
    simp only [Option.some.injEq, Prod.mk.injEq] at h
    obtain ⟨rfl, rfl⟩ := h
    exact StretchPulses_no a0 a1 w ht
  | true =>
    rw [if_pos rfl] at h
    simp only [Option.some.injEq, Prod.mk.injEq] at h
    obtain ⟨rfl, rfl⟩ := h
    exact StretchPulses_yes a0 a1 w ht
end Go.Proofs.YthkpnbelbaljdaaDoor.X
end
section
namespace Go.Proofs.YthkpnbelbaljdaaDoor.X
open Go.RowKit Go.Proofs.YthkpnbelbaljdaaDoorW.PrintWords Go.Proofs.YthkpnbelbaljdaaDoorW.PrintLast Go.Proofs.YthkpnbelbaljdaaDoorW.PrintMore
set_option linter.unusedVariables false
set_option linter.unusedSimpArgs false
set_option maxHeartbeats 4000000 in
set_option maxRecDepth 100000 in
theorem MajorityWave_no (s : ByteArray) (t : Int) (w : World) (h1 : impl_isFilter.f s t = some false) :
    Calls Tryd.prog 43 #[.string s, .int .i64 t] w fun e w' => e = .returned (.tuple #[.string ⟨#[]⟩, .bool false]) ∧ Below w.heap.size w w' := by
  have Hh1 := Aside0.mk h1
  clear h1
  have HB := Aside0.mk (Below.refl w.heap.size w)
  go_enter Tryd.func43, Tryd.ntmps43
  go_wp2_with (first
    | ((with_reducible refine gate_dst (N := 2) rfl ?_); refine box_event ?hg (N := 2) ?hd (cs := #[.string s]) (t := 9) ?hr ?_; (case hd => rfl); (case hg => rfl); (case hr => first | (go_simp; done) | (go_simp; rfl)); intro g2 hg wn hbox hb; have GE2 := Aside0.mk (by rw [hg]; exact below_size HB.out : w.heap.size ≤ g2); clear hg; have BK20 := Aside0.mk hbox; clear hbox; have n0_ := Aside0.mk (below_step HB.out hb); clear HB  hb; have HB := n0_; clear n0_ ; have BK2 := BK20; clear BK20; have c2_0 : wn.cell? ⟨g2, 0, none⟩ = some (.string s) := (blk_cell BK2.out 0).trans rfl)
    | ((with_reducible refine gate_dst (N := 3) rfl ?_); refine box_event ?hg (N := 3) ?hd (cs := #[.int .i64 t]) (t := 2) ?hr ?_; (case hd => rfl); (case hg => rfl); (case hr => first | (go_simp; done) | (go_simp; rfl)); intro g3 hg wn hbox hb; have GE3 := Aside0.mk (by rw [hg]; exact below_size HB.out : w.heap.size ≤ g3); have NE2_3 := Aside0.mk (show g2 ≠ g3 by have := blk_lt BK2.out; omega); clear hg; have BK30 := Aside0.mk hbox; clear hbox; have n0_ := Aside0.mk (below_step HB.out hb); have m2_ := Aside0.mk (blk_below BK2.out hb); clear HB BK2 hb; have HB := n0_; have BK2 := m2_; clear n0_ m2_; have c2_0 : wn.cell? ⟨g2, 0, none⟩ = some (.string s) := (blk_cell BK2.out 0).trans rfl; have BK3 := BK30; clear BK30; have c3_0 : wn.cell? ⟨g3, 0, none⟩ = some (.int .i64 t) := (blk_cell BK3.out 0).trans rfl)
    | (go_at_call 71; (with_reducible refine (impl_isFilter.calls s t false _ Hh1.out).mono ?_); rintro e wn ⟨rfl, hb0⟩; (first | have hb := to_below_d hb0 | have hb := to_below_b hb0); clear hb0; have n0_ := Aside0.mk (below_step HB.out hb); have m2_ := Aside0.mk (blk_below BK2.out hb); have m3_ := Aside0.mk (blk_below BK3.out hb); clear HB BK2 BK3 hb; have HB := n0_; have BK2 := m2_; have BK3 := m3_; clear n0_ m2_ m3_; have c2_0 : wn.cell? ⟨g2, 0, none⟩ = some (.string s) := (blk_cell BK2.out 0).trans rfl; have c3_0 : wn.cell? ⟨g3, 0, none⟩ = some (.int .i64 t) := (blk_cell BK3.out 0).trans rfl))
  go_ret2
  exact ⟨rfl, HB.out⟩
set_option maxHeartbeats 4000000 in
set_option maxRecDepth 100000 in
theorem MajorityWave_no0 (s : ByteArray) (t : Int) (hz : (t.tmod 2 == 0) = true) (w : World) (h1 : impl_isFilter.f s t = some true) :
    Calls Tryd.prog 43 #[.string s, .int .i64 t] w fun e w' => e = .returned (.tuple #[.string ⟨#[]⟩, .bool false]) ∧ Below w.heap.size w w' := by
  have Hh1 := Aside0.mk h1
  clear h1
  have HB := Aside0.mk (Below.refl w.heap.size w)
  have hz1 : (t.tmod 2 == 0) = true := hz
  go_enter Tryd.func43, Tryd.ntmps43
  go_wp2_with (first
    | ((with_reducible refine gate_dst (N := 2) rfl ?_); refine box_event ?hg (N := 2) ?hd (cs := #[.string s]) (t := 9) ?hr ?_; (case hd => rfl); (case hg => rfl); (case hr => first | (go_simp; done) | (go_simp; rfl)); intro g2 hg wn hbox hb; have GE2 := Aside0.mk (by rw [hg]; exact below_size HB.out : w.heap.size ≤ g2); clear hg; have BK20 := Aside0.mk hbox; clear hbox; have n0_ := Aside0.mk (below_step HB.out hb); clear HB  hb; have HB := n0_; clear n0_ ; have BK2 := BK20; clear BK20; have c2_0 : wn.cell? ⟨g2, 0, none⟩ = some (.string s) := (blk_cell BK2.out 0).trans rfl)
    | ((with_reducible refine gate_dst (N := 3) rfl ?_); refine box_event ?hg (N := 3) ?hd (cs := #[.int .i64 t]) (t := 2) ?hr ?_; (case hd => rfl); (case hg => rfl); (case hr => first | (go_simp; done) | (go_simp; rfl)); intro g3 hg wn hbox hb; have GE3 := Aside0.mk (by rw [hg]; exact below_size HB.out : w.heap.size ≤ g3); have NE2_3 := Aside0.mk (show g2 ≠ g3 by have := blk_lt BK2.out; omega); clear hg; have BK30 := Aside0.mk hbox; clear hbox; have n0_ := Aside0.mk (below_step HB.out hb); have m2_ := Aside0.mk (blk_below BK2.out hb); clear HB BK2 hb; have HB := n0_; have BK2 := m2_; clear n0_ m2_; have c2_0 : wn.cell? ⟨g2, 0, none⟩ = some (.string s) := (blk_cell BK2.out 0).trans rfl; have BK3 := BK30; clear BK30; have c3_0 : wn.cell? ⟨g3, 0, none⟩ = some (.int .i64 t) := (blk_cell BK3.out 0).trans rfl)
    | (go_at_call 71; (with_reducible refine (impl_isFilter.calls s t true _ Hh1.out).mono ?_); rintro e wn ⟨rfl, hb0⟩; (first | have hb := to_below_d hb0 | have hb := to_below_b hb0); clear hb0; have n0_ := Aside0.mk (below_step HB.out hb); have m2_ := Aside0.mk (blk_below BK2.out hb); have m3_ := Aside0.mk (blk_below BK3.out hb); clear HB BK2 BK3 hb; have HB := n0_; have BK2 := m2_; have BK3 := m3_; clear n0_ m2_ m3_; have c2_0 : wn.cell? ⟨g2, 0, none⟩ = some (.string s) := (blk_cell BK2.out 0).trans rfl; have c3_0 : wn.cell? ⟨g3, 0, none⟩ = some (.int .i64 t) := (blk_cell BK3.out 0).trans rfl))
  go_ret2
  exact ⟨rfl, HB.out⟩
set_option maxHeartbeats 4000000 in
set_option maxRecDepth 100000 in
theorem MajorityWave_yes (s : ByteArray) (t : Int) (hz : (t.tmod 2 == 0) = false) (w : World) (h1 : impl_isFilter.f s t = some true) :
    Calls Tryd.prog 43 #[.string s, .int .i64 t] w fun e w' => e = .returned (.tuple #[.string (strOfNums (lvs (fun i => decide (2 * (cnt s i t.toNat : Int) > t)) s.size)), .bool true]) ∧ Below w.heap.size w w' := by
  have Hh1 := Aside0.mk h1
  clear h1
  have HB := Aside0.mk (Below.refl w.heap.size w)
  obtain ⟨hs, hL, ht1, ht2⟩ := isFilter_true Hh1.out
  obtain ⟨tn, htn⟩ : ∃ n : Nat, t = n := ⟨t.toNat, by omega⟩
  have htn2 : t.toNat = tn := by omega
  have hz1 : (t.tmod 2 == 0) = false := hz
  have hz2 : (t % 2 == 0) = false := by rw [← tmodp (show 0 ≤ t by omega)]; exact hz
  have HLV : Aside0 (∀ i, i < s.size → decide (2 * (cnt s i tn : Int) > t) = (fun i => decide (2 * (cnt s i t.toNat : Int) > t)) i) := ⟨fun i hi => by rw [htn2]⟩
  have HLB : Aside0 (∀ i : Nat, i < s.size → impl_levelsBack.f s i t = some (lback s i tn)) := ⟨fun i hi => by rw [htn]; exact levelsBack_eq s hs i tn hi (by omega) (by omega)⟩
  have HTN := Aside0.mk htn
  have htn3 : tn ≤ 50 := by omega
  clear htn htn2
  go_enter Tryd.func43, Tryd.ntmps43
  go_wp2_with (first
    | ((with_reducible refine gate_dst (N := 2) rfl ?_); refine box_event ?hg (N := 2) ?hd (cs := #[.string s]) (t := 9) ?hr ?_; (case hd => rfl); (case hg => rfl); (case hr => first | (go_simp; done) | (go_simp; rfl)); intro g2 hg wn hbox hb; have GE2 := Aside0.mk (by rw [hg]; exact below_size HB.out : w.heap.size ≤ g2); clear hg; have BK20 := Aside0.mk hbox; clear hbox; have n0_ := Aside0.mk (below_step HB.out hb); clear HB  hb; have HB := n0_; clear n0_ ; have BK2 := BK20; clear BK20; have c2_0 : wn.cell? ⟨g2, 0, none⟩ = some (.string s) := (blk_cell BK2.out 0).trans rfl)
    | ((with_reducible refine gate_dst (N := 3) rfl ?_); refine box_event ?hg (N := 3) ?hd (cs := #[.int .i64 t]) (t := 2) ?hr ?_; (case hd => rfl); (case hg => rfl); (case hr => first | (go_simp; done) | (go_simp; rfl)); intro g3 hg wn hbox hb; have GE3 := Aside0.mk (by rw [hg]; exact below_size HB.out : w.heap.size ≤ g3); have NE2_3 := Aside0.mk (show g2 ≠ g3 by have := blk_lt BK2.out; omega); clear hg; have BK30 := Aside0.mk hbox; clear hbox; have n0_ := Aside0.mk (below_step HB.out hb); have m2_ := Aside0.mk (blk_below BK2.out hb); clear HB BK2 hb; have HB := n0_; have BK2 := m2_; clear n0_ m2_; have c2_0 : wn.cell? ⟨g2, 0, none⟩ = some (.string s) := (blk_cell BK2.out 0).trans rfl; have BK3 := BK30; clear BK30; have c3_0 : wn.cell? ⟨g3, 0, none⟩ = some (.int .i64 t) := (blk_cell BK3.out 0).trans rfl)
    | (go_at_call 71; (with_reducible refine (impl_isFilter.calls s t true _ Hh1.out).mono ?_); rintro e wn ⟨rfl, hb0⟩; (first | have hb := to_below_d hb0 | have hb := to_below_b hb0); clear hb0; have n0_ := Aside0.mk (below_step HB.out hb); have m2_ := Aside0.mk (blk_below BK2.out hb); have m3_ := Aside0.mk (blk_below BK3.out hb); clear HB BK2 BK3 hb; have HB := n0_; have BK2 := m2_; have BK3 := m3_; clear n0_ m2_ m3_; have c2_0 : wn.cell? ⟨g2, 0, none⟩ = some (.string s) := (blk_cell BK2.out 0).trans rfl; have c3_0 : wn.cell? ⟨g3, 0, none⟩ = some (.int .i64 t) := (blk_cell BK3.out 0).trans rfl)
    | (go_at_call 50; (with_reducible refine (waveOf_any s.size (by omega) 78 Tryd.f78 #[.pointer (some ⟨g2, 0, none⟩), .pointer (some ⟨g3, 0, none⟩)] (fun i => decide (2 * (cnt s i t.toNat : Int) > t)) (fun _ W => W.heap[g2]? = some (.cells #[.string s] 9 (0, 0)) ∧ W.heap[g3]? = some (.cells #[.int .i64 t] 2 (0, 0))) w.heap.size (fun _ => False) _ Tryd.func78 rfl (by kernel_rfl) ⟨BK2.out, BK3.out⟩ (below_size HB.out) (fun _ hk => hk.elim) ?st ?cl).mono ?_); (case st => exact fun i wa wb hI hs => ⟨(hs g2 (blk_lt BK2.out)).trans hI.1, (hs g3 (blk_lt BK3.out)).trans hI.2⟩); (case cl => exact fun i hi wr hI hsz => (MajorClo s (lback s i tn) t i g2 g3 wr hI.1 hI.2 (HLB.out i hi) (cnt s i tn) (lback_ones s i tn hi) (by have := cnt_le s i tn; omega)).mono fun e w' ⟨h1, h2⟩ => ⟨h1.trans (by rw [HLV.out i hi]), ⟨blk_below hI.1 h2, blk_below hI.2 h2⟩, h2.mono (Nat.le_trans (below_size HB.out) hsz), Kept.of_below h2 _⟩); rintro e wn ⟨rfl, hI, hb, hk⟩; have n0_ := Aside0.mk (HB.out.trans hb); clear HB hb hI hk; have HB := n0_; clear n0_))
  go_ret2
  exact ⟨rfl, HB.out⟩
def impl_MajorityWave.f (a0 : ByteArray) (a1 : Int) : Option (ByteArray × Bool) :=
  (impl_isFilter.f a0 a1).bind fun t => if t = true then (if (a1.tmod 2 == 0) = true then some (⟨#[]⟩, false) else some (strOfNums (lvs (fun i => decide (2 * (cnt a0 i a1.toNat : Int) > a1)) a0.size), true)) else some (⟨#[]⟩, false)
theorem impl_MajorityWave.calls (a0 : ByteArray) (a1 : Int) (r1 : ByteArray) (r2 : Bool) (w : World) (h : impl_MajorityWave.f a0 a1 = some (r1, r2)) :
    Calls Tryd.prog 43 #[.string a0, .int .i64 a1] w fun e w' => e = .returned (.tuple #[.string r1, .bool r2]) ∧ Below w.heap.size w w' := by
  unfold impl_MajorityWave.f at h
  obtain ⟨t, ht, h⟩ := Option.bind_eq_some_iff.mp h
  cases t with
  | false =>
    rw [if_neg (by simp)] at h
    simp only [Option.some.injEq, Prod.mk.injEq] at h
    obtain ⟨rfl, rfl⟩ := h
    exact MajorityWave_no a0 a1 w ht
  | true =>
    rw [if_pos rfl] at h
    cases hz : (a1.tmod 2 == 0) with
    | true =>
      rw [hz, if_pos rfl] at h
      simp only [Option.some.injEq, Prod.mk.injEq] at h
      obtain ⟨rfl, rfl⟩ := h
      exact MajorityWave_no0 a0 a1 hz w ht
    | false =>
      rw [hz, if_neg (by decide)] at h
      simp only [Option.some.injEq, Prod.mk.injEq] at h
      obtain ⟨rfl, rfl⟩ := h
      exact MajorityWave_yes a0 a1 hz w ht
end Go.Proofs.YthkpnbelbaljdaaDoor.X
end
section
end
section
-- Written by a program of this session out of the kit's print of the loaded functions: a plain function of a Go function, and its contract.
namespace Go.Proofs.YthkpnbelbaljdaaDoor.X
open Go.RowKit Go.Proofs.YthkpnbelbaljdaaDoorW.PrintWords Go.Proofs.YthkpnbelbaljdaaDoorW.PrintLast Go.Proofs.YthkpnbelbaljdaaDoorW.PrintMore
attribute [local go_sem] max2_int min2_int max_two min_two max_three min_three max_four min_four   -- for this text's walks alone
set_option linter.unusedVariables false
set_option linter.unusedSimpArgs false
mutual
def impl_ShortPulses.j0 : Nat → ByteArray → Int → Bool → Option (List Int × Bool)
 | 0, _, _, _ => none
 | k + 1, x0, x1, x16 => if x16 = true then (some (([] : List Int), false)) else ((impl_pulses.f k x0).bind fun t422 => (impl_ShortPulses.l0 k x0 x1 (([] : List Int)) t422 (t422.length : Int) 0))
def impl_ShortPulses.l0 : Nat → ByteArray → Int → List Int → List (S61) → Int → Int → Option (List Int × Bool)
 | 0, _, _, _, _, _, _ => none
 | k + 1, x0, x1, x6, x19, x20, x21 => if x21 < x20 then (if 0 ≤ x21 then (if x21 < (x19.length : Int) then (if ((rd_T61 x19 x21).f1) < x1 then (if (wrap64 (((rd_T61 x19 x21).f0) + ((rd_T61 x19 x21).f1))) < (x0.size : Int) then (if x6.length < 17592186044416 then (impl_ShortPulses.l0 k x0 x1 (x6 ++ [(rd_T61 x19 x21).f0]) x19 x20 (wrap64 (x21 + 1))) else (none)) else (impl_ShortPulses.l0 k x0 x1 x6 x19 x20 (wrap64 (x21 + 1)))) else (impl_ShortPulses.l0 k x0 x1 x6 x19 x20 (wrap64 (x21 + 1)))) else (none)) else (none)) else (some (x6, true))
end
def impl_ShortPulses.f (k : Nat) (a0 : ByteArray) (a1 : Int) : Option (List Int × Bool) := (impl_IsWave.f a0).bind fun t417 => (if t417 = true then ((impl_within.f a1 1 400).bind fun t418 => (impl_ShortPulses.j0 k a0 a1 (!t418))) else (impl_ShortPulses.j0 k a0 a1 true))
set_option maxHeartbeats 8000000 in
set_option maxRecDepth 100000 in
theorem impl_ShortPulses.calls (k : Nat) (a0 : ByteArray) (a1 : Int) (r1 : List Int) (r2 : Bool) (w : World) (h : impl_ShortPulses.f k a0 a1 = some (r1, r2)) :
  Calls Tryd.prog 34 #[.string a0, .int .i64 a1] w fun e w' => ∃ v0_ : Value, e = .returned (.tuple #[v0_, .bool r2]) ∧ Kd.R (Kd.int .i64) 2 w' w.heap.size (fun _ => True) v0_ r1 ∧ Below w.heap.size w w' := by
 have hu61 := Tryd.underlying61
 have HB := Aside0.mk (Below.refl w.heap.size w)
 have H : ((impl_IsWave.f a0).bind fun t417 => (if t417 = true then ((impl_within.f a1 1 400).bind fun t418 => (impl_ShortPulses.j0 k a0 a1 (!t418))) else (impl_ShortPulses.j0 k a0 a1 true))) = some (r1, r2) := h
 clear h
 have HC3 := Aside0.mk H
 clear H
 go_enter Tryd.func34, Tryd.ntmps34
 go_upto_region 1 with (fail)
 go_cut [16] (fun v16 wc => ∃ (kq : Nat) (x16_2 : Bool), v16 = .bool x16_2 ∧ Aside0 (impl_ShortPulses.j0 kq a0 a1 x16_2 = some (r1, r2)) ∧ Aside0 (kq ≤ k) ∧ Aside0 (Below w.heap.size w wc))
 case first =>
  have H := HC3.out
  clear HC3
  replace H := Option.bind_eq_some_iff.mp H
  obtain ⟨t417, A40, H⟩ := H
  replace H : (if t417 = true then ((impl_within.f a1 1 400).bind fun t418 => (impl_ShortPulses.j0 k a0 a1 (!t418))) else (impl_ShortPulses.j0 k a0 a1 true)) = some (r1, r2) := H
  have A4 := Aside0.mk A40
  clear A40
  by_cases c5 : t417 = true
  ·subst c5
   have H1 : ((impl_within.f a1 1 400).bind fun t418 => (impl_ShortPulses.j0 k a0 a1 (!t418))) = some (r1, r2) := by rw [if_pos rfl] at H; exact H
   clear H
   have H := H1
   clear H1
   replace H := Option.bind_eq_some_iff.mp H
   obtain ⟨t418, A60, H⟩ := H
   replace H : (impl_ShortPulses.j0 k a0 a1 (!t418)) = some (r1, r2) := H
   have A6 := Aside0.mk A60
   clear A60
   have H' := Aside0.mk H
   clear H
   go_wp2_with (first | ((with_reducible refine gate_callee (f := 69) rfl ?_); refine goesL_ (some 10) rfl rfl Tryd.func69 (by kernel_rfl) rfl #[.string a0] rfl (by (try simp only [List.map_toArray, List.map_cons, List.map_nil]); first | done | rfl | (simp only [List.length_drop, List.length_take]; rfl)) ?_; (with_reducible refine (impl_IsWave.calls a0 true _ A4.out).mono ?_); rintro e w7 ⟨rfl, hb⟩; refine ⟨_, rfl, ?_⟩; have n0_ := Aside0.mk (below_step (by repeat (first | (with_reducible first | exact HB.out | apply below_alloc | apply pw_below_drewN | apply below_drew1) | exact HB.out)) hb); clear HB; have HB := n0_; clear n0_; (try clear hb); (try clear hb2); (try clear hk); (try clear hi)) | (go_at_call 48; (with_reducible refine (impl_within.calls a1 1 400 t418 _ A6.out).mono ?_); rintro e w' ⟨rfl, ⟨nd, rfl⟩⟩))
   go_meet
   case rel => exact ⟨_, (!t418), (by first | rfl | (simp; done) | (simp [*]; done)), H', ⟨by first | omega | exact Nat.le_refl _⟩, ⟨by repeat (first | (with_reducible first | exact HB.out | apply below_alloc | apply pw_below_drewN | apply below_drew1) | exact HB.out)⟩⟩
  ·replace c5 := Bool.eq_false_iff.mpr c5
   subst c5
   have H1 : (impl_ShortPulses.j0 k a0 a1 true) = some (r1, r2) := by rw [if_neg (show ¬ (false = true) by decide)] at H; exact H
   clear H
   have H := H1
   clear H1
   have H' := Aside0.mk H
   clear H
   go_wp2_with (first | ((with_reducible refine gate_callee (f := 69) rfl ?_); refine goesL_ (some 10) rfl rfl Tryd.func69 (by kernel_rfl) rfl #[.string a0] rfl (by (try simp only [List.map_toArray, List.map_cons, List.map_nil]); first | done | rfl | (simp only [List.length_drop, List.length_take]; rfl)) ?_; (with_reducible refine (impl_IsWave.calls a0 false _ A4.out).mono ?_); rintro e w8 ⟨rfl, hb⟩; refine ⟨_, rfl, ?_⟩; have n0_ := Aside0.mk (below_step (by repeat (first | (with_reducible first | exact HB.out | apply below_alloc | apply pw_below_drewN | apply below_drew1) | exact HB.out)) hb); clear HB; have HB := n0_; clear n0_; (try clear hb); (try clear hb2); (try clear hk); (try clear hi)))
   go_meet
   case rel => exact ⟨_, (true), (by first | rfl | (simp; done) | (simp [*]; done)), H', ⟨by first | omega | exact Nat.le_refl _⟩, ⟨by repeat (first | (with_reducible first | exact HB.out | apply below_alloc | apply pw_below_drewN | apply below_drew1) | exact HB.out)⟩⟩
 case rest =>
  clear HC3
  try clear p2
  try clear c3
  try clear c5
  try clear c6
  obtain ⟨kq, x16_2, rfl, HA, HJ2, HB⟩ := hcut
  cases kq with
  | zero => exact absurd HA.out (by simp [impl_ShortPulses.j0])
  | succ kj2 =>
   have H := HA.out
   clear HA
   simp only [impl_ShortPulses.j0] at H
   by_cases c9 : x16_2 = true
   ·subst c9
    have H1 : (some (([] : List Int), false)) = some (r1, r2) := by rw [if_pos rfl] at H; exact H
    clear H
    have H := H1
    clear H1
    simp only [Option.some.injEq, Prod.mk.injEq] at H
    obtain ⟨rfl, rfl⟩ := H
    go_wp2
    go_ret2
    exact ⟨_, by first | rfl | (simp [errW_none, errW_some] <;> rfl) | (simp [*, errW_none, errW_some] <;> rfl), by first | exact Kd.R_nil _ _ _ _ _ | exact Kd.N_nil _ _ _ _ _ | exact Kd.V_nil _ _ _ _ _ | exact Kd.Q_nil _ _ _ _ _ | exact Kd.S_nil _ _ _ _ _, by repeat (first | (with_reducible first | exact HB.out | apply below_alloc | apply pw_below_drewN | apply below_drew1) | exact HB.out)⟩
   ·replace c9 := Bool.eq_false_iff.mpr c9
    subst c9
    have H1 : ((impl_pulses.f kj2 a0).bind fun t422 => (impl_ShortPulses.l0 kj2 a0 a1 (([] : List Int)) t422 (t422.length : Int) 0)) = some (r1, r2) := by rw [if_neg (show ¬ (false = true) by decide)] at H; exact H
    clear H
    have H := H1
    clear H1
    obtain ⟨y419, hy419⟩ : ∃ y_ : List Int, y_ = (([] : List Int)) := ⟨_, rfl⟩
    replace H : ((impl_pulses.f kj2 a0).bind fun t422 => (impl_ShortPulses.l0 kj2 a0 a1 y419 t422 (t422.length : Int) 0)) = some (r1, r2) := by first | (rw [hy419]; with_reducible exact H) | (have H2_ := (Option.bind_some _ _).symm.trans H; rw [hy419]; with_reducible exact H2_) | (have H2_ := (Option.bind_some _ _).symm.trans H; with_reducible exact H2_) | with_reducible exact H | (rw [hy419]; exact H) | exact H
    have Ny419 := Aside0.mk hy419
    clear hy419
    replace H := Option.bind_eq_some_iff.mp H
    obtain ⟨t422, A100, H⟩ := H
    replace H : (impl_ShortPulses.l0 kj2 a0 a1 y419 t422 (t422.length : Int) 0) = some (r1, r2) := H
    have A10 := Aside0.mk A100
    clear A100
    have H' := Aside0.mk H
    clear H
    go_wp2_with (first | ((with_reducible refine gate_dst (N := 17) rfl ?_); (try (refine gate_guard (by rfl) ?_; dsimp only)); refine Kd.R_lit (Kd.int .i64) _ 2 ?hg (N := 17) ?hd (xs := ([] : List Int)) (inner := []) (ok := fun _ => True) (okp := fun _ => True) ?hr ?hp (fun _ hk => hk) trivial (Below.refl _ _) (Nat.le_refl _) (by simp) ?_; (case hd => rfl); (case hg => rfl); (case hr => first | (go_simp; done) | (go_simp; rfl)); (case hp => exact (Reps.none _ _)); intro v420 w11 ho12 hb hg_ hnew_; clear hg_ hnew_; (first | rw [← Ny419.out] at ho12 | (simp only [Int.reduceToNat] at ho12; rw [← Ny419.out] at ho12)); have n0_ := Aside0.mk (Kd.R_lower ho12 (below_size (by repeat (first | (with_reducible first | exact HB.out | apply below_alloc | apply pw_below_drewN | apply below_drew1) | exact HB.out)))); have n1_ := Aside0.mk (below_step (by repeat (first | (with_reducible first | exact HB.out | apply below_alloc | apply pw_below_drewN | apply below_drew1) | exact HB.out)) hb); clear HB; have HO421 := n0_; have HB := n1_; clear n0_ n1_; clear hb ho12) | ((with_reducible refine gate_callee (f := 55) rfl ?_); refine goesL_ (some 19) rfl rfl Tryd.func55 (by kernel_rfl) rfl #[.string a0] rfl (by (try simp only [List.map_toArray, List.map_cons, List.map_nil]); first | done | rfl | (simp only [List.length_drop, List.length_take]; rfl)) ?_; (with_reducible refine (impl_pulses.calls kj2 a0 t422 _ A10.out).mono ?_); rintro e w13 ⟨v423, rfl, ho0, hb⟩; refine ⟨_, rfl, ?_⟩; have n0_ := Aside0.mk (Kd.R_below (by (with_reducible repeat (first | apply Kd.R_alloc | apply Kd.R_drewN | apply Kd.R_drew)); exact HO421.out) hb); have n1_ := Aside0.mk (Kd.R_lower ho0 (below_size (by repeat (first | (with_reducible first | exact HB.out | apply below_alloc | apply pw_below_drewN | apply below_drew1) | exact HB.out)))); have n2_ := Aside0.mk (below_step (by repeat (first | (with_reducible first | exact HB.out | apply below_alloc | apply pw_below_drewN | apply below_drew1) | exact HB.out)) hb); clear HO421; clear HB; have HO421 := n0_; have HO424 := n1_; have HB := n2_; clear n0_ n1_ n2_; (try clear hb); (try clear hb2); (try clear hk); (try clear hi); (try clear ho0); obtain ⟨Ao14, co14, eo14⟩ := Kd.R_slice HO424.out; subst eo14))
    go_loopg [6, 21] kj2 (fun kq v6 v21 w' => ∃ (x6_2 : List Int) (x21_2 : Int), v21 = .int .i64 x21_2 ∧ Aside0 (impl_ShortPulses.l0 kq a0 a1 x6_2 t422 (t422.length : Int) x21_2 = some (r1, r2)) ∧ Aside0 (kq ≤ kj2) ∧ Aside0 (Kd.R (Kd.int .i64) 2 w' w.heap.size (fun _ => True) v6 x6_2) ∧ Aside0 (Kd.R k61 61 w' w.heap.size (fun _ => True) (.slice Ao14 t422.length co14) t422) ∧ Aside0 (Below w.heap.size w w'))
    case atStart => exact ⟨(y419), (0), (by first | rfl | (simp; done) | (simp [*]; done)), H', ⟨Nat.le_refl _⟩, ⟨by (with_reducible repeat (first | apply Kd.R_alloc | apply Kd.R_drewN | apply Kd.R_drew)); exact HO421.out⟩, ⟨by (with_reducible repeat (first | apply Kd.R_alloc | apply Kd.R_drewN | apply Kd.R_drew)); exact HO424.out⟩, ⟨by repeat (first | (with_reducible first | exact HB.out | apply below_alloc | apply pw_below_drewN | apply below_drew1) | exact HB.out)⟩⟩
    case round =>
     clear H'
     try clear p2
     try clear c3
     try clear c5
     try clear c6
     try clear c9
     try clear p2
     obtain ⟨x6_2, x21_2, rfl, HA, HK2, HO_6, HO_19, HB⟩ := hrel
     cases gk with
     | zero => exact absurd HA.out (by simp [impl_ShortPulses.l0])
     | succ k2 =>
      have H := HA.out
      clear HA
      simp only [impl_ShortPulses.l0] at H
      by_cases c15 : x21_2 < (t422.length : Int)
      ·rw [if_pos c15] at H
       have c15b0 : decide (x21_2 < (t422.length : Int)) = true := decide_eq_true c15
       clear c15
       by_cases c16 : 0 ≤ x21_2
       ·rw [if_pos c16] at H
        have c16b0 : decide (0 ≤ x21_2) = true := decide_eq_true c16
        clear c16
        by_cases c17 : x21_2 < (t422.length : Int)
        ·rw [if_pos c17] at H
         have c17b0 : decide (x21_2 < (t422.length : Int)) = true := decide_eq_true c17
         clear c17
         by_cases c18 : ((rd_T61 t422 x21_2).f1) < a1
         ·rw [if_pos c18] at H
          have c18b0 : decide (((rd_T61 t422 x21_2).f1) < a1) = true := decide_eq_true c18
          clear c18
          by_cases c19 : (wrap64 (((rd_T61 t422 x21_2).f0) + ((rd_T61 t422 x21_2).f1))) < (a0.size : Int)
          ·rw [if_pos c19] at H
           have c19b0 : decide ((wrap64 (((rd_T61 t422 x21_2).f0) + ((rd_T61 t422 x21_2).f1))) < (a0.size : Int)) = true := decide_eq_true c19
           clear c19
           by_cases c20 : x6_2.length < 17592186044416
           ·rw [if_pos c20] at H
            have LMc20 := Aside0.mk c20
            clear c20
            obtain ⟨y427, hy427⟩ : ∃ y_ : List Int, y_ = (x6_2 ++ [(rd_T61 t422 x21_2).f0]) := ⟨_, rfl⟩
            replace H : (impl_ShortPulses.l0 k2 a0 a1 y427 t422 (t422.length : Int) (wrap64 (x21_2 + 1))) = some (r1, r2) := by first | (rw [hy427]; with_reducible exact H) | (have H2_ := (Option.bind_some _ _).symm.trans H; rw [hy427]; with_reducible exact H2_) | (have H2_ := (Option.bind_some _ _).symm.trans H; with_reducible exact H2_) | with_reducible exact H | (rw [hy427]; exact H) | exact H
            have Ny427 := Aside0.mk hy427
            clear hy427
            have H' := Aside0.mk H
            clear H
            have p425 : 0 ≤ (x21_2 : Int) := of_decide_eq_true (by first | (with_reducible assumption) | assumption)
            have q425 : x21_2 < (t422.length : Int) := of_decide_eq_true (by first | (with_reducible assumption) | assumption)
            obtain ⟨ad425, e425, hx425_0, hx425_1⟩ := at_T61 (Kd.R_reads' HO_19.out).2.2 x21_2 p425 q425
            cases e425
            replace p425 := eq_true p425
            replace q425 := eq_true q425
            go_wp2_with (first | ((with_reducible refine gate_dst (N := 8) rfl ?_); (try (refine gate_guard (by rfl) ?_; dsimp only)); refine box_event ?hg (N := 8) ?hd (cs := #[.int .i64 0, .int .i64 0]) (t := 61) ?hr ?_; (case hd => rfl); (case hg => rfl); (case hr => first | (go_simp; done) | (go_simp; rfl)); intro gb426 hg w21 hbox hb; have n0_ := Aside0.mk (Kd.R_below (by (with_reducible repeat (first | apply Kd.R_alloc | apply Kd.R_drewN | apply Kd.R_drew)); exact HO_6.out) hb); have n1_ := Aside0.mk (Kd.R_below (Kd.R_elderB (by (with_reducible repeat (first | apply Kd.R_alloc | apply Kd.R_drewN | apply Kd.R_drew)); exact HO_19.out) gb426 (Nat.le_of_eq hg.symm)) hb); have n2_ := Aside0.mk (below_step (by repeat (first | (with_reducible first | exact HB.out | apply below_alloc | apply pw_below_drewN | apply below_drew1) | exact HB.out)) hb); have n3_ := Aside0.mk (hbox); have n4_ := Aside0.mk ((by rw [hg]; exact (below_size (by repeat (first | (with_reducible first | exact HB.out | apply below_alloc | apply pw_below_drewN | apply below_drew1) | exact HB.out))) : w.heap.size ≤ gb426)); have n5_ := Aside0.mk ((by rw [hg]; exact (below_size (by repeat (first | (with_reducible first | exact HB.out | apply below_alloc | apply pw_below_drewN | apply below_drew1) | exact HB.out))) : w.heap.size ≤ gb426)); clear HO_6; clear HO_19; clear HB; have HO_6 := n0_; have HO_19 := n1_; have HB := n2_; have BK426 := n3_; have GW426 := n4_; have GE426 := n5_; clear n0_ n1_ n2_ n3_ n4_ n5_; clear hb hbox hg; have hcz22_0 : w21.cell? ⟨gb426, 0, none⟩ = some (.int .i64 0) := (blk_cell BK426.out 0).trans rfl; have hcz22_1 : w21.cell? ⟨gb426, 1, none⟩ = some (.int .i64 0) := (blk_cell BK426.out 1).trans rfl; have hfz22_0 := blk_frozen BK426.out 0; have hfz22_1 := blk_frozen BK426.out 1) | ((with_reducible refine gate_builtin (b := .append) (xs := #[.tmp 39, .tmp 42]) rfl ?_); (try (refine gate_guard (by rfl) ?_; dsimp only)); at_builtin; refine Kd.R_append (Kd.int .i64) (w0 := w) w.heap.size rfl (.tmp 39) (.tmp 42) 34 2 (.int .i64 0) 8 rfl Tryd.underlying34 info2 rfl (by decide) (by omega) u6 x6_2 ((rd_T61 t422 x21_2).f0) [.int .i64 ((rd_T61 t422 x21_2).f0)] (fun _ => True) (fun _ => False) rfl (by first | (go_simp; done) | (go_simp; rfl)) ?aP (fun _ hk => hk.elim) ?aF ?aO ?aB ?aS ?aL ?_; (case aP => exact rfl); (case aB => exact (by repeat (first | (with_reducible first | exact HB.out | apply below_alloc | apply pw_below_drewN | apply below_drew1 | refine below_set ?_ GE426.out) | exact HB.out))); (case aF => exact (fun _ _ => trivial)); (case aO => exact (by (with_reducible repeat (first | apply Kd.R_alloc | apply Kd.R_drewN | apply Kd.R_drew)); exact Kd.R_mono (Kd.R_far (p := ⟨gb426, 1, none⟩) (Kd.R_far (p := ⟨gb426, 0, none⟩) (Kd.R_types HO_6.out BK426.out (by decide)) (fun _ hk => hk.2) (.int .i64 ((rd_T61 t422 x21_2).f0))) (fun _ hk => hk.2) (.int .i64 ((rd_T61 t422 x21_2).f1))) (fun _ hk => trivial))); (case aS => exact (below_size (by repeat (first | (with_reducible first | exact HB.out | apply below_alloc | apply pw_below_drewN | apply below_drew1 | refine below_set ?_ GE426.out) | exact HB.out)))); (case aL => have := LMc20.out; omega); intro v428 w23 ho hb hg hat; rw [← Ny427.out] at ho; have n0_ := Aside0.mk (Kd.R_over' (by (with_reducible repeat (first | apply Kd.R_alloc | apply Kd.R_drewN | apply Kd.R_drew)); exact (Kd.R_mono (Kd.R_far (p := ⟨gb426, 1, none⟩) (Kd.R_far (p := ⟨gb426, 0, none⟩) (Kd.R_mono HO_19.out (fun k_ hk => (⟨hk, hk.2⟩ : _ ∧ k_ ≠ gb426))) (fun _ hk => hk.2) (.int .i64 ((rd_T61 t422 x21_2).f0))) (fun _ hk => hk.2) (.int .i64 ((rd_T61 t422 x21_2).f1))) (fun _ h_ => h_.1))) (Kd.R_typed (by (with_reducible repeat (first | apply Kd.R_alloc | apply Kd.R_drewN | apply Kd.R_drew)); exact (Kd.R_mono (Kd.R_far (p := ⟨gb426, 1, none⟩) (Kd.R_far (p := ⟨gb426, 0, none⟩) (Kd.R_types HO_6.out BK426.out (by decide)) (fun _ hk => hk.2) (.int .i64 ((rd_T61 t422 x21_2).f0))) (fun _ hk => hk.2) (.int .i64 ((rd_T61 t422 x21_2).f1))) (fun _ h_ => h_.1)))) (by decide) hg); have n1_ := Aside0.mk (blk_grown (g := gb426) (o := .cells #[.int .i64 ((rd_T61 t422 x21_2).f0), .int .i64 ((rd_T61 t422 x21_2).f1)] 61 (0, 0)) (by (with_reducible repeat (first | refine blk_drewN ?_ _ | refine blk_drew ?_ | refine blk_alloc ?_ _)); refine blk_put (cs := #[.int .i64 ((rd_T61 t422 x21_2).f0), .int .i64 0]) ?_ 1 _ rfl; (with_reducible repeat (first | refine blk_drewN ?_ _ | refine blk_drew ?_ | refine blk_alloc ?_ _)); refine blk_put (cs := #[.int .i64 0, .int .i64 0]) ?_ 0 _ rfl; (with_reducible repeat (first | refine blk_drewN ?_ _ | refine blk_drew ?_ | refine blk_alloc ?_ _)); exact BK426.out) hg (Kd.R_ne HO_6.out BK426.out (by decide))); have n2_ := Aside0.mk (hb); have n3_ := Aside0.mk (ho); clear HO_19; clear BK426; clear HB; clear HO_6; have HO_19 := n0_; have BK426 := n1_; have HB := n2_; have HO429 := n3_; clear n0_ n1_ n2_ n3_; clear ho hb hg hat))
            go_roundg k2
            case measure => have := HJ2.out; have := HK2.out; omega
            case rel => exact ⟨(y427), (wrap64 (x21_2 + 1)), (by first | rfl | (simp; done) | (simp [*]; done)), H', ⟨by have := HJ2.out; have := HK2.out; omega⟩, ⟨by (with_reducible repeat (first | apply Kd.R_alloc | apply Kd.R_drewN | apply Kd.R_drew)); exact HO429.out⟩, ⟨by (with_reducible repeat (first | apply Kd.R_alloc | apply Kd.R_drewN | apply Kd.R_drew)); exact Kd.R_mono HO_19.out (fun _ hk => trivial)⟩, ⟨by repeat (first | (with_reducible first | exact HB.out | apply below_alloc | apply pw_below_drewN | apply below_drew1 | refine below_set ?_ GE426.out) | exact HB.out)⟩⟩
           ·rw [if_neg c20] at H
            exact absurd H (by simp)
          ·rw [if_neg c19] at H
           have c19b0 : decide ((wrap64 (((rd_T61 t422 x21_2).f0) + ((rd_T61 t422 x21_2).f1))) < (a0.size : Int)) = false := decide_eq_false c19
           clear c19
           have H' := Aside0.mk H
           clear H
           have p425 : 0 ≤ (x21_2 : Int) := of_decide_eq_true (by first | (with_reducible assumption) | assumption)
           have q425 : x21_2 < (t422.length : Int) := of_decide_eq_true (by first | (with_reducible assumption) | assumption)
           obtain ⟨ad425, e425, hx425_0, hx425_1⟩ := at_T61 (Kd.R_reads' HO_19.out).2.2 x21_2 p425 q425
           cases e425
           replace p425 := eq_true p425
           replace q425 := eq_true q425
           go_wp2_with (first | ((with_reducible refine gate_dst (N := 8) rfl ?_); (try (refine gate_guard (by rfl) ?_; dsimp only)); refine box_event ?hg (N := 8) ?hd (cs := #[.int .i64 0, .int .i64 0]) (t := 61) ?hr ?_; (case hd => rfl); (case hg => rfl); (case hr => first | (go_simp; done) | (go_simp; rfl)); intro gb426 hg w24 hbox hb; have n0_ := Aside0.mk (Kd.R_below (by (with_reducible repeat (first | apply Kd.R_alloc | apply Kd.R_drewN | apply Kd.R_drew)); exact HO_6.out) hb); have n1_ := Aside0.mk (Kd.R_below (Kd.R_elderB (by (with_reducible repeat (first | apply Kd.R_alloc | apply Kd.R_drewN | apply Kd.R_drew)); exact HO_19.out) gb426 (Nat.le_of_eq hg.symm)) hb); have n2_ := Aside0.mk (below_step (by repeat (first | (with_reducible first | exact HB.out | apply below_alloc | apply pw_below_drewN | apply below_drew1) | exact HB.out)) hb); have n3_ := Aside0.mk (hbox); have n4_ := Aside0.mk ((by rw [hg]; exact (below_size (by repeat (first | (with_reducible first | exact HB.out | apply below_alloc | apply pw_below_drewN | apply below_drew1) | exact HB.out))) : w.heap.size ≤ gb426)); have n5_ := Aside0.mk ((by rw [hg]; exact (below_size (by repeat (first | (with_reducible first | exact HB.out | apply below_alloc | apply pw_below_drewN | apply below_drew1) | exact HB.out))) : w.heap.size ≤ gb426)); clear HO_6; clear HO_19; clear HB; have HO_6 := n0_; have HO_19 := n1_; have HB := n2_; have BK426 := n3_; have GW426 := n4_; have GE426 := n5_; clear n0_ n1_ n2_ n3_ n4_ n5_; clear hb hbox hg; have hcz25_0 : w24.cell? ⟨gb426, 0, none⟩ = some (.int .i64 0) := (blk_cell BK426.out 0).trans rfl; have hcz25_1 : w24.cell? ⟨gb426, 1, none⟩ = some (.int .i64 0) := (blk_cell BK426.out 1).trans rfl; have hfz25_0 := blk_frozen BK426.out 0; have hfz25_1 := blk_frozen BK426.out 1))
           go_roundg k2
           case measure => have := HJ2.out; have := HK2.out; omega
           case rel => exact ⟨(x6_2), (wrap64 (x21_2 + 1)), (by first | rfl | (simp; done) | (simp [*]; done)), H', ⟨by have := HJ2.out; have := HK2.out; omega⟩, ⟨by (with_reducible repeat (first | apply Kd.R_alloc | apply Kd.R_drewN | apply Kd.R_drew)); exact Kd.R_mono (Kd.R_far (p := ⟨gb426, 1, none⟩) (Kd.R_far (p := ⟨gb426, 0, none⟩) (Kd.R_types HO_6.out BK426.out (by decide)) (fun _ hk => hk.2) (.int .i64 ((rd_T61 t422 x21_2).f0))) (fun _ hk => hk.2) (.int .i64 ((rd_T61 t422 x21_2).f1))) (fun _ hk => trivial)⟩, ⟨by (with_reducible repeat (first | apply Kd.R_alloc | apply Kd.R_drewN | apply Kd.R_drew)); exact Kd.R_mono (Kd.R_far (p := ⟨gb426, 1, none⟩) (Kd.R_far (p := ⟨gb426, 0, none⟩) (Kd.R_mono HO_19.out (fun k_ hk => (⟨hk, hk.2⟩ : _ ∧ k_ ≠ gb426))) (fun _ hk => hk.2) (.int .i64 ((rd_T61 t422 x21_2).f0))) (fun _ hk => hk.2) (.int .i64 ((rd_T61 t422 x21_2).f1))) (fun _ hk => trivial)⟩, ⟨by repeat (first | (with_reducible first | exact HB.out | apply below_alloc | apply pw_below_drewN | apply below_drew1 | refine below_set ?_ GE426.out) | exact HB.out)⟩⟩
         ·rw [if_neg c18] at H
          have c18b0 : decide (((rd_T61 t422 x21_2).f1) < a1) = false := decide_eq_false c18
          clear c18
          have H' := Aside0.mk H
          clear H
          have p425 : 0 ≤ (x21_2 : Int) := of_decide_eq_true (by first | (with_reducible assumption) | assumption)
          have q425 : x21_2 < (t422.length : Int) := of_decide_eq_true (by first | (with_reducible assumption) | assumption)
          obtain ⟨ad425, e425, hx425_0, hx425_1⟩ := at_T61 (Kd.R_reads' HO_19.out).2.2 x21_2 p425 q425
          cases e425
          replace p425 := eq_true p425
          replace q425 := eq_true q425
          go_wp2_with (first | ((with_reducible refine gate_dst (N := 8) rfl ?_); (try (refine gate_guard (by rfl) ?_; dsimp only)); refine box_event ?hg (N := 8) ?hd (cs := #[.int .i64 0, .int .i64 0]) (t := 61) ?hr ?_; (case hd => rfl); (case hg => rfl); (case hr => first | (go_simp; done) | (go_simp; rfl)); intro gb426 hg w26 hbox hb; have n0_ := Aside0.mk (Kd.R_below (by (with_reducible repeat (first | apply Kd.R_alloc | apply Kd.R_drewN | apply Kd.R_drew)); exact HO_6.out) hb); have n1_ := Aside0.mk (Kd.R_below (Kd.R_elderB (by (with_reducible repeat (first | apply Kd.R_alloc | apply Kd.R_drewN | apply Kd.R_drew)); exact HO_19.out) gb426 (Nat.le_of_eq hg.symm)) hb); have n2_ := Aside0.mk (below_step (by repeat (first | (with_reducible first | exact HB.out | apply below_alloc | apply pw_below_drewN | apply below_drew1) | exact HB.out)) hb); have n3_ := Aside0.mk (hbox); have n4_ := Aside0.mk ((by rw [hg]; exact (below_size (by repeat (first | (with_reducible first | exact HB.out | apply below_alloc | apply pw_below_drewN | apply below_drew1) | exact HB.out))) : w.heap.size ≤ gb426)); have n5_ := Aside0.mk ((by rw [hg]; exact (below_size (by repeat (first | (with_reducible first | exact HB.out | apply below_alloc | apply pw_below_drewN | apply below_drew1) | exact HB.out))) : w.heap.size ≤ gb426)); clear HO_6; clear HO_19; clear HB; have HO_6 := n0_; have HO_19 := n1_; have HB := n2_; have BK426 := n3_; have GW426 := n4_; have GE426 := n5_; clear n0_ n1_ n2_ n3_ n4_ n5_; clear hb hbox hg; have hcz27_0 : w26.cell? ⟨gb426, 0, none⟩ = some (.int .i64 0) := (blk_cell BK426.out 0).trans rfl; have hcz27_1 : w26.cell? ⟨gb426, 1, none⟩ = some (.int .i64 0) := (blk_cell BK426.out 1).trans rfl; have hfz27_0 := blk_frozen BK426.out 0; have hfz27_1 := blk_frozen BK426.out 1))
          go_roundg k2
          case measure => have := HJ2.out; have := HK2.out; omega
          case rel => exact ⟨(x6_2), (wrap64 (x21_2 + 1)), (by first | rfl | (simp; done) | (simp [*]; done)), H', ⟨by have := HJ2.out; have := HK2.out; omega⟩, ⟨by (with_reducible repeat (first | apply Kd.R_alloc | apply Kd.R_drewN | apply Kd.R_drew)); exact Kd.R_mono (Kd.R_far (p := ⟨gb426, 1, none⟩) (Kd.R_far (p := ⟨gb426, 0, none⟩) (Kd.R_types HO_6.out BK426.out (by decide)) (fun _ hk => hk.2) (.int .i64 ((rd_T61 t422 x21_2).f0))) (fun _ hk => hk.2) (.int .i64 ((rd_T61 t422 x21_2).f1))) (fun _ hk => trivial)⟩, ⟨by (with_reducible repeat (first | apply Kd.R_alloc | apply Kd.R_drewN | apply Kd.R_drew)); exact Kd.R_mono (Kd.R_far (p := ⟨gb426, 1, none⟩) (Kd.R_far (p := ⟨gb426, 0, none⟩) (Kd.R_mono HO_19.out (fun k_ hk => (⟨hk, hk.2⟩ : _ ∧ k_ ≠ gb426))) (fun _ hk => hk.2) (.int .i64 ((rd_T61 t422 x21_2).f0))) (fun _ hk => hk.2) (.int .i64 ((rd_T61 t422 x21_2).f1))) (fun _ hk => trivial)⟩, ⟨by repeat (first | (with_reducible first | exact HB.out | apply below_alloc | apply pw_below_drewN | apply below_drew1 | refine below_set ?_ GE426.out) | exact HB.out)⟩⟩
        ·rw [if_neg c17] at H
         exact absurd H (by simp)
       ·rw [if_neg c16] at H
        exact absurd H (by simp)
      ·rw [if_neg c15] at H
       have c15b0 : decide (x21_2 < (t422.length : Int)) = false := decide_eq_false c15
       clear c15
       simp only [Option.some.injEq, Prod.mk.injEq] at H
       obtain ⟨rfl, rfl⟩ := H
       go_wp2
       go_ret2
       exact ⟨_, by first | rfl | (simp [errW_none, errW_some] <;> rfl) | (simp [*, errW_none, errW_some] <;> rfl), by (with_reducible repeat (first | apply Kd.R_alloc | apply Kd.R_drewN | apply Kd.R_drew)); exact HO_6.out, by repeat (first | (with_reducible first | exact HB.out | apply below_alloc | apply pw_below_drewN | apply below_drew1) | exact HB.out)⟩
end Go.Proofs.YthkpnbelbaljdaaDoor.X
end
section
namespace Go.Proofs.YthkpnbelbaljdaaDoor.X
open Go.RowKit Go.Proofs.YthkpnbelbaljdaaDoorW.PrintWords Go.Proofs.YthkpnbelbaljdaaDoorW.PrintLast Go.Proofs.YthkpnbelbaljdaaDoorW.PrintMore
set_option linter.unusedVariables false
set_option linter.unusedSimpArgs false
theorem bl (s : ByteArray) (j : Nat) (hj : j < s.size) (x : UInt8) : s.data.toList[j]? = some x ↔ bt s (j : Int) = (x.toNat : Int) := by
  have hl : j < s.data.toList.length := by simpa using hj
  have e : bt s (j : Int) = ((s.data.toList[j]).toNat : Int) := by
    unfold bt
    rw [dif_pos (by rw [Int.toNat_natCast]; exact hj)]
    rfl
  rw [List.getElem?_eq_getElem hl, e]
  constructor
  · intro h; rw [Option.some.inj h]
  · intro h; congr 1; exact UInt8.toNat_inj.mp (by omega)
theorem win_mem (s : ByteArray) (i t : Nat) (hi : i < s.size) (x : UInt8) (h : x ∈ (s.data.toList.take (i + 1)).drop (i + 1 - t)) : ∃ j : Nat, j ≤ i ∧ i < j + t ∧ bt s (j : Int) = (x.toNat : Int) := by
  obtain ⟨k, hk, e⟩ := List.getElem_of_mem h
  rw [List.getElem_drop, List.getElem_take] at e
  rw [List.length_drop, List.length_take] at hk
  have hk2 : k < i + 1 - (i + 1 - t) := by omega
  have hsz : s.data.toList.length = s.size := by simp
  refine ⟨i + 1 - t + k, by omega, by omega, (bl s _ (by omega) x).1 ?_⟩
  rw [List.getElem?_eq_getElem (by omega), e]
theorem win_has (s : ByteArray) (i t j : Nat) (hi : i < s.size) (h1 : j ≤ i) (h2 : i < j + t) (x : UInt8) (h : bt s (j : Int) = (x.toNat : Int)) : x ∈ (s.data.toList.take (i + 1)).drop (i + 1 - t) := by
  have e := (bl s j (by omega) x).2 h
  refine List.mem_of_getElem? (i := j - (i + 1 - t)) ?_
  rw [List.getElem?_drop, List.getElem?_take, if_pos (by omega), show i + 1 - t + (j - (i + 1 - t)) = j by omega]
  exact e
theorem cnt_zero (s : ByteArray) (i t : Nat) (hi : i < s.size) (h : cnt s i t = 0) (j : Nat) (h1 : j ≤ i) (h2 : i < j + t) : bt s (j : Int) ≠ 49 := fun hb =>
  List.count_eq_zero.mp h (win_has s i t j hi h1 h2 49 hb)
theorem cnt_pos (s : ByteArray) (i t : Nat) (hi : i < s.size) (j : Nat) (h1 : j ≤ i) (h2 : i < j + t) (hb : bt s (j : Int) = 49) : 0 < cnt s i t :=
  List.count_pos_iff.mpr (win_has s i t j hi h1 h2 49 hb)
theorem cnt_none (s : ByteArray) (i t : Nat) (hi : i < s.size) (h : ∀ j : Nat, j ≤ i → i < j + t → bt s (j : Int) = 48) : cnt s i t = 0 := by
  refine List.count_eq_zero.mpr fun hm => ?_
  obtain ⟨j, h1, h2, h3⟩ := win_mem s i t hi 49 hm
  rw [h j h1 h2] at h3; cases h3
theorem win_len (s : ByteArray) (i t : Nat) (hi : i < s.size) : ((s.data.toList.take (i + 1)).drop (i + 1 - t)).length = i + 1 - (i + 1 - t) := by
  rw [List.length_drop, List.length_take]
  have : s.data.toList.length = s.size := by simp
  omega
theorem cnt_full (s : ByteArray) (i t : Nat) (hi : i < s.size) (h : cnt s i t = t) : t ≤ i + 1 ∧ ∀ j : Nat, j ≤ i → i < j + t → bt s (j : Int) = 49 := by
  have hl := win_len s i t hi
  have hle := ones_le ((s.data.toList.take (i + 1)).drop (i + 1 - t))
  unfold cnt at h
  refine ⟨by omega, fun j h1 h2 => ?_⟩
  have hall := List.count_eq_length.mp (show List.count 49 ((s.data.toList.take (i + 1)).drop (i + 1 - t)) = ((s.data.toList.take (i + 1)).drop (i + 1 - t)).length by have e1 : ones ((s.data.toList.take (i + 1)).drop (i + 1 - t)) = List.count 49 ((s.data.toList.take (i + 1)).drop (i + 1 - t)) := rfl; omega)
  have hlen : j < s.data.toList.length := by
    have : s.data.toList.length = s.size := by simp
    omega
  have hb := (bl s j (by omega) (s.data.toList[j])).1 (List.getElem?_eq_getElem hlen)
  have := hall _ (win_has s i t j hi h1 h2 _ hb)
  rw [hb, ← this]; rfl
theorem cnt_all (s : ByteArray) (i t : Nat) (hi : i < s.size) (ht : t ≤ i + 1) (h : ∀ j : Nat, j ≤ i → i < j + t → bt s (j : Int) = 49) : cnt s i t = t := by
  have hl := win_len s i t hi
  have hall : ∀ b, b ∈ (s.data.toList.take (i + 1)).drop (i + 1 - t) → 49 = b := fun b hb => by
    obtain ⟨j, h1, h2, h3⟩ := win_mem s i t hi b hb
    rw [h j h1 h2] at h3
    exact UInt8.toNat_inj.mp (by have : (49 : UInt8).toNat = 49 := rfl
                                 omega)
  unfold cnt ones
  rw [List.count_eq_length.mpr hall, hl]; omega
theorem dlv_far (s : ByteArray) (t : Nat) : ∀ i, i ≤ s.size → dlv s t i = true → t ≤ i
  | 0, _, h => by cases h
  | i + 1, hi, h => by
    rw [dlv] at h
    by_cases h0 : cnt s i t = 0
    · rw [if_pos h0] at h; cases h
    · rw [if_neg h0] at h
      by_cases h1 : cnt s i t = t
      · exact (cnt_full s i t (by omega) h1).1
      · rw [if_neg h1] at h
        have := dlv_far s t i (by omega) h
        omega
theorem pulse_lv (lv : Nat → Bool) (n a m : Nat) (h : Pin (pls (strOfNums (lvs lv n))) a m) : a + m ≤ n ∧ 0 < m ∧ (a = 0 ∨ lv (a - 1) = false) ∧ (∀ i, a ≤ i → i < a + m → lv i = true) ∧ (a + m < n → lv (a + m) = false) := by
  obtain ⟨he, h0, h1, h2, h3⟩ := pls_is _ (lvs_lev' lv n) a m h
  rw [lvs_size] at h1 h3
  obtain ⟨e1, e2⟩ := isE_prv he
  have at1 : ∀ i, i < n → bt (strOfNums (lvs lv n)) (i : Int) = 49 → lv i = true := fun i hi hb => by
    rw [lvs_bt' lv n i hi] at hb
    cases hl : lv i with
    | true => rfl
    | false => rw [hl] at hb; cases hb
  have at0 : ∀ i, i < n → bt (strOfNums (lvs lv n)) (i : Int) ≠ 49 → lv i = false := fun i hi hb => by
    rw [lvs_bt' lv n i hi] at hb
    cases hl : lv i with
    | true => rw [hl] at hb; exact absurd rfl hb
    | false => rfl
  refine ⟨h1, h0, ?_, fun i hi hi2 => at1 i (by omega) (h2 i hi hi2), fun hlt => at0 _ hlt (by rw [h3 hlt]; decide)⟩
  rcases Nat.eq_zero_or_pos a with ha | ha
  · exact .inl ha
  · right
    unfold prv at e2
    rw [if_neg (by omega)] at e2
    exact at0 (a - 1) (by omega) e2
theorem calm_long (s : ByteArray) (t : Nat) (ht : 1 ≤ t) (a m : Nat) (h : Pin (pls (strOfNums (lvs (fun i => dlv s t (i + 1)) s.size))) a m) (hlt : a + m < s.size) : t ≤ m := by
  obtain ⟨h1, h0, h2, h3, h4⟩ := pulse_lv _ _ a m h
  have ha := h3 a (Nat.le_refl _) (by omega)
  have hf : cnt s a t = t := by
    simp only [dlv] at ha
    by_cases c0 : cnt s a t = 0
    · rw [if_pos c0] at ha; cases ha
    · rw [if_neg c0] at ha
      by_cases c1 : cnt s a t = t
      · exact c1
      · rw [if_neg c1] at ha
        rcases h2 with h2 | h2
        · subst h2; cases ha
        · simp only [show a - 1 + 1 = a by have : 0 < a := by
                                             rcases Nat.eq_zero_or_pos a with e | e
                                             · subst e; cases ha
                                             · exact e
                                           omega] at h2
          rw [h2] at ha; cases ha
  have hb := h4 hlt
  simp only [dlv] at hb
  have hz : cnt s (a + m) t = 0 := by
    by_cases c0 : cnt s (a + m) t = 0
    · exact c0
    · rw [if_neg c0] at hb
      by_cases c1 : cnt s (a + m) t = t
      · rw [if_pos c1] at hb; cases hb
      · rw [if_neg c1] at hb
        have := h3 (a + m - 1) (by omega) (by omega)
        simp only [show a + m - 1 + 1 = a + m by omega] at this
        rw [hb] at this; cases this
  rcases Nat.lt_or_ge m t with hm | hm
  · have := cnt_zero s (a + m) t hlt hz a (by omega) (by omega)
    exact absurd ((cnt_full s a t (by omega) hf).2 a (Nat.le_refl _) (by omega)) this
  · exact hm
theorem long_long (s : ByteArray) (hL : Lev s) (t : Nat) (ht : 1 ≤ t) (a m : Nat) (h : Pin (pls (strOfNums (lvs (fun i => decide (0 < cnt s i t)) s.size))) a m) (hlt : a + m < s.size) : t ≤ m := by
  obtain ⟨h1, h0, h2, h3, h4⟩ := pulse_lv _ _ a m h
  have ha := of_decide_eq_true (h3 a (Nat.le_refl _) (by omega))
  have hb := of_decide_eq_false (h4 hlt)
  have h49 : bt s (a : Int) = 49 := by
    rcases hL a (by omega) with h48 | h49
    · exfalso
      have : cnt s a t = 0 := by
        refine cnt_none s a t (by omega) fun j j1 j2 => ?_
        rcases Nat.lt_or_eq_of_le j1 with j3 | j3
        · rcases h2 with h2 | h2
          · omega
          · have hz := of_decide_eq_false h2
            rcases hL j (by omega) with g | g
            · exact g
            · exact absurd (cnt_pos s (a - 1) t (by omega) j (by omega) (by omega) g) hz
        · subst j3; exact h48
      omega
    · exact h49
  rcases Nat.lt_or_ge m t with hm | hm
  · exact absurd (cnt_pos s (a + m) t hlt a (by omega) (by omega) h49) hb
  · exact hm
theorem short_loop (x : ByteArray) (t : Int) (P : List S61) (hs : x.size ≤ 400) (hin : ∀ p ∈ P, ∃ a n : Nat, p = ⟨(a : Int), (n : Int)⟩ ∧ a + n ≤ x.size) (hno : ∀ a n : Nat, Pin P a n → ¬ ((n : Int) < t ∧ a + n < x.size)) (hP : P.length ≤ 1000) :
    ∀ (d i k : Nat), i + d = P.length → d < k → impl_ShortPulses.l0 k x t [] P (P.length : Int) (i : Int) = some ([], true)
  | 0, i, k, hi, hk => by
    cases k with
    | zero => omega
    | succ k => rw [impl_ShortPulses.l0, if_neg (by omega)]
  | d + 1, i, k, hi, hk => by
    cases k with
    | zero => omega
    | succ k =>
      have hlt : i < P.length := by omega
      have ih := short_loop x t P hs hin hno hP d (i + 1) k (by omega) (by omega)
      rw [Int.natCast_add, Int.natCast_one] at ih
      obtain ⟨a, n, e, h1⟩ := hin P[i] (List.getElem_mem hlt)
      have hrd : rd_T61 P (i : Int) = ⟨(a : Int), (n : Int)⟩ := by unfold rd_T61; rw [← e]; simp [hlt]
      have hn := hno a n (by show _ ∈ P; rw [← e]; exact List.getElem_mem hlt)
      rw [impl_ShortPulses.l0, if_pos (by omega), if_pos (by omega), if_pos (by omega), hrd]
      simp only
      rw [w64 (n := (a : Int) + (n : Int)) (by omega) (by omega), w64 (n := (i : Int) + 1) (by omega) (by omega), ih]
      by_cases c1 : (n : Int) < t
      · rw [if_pos c1, if_neg (by omega)]
      · rw [if_neg c1]
theorem short_none (k : Nat) (x : ByteArray) (t : Int) (hs : x.size ≤ 400) (hL : Lev x) (h1 : 1 ≤ t) (h2 : t ≤ 400) (hno : ∀ a n : Nat, Pin (pls x) a n → a + n < x.size → t ≤ (n : Int)) (hk : 400000 < k) : impl_ShortPulses.f k x t = some ([], true) := by
  obtain ⟨k, rfl⟩ : ∃ q, k = q + 1 := ⟨k - 1, by omega⟩
  unfold impl_ShortPulses.f impl_IsWave.f
  rw [if_pos (by omega), Option.bind_some, (isW_iff x).2 ⟨hs, hL⟩, if_pos rfl, within_eq, Option.bind_some, decide_eq_true (show 1 ≤ t ∧ t ≤ 400 from ⟨h1, h2⟩), Bool.not_true, impl_ShortPulses.j0, if_neg (by decide), pulses_eq k x hs hL (by omega), Option.bind_some]
  have hlen : (pls x).length ≤ 400 := by
    unfold pls pz
    rw [List.length_zipWith]
    have := edg_len x 49 x.size
    omega
  exact short_loop x t (pls x) hs (pls_in x hL x.size rfl) (fun a n hp hc => by have := hno a n hp hc.2; omega) (by omega) (pls x).length 0 k (by omega) (by omega)
end Go.Proofs.YthkpnbelbaljdaaDoor.X
end
section
namespace Go.Proofs
open Go.Shelf
def Tryd.lays143_ren : Go.Shelf.Ren := ⟨fun | 143 => 99 | 219 => 112 | 217 => 125 | 225 => 126 | 224 => 127 | 267 => 128 | 266 => 135 | 314 => 136 | n => n, fun | 9 => 9 | 3 => 3 | 4 => 4 | 5 => 5 | 46 => 121 | 146 => 140 | 51 => 139 | n => n, fun | 1 => 0 | n => n⟩
theorem Tryd.lays143 : Go.Proofs.Lays.n143 Tryd.prog Tryd.lays143_ren := {
  mixed := by kernel_rfl
  f143 := Tryd.func99.trans (congrArg some (by kernel_rfl))
  f217 := Tryd.func125.trans (congrArg some (by kernel_rfl))
  f219 := Tryd.func112.trans (congrArg some (by kernel_rfl))
  f224 := Tryd.func127.trans (congrArg some (by kernel_rfl))
  f225 := Tryd.func126.trans (congrArg some (by kernel_rfl))
  f266 := Tryd.func135.trans (congrArg some (by kernel_rfl))
  f267 := Tryd.func128.trans (congrArg some (by kernel_rfl))
  f314 := Tryd.func136.trans (congrArg some (by kernel_rfl))
  t3 := Tryd.underlying3
  a3 := Tryd.isAgg3
  z3 := Tryd.sizeOf3
  v3 := Tryd.zeroValue3
  t4 := Tryd.underlying4
  a4 := Tryd.isAgg4
  z4 := Tryd.sizeOf4
  v4 := Tryd.zeroValue4
  t5 := Tryd.underlying5
  a5 := Tryd.isAgg5
  z5 := Tryd.sizeOf5
  v5 := Tryd.zeroValue5
  t9 := Tryd.underlying9
  a9 := Tryd.isAgg9
  z9 := Tryd.sizeOf9
  v9 := Tryd.zeroValue9
  t46 := Tryd.underlying121
  a46 := Tryd.isAgg121
  z46 := Tryd.sizeOf121
  v46 := Tryd.zeroValue121
  t51 := Tryd.underlying139
  a51 := Tryd.isAgg139
  z51 := Tryd.sizeOf139
  v51 := Tryd.zeroValue139
  t146 := Tryd.underlying140
  a146 := Tryd.isAgg140
  z146 := Tryd.sizeOf140
  v146 := Tryd.zeroValue140
  g1 := by kernel_rfl }
open Go.RowKit Go.Lib in
theorem Tryd.strings_Index_one (s : ByteArray) (c : UInt8) (w : World) :
    Calls Tryd.prog 99 #[.string s, .string ⟨#[c]⟩] w fun e w' => e = .returned (.int .i64 (Lib.indexByte s.data.toList c)) ∧ w' = w := Any.strings_Index_one Tryd.lays143 s c w
end Go.Proofs
end
section
namespace Go.Proofs.YthkpnbelbaljdaaDoor.X
open Go.RowKit Go.Proofs.YthkpnbelbaljdaaDoorW.PrintWords Go.Proofs.YthkpnbelbaljdaaDoorW.PrintLast Go.Proofs.YthkpnbelbaljdaaDoorW.PrintMore
set_option linter.unusedVariables false
set_option linter.unusedSimpArgs false
def cutN (c : UInt8) : Nat → ByteArray → List ByteArray
  | 0, s => [s]
  | k + 1, s => s.extract 0 (Lib.indexByte s.data.toList c).toNat :: cutN c k (s.extract ((Lib.indexByte s.data.toList c).toNat + 1) s.size)
def cuts (c : UInt8) (s : ByteArray) : List ByteArray := cutN c (Lib.countByte s.data.toList c) s
def restN (c : UInt8) : Nat → ByteArray → ByteArray
  | 0, s => s
  | k + 1, s => restN c k (s.extract ((Lib.indexByte s.data.toList c).toNat + 1) s.size)
def headN (c : UInt8) : Nat → ByteArray → List ByteArray
  | 0, _ => []
  | k + 1, s => s.extract 0 (Lib.indexByte s.data.toList c).toNat :: headN c k (s.extract ((Lib.indexByte s.data.toList c).toNat + 1) s.size)
theorem headN_len (c : UInt8) : ∀ (k : Nat) (s : ByteArray), (headN c k s).length = k
  | 0, _ => rfl
  | k + 1, s => by rw [headN, List.length_cons, headN_len]
theorem headN_succ (c : UInt8) : ∀ (k : Nat) (s : ByteArray), headN c (k + 1) s = headN c k s ++ [(restN c k s).extract 0 (Lib.indexByte (restN c k s).data.toList c).toNat]
  | 0, _ => rfl
  | k + 1, s => by
    rw [headN, headN_succ c k, headN, restN, List.cons_append]
theorem restN_succ (c : UInt8) : ∀ (k : Nat) (s : ByteArray), restN c (k + 1) s = (restN c k s).extract ((Lib.indexByte (restN c k s).data.toList c).toNat + 1) (restN c k s).size
  | 0, _ => rfl
  | k + 1, s => by rw [restN, restN_succ c k, restN]
theorem cutN_eq (c : UInt8) : ∀ (k : Nat) (s : ByteArray), cutN c k s = headN c k s ++ [restN c k s]
  | 0, _ => rfl
  | k + 1, s => by rw [cutN, cutN_eq c k, headN, restN, List.cons_append]
theorem count_index : ∀ (l : List UInt8) (c : UInt8) (k : Nat), Lib.countByte l c = k + 1 → ∃ j : Nat, Lib.indexByte l c = j ∧ j < l.length ∧ Lib.countByte (l.drop (j + 1)) c = k
  | [], c, k, h => by simp [Lib.countByte] at h
  | b :: l, c, k, h => by
    unfold Lib.countByte at h ⊢
    rw [List.count_cons] at h
    unfold Lib.indexByte
    by_cases hb : (b == c) = true
    · rw [if_pos hb] at h ⊢
      exact ⟨0, rfl, by simp, by simpa using h⟩
    · rw [if_neg hb] at h ⊢
      obtain ⟨j, h1, h2, h3⟩ := count_index l c k (by unfold Lib.countByte; simpa using h)
      refine ⟨j + 1, ?_, by simp; omega, ?_⟩
      · rw [h1]
        have : ((j : Int) == -1) = false := by rw [beq_eq_false_iff_ne]; omega
        rw [this]; simp
      · unfold Lib.countByte at h3
        simpa using h3
theorem extract_list (s : ByteArray) (a : Nat) : (s.extract a s.size).data.toList = s.data.toList.drop a := by
  rw [ByteArray.data_extract, Array.toList_extract]
  simp only [List.extract]
  have : s.size = s.data.toList.length := by simp
  rw [this, ← List.length_drop, List.take_length]
theorem rest_facts (c : UInt8) (s : ByteArray) : ∀ (i d : Nat), Lib.countByte s.data.toList c = i + d → Lib.countByte (restN c i s).data.toList c = d ∧ (restN c i s).size ≤ s.size
  | 0, d, h => ⟨by rw [restN]; omega, Nat.le_refl _⟩
  | i + 1, d, h => by
    obtain ⟨h1, h2⟩ := rest_facts c s i (d + 1) (by omega)
    obtain ⟨j, e1, e2, e3⟩ := count_index _ c d h1
    rw [restN_succ, e1, Int.toNat_natCast]
    exact ⟨by rw [extract_list]; exact e3, by rw [ByteArray.size_extract]; omega⟩
theorem count_le (s : ByteArray) (c : UInt8) : Lib.countByte s.data.toList c ≤ s.size := by
  unfold Lib.countByte
  have := List.count_le_length (a := c) (l := s.data.toList)
  simpa using this
theorem strInfo : (Tryd.prog.info? 9).map (fun i => (i.zero, i.size, i.bytes)) = some (some (.string ByteArray.empty), 1, 16) := by kernel_rfl
def underN (c : UInt8) (s : ByteArray) (n i : Nat) : List ByteArray := headN c i s ++ List.replicate (n - i) ByteArray.empty
theorem underN_len (c : UInt8) (s : ByteArray) (n i : Nat) (h : i ≤ n) : (underN c s n i).length = n := by unfold underN; rw [List.length_append, headN_len, List.length_replicate]; omega
theorem underN_set (c : UInt8) (s : ByteArray) (n i : Nat) (h : i < n) : (underN c s n i).set i ((restN c i s).extract 0 (Lib.indexByte (restN c i s).data.toList c).toNat) = underN c s n (i + 1) := by
  unfold underN
  obtain ⟨m, hm⟩ : ∃ m, n - i = m + 1 := ⟨n - i - 1, by omega⟩
  rw [hm, show n - (i + 1) = m by omega, List.set_append_right _ _ (by rw [headN_len]; exact Nat.le_refl _), headN_len, Nat.sub_self, List.replicate_succ, List.set_cons_zero, headN_succ, List.append_assoc]; rfl
theorem underN_last (c : UInt8) (s : ByteArray) (n : Nat) : (underN c s (n + 1) n).set n (restN c n s) = cutN c n s := by
  unfold underN
  rw [show n + 1 - n = 1 by omega, List.set_append_right _ _ (by rw [headN_len]; exact Nat.le_refl _), headN_len, Nat.sub_self, cutN_eq]; rfl
set_option maxHeartbeats 4000000 in
set_option maxRecDepth 100000 in
theorem genSplit_walk (s : ByteArray) (c : UInt8) (hs : s.size ≤ 1000000) (n : Nat) (hn : n = Lib.countByte s.data.toList c) (w : World) :
    Calls Tryd.prog 111 #[.string s, .string ⟨#[c]⟩, .int .i64 0, .int .i64 (-1)] w fun e w' => ∃ v : Value, e = .returned v ∧ Kd.R Kd.string 9 w' w.heap.size (fun _ => True) v (cuts c s) ∧ Below w.heap.size w w' := by
  have hcl := count_le s c
  have HN := Aside0.mk hn
  have hn9 : n ≤ s.size := by omega
  have hw1 : IntKind.i64.wrap ((n : Int) + 1) = (n : Int) + 1 := IntWalk.i64_in _ ⟨by omega, by omega⟩
  have hw2 : IntKind.i64.wrap ((s.size : Int) + 1) = (s.size : Int) + 1 := IntWalk.i64_in _ ⟨by omega, by omega⟩
  have hw3 : IntKind.i64.wrap ((n : Int) + 1 - 1) = (n : Int) := by rw [IntWalk.i64_in _ ⟨by omega, by omega⟩]; omega
  have hmin : min (n : Int) (s.size : Int) = (n : Int) := Int.min_eq_left (by omega)
  have HB := Aside0.mk (Below.refl w.heap.size w)
  clear hn hcl
  go_enter Tryd.func111, Tryd.ntmps111
  go_wp2_with (first
    | (go_at_call 73; (with_reducible refine (Tryd.strings_Count_one s c w).mono ?_); rintro e w1 ⟨rfl, hw⟩; rw [hw, ← HN.out]; clear hw)
    | ((with_reducible refine gate_dst (N := 31) rfl ?_); refine Kd.R_make Kd.string w.heap.size 9 ?hg (N := 31) ?hd 85 (.tmp 30) (.tmp 30) ?ho ((n : Int) + 1) ?hx ?hy Tryd.underlying85 (.string ByteArray.empty) 16 strInfo rfl (by decide) (by omega) ByteArray.empty (ok := fun _ => True) (okp := fun _ => False) ?hz (fun _ h => h.elim) trivial (by omega) ?hl HB.out (Nat.le_refl _) ?_; (case hg => rfl); (case hd => rfl); (case ho => rfl); (case hx => rfl); (case hy => rfl); (case hz => exact rfl); (case hl => omega); intro v1 w1 ho hb hg_ hnew_; clear hg_ hnew_; rw [show ((n : Int) + 1).toNat = n + 1 by omega, show List.replicate (n + 1) ByteArray.empty = underN c s (n + 1) 0 from rfl] at ho; have HO := Aside0.mk ho; have n0_ := Aside0.mk hb; clear HB ho hb; have HB := n0_; clear n0_))
  obtain ⟨gA, cA, hv1, hgb, hgl, cl, hcl⟩ := Kd.R_form HO.out (by rw [underN_len c s (n + 1) 0 (by omega)]; omega)
  rw [underN_len c s (n + 1) 0 (by omega)] at hv1
  subst hv1
  clear hgl cl hcl
  have HGE := Aside0.mk hgb
  clear hgb
  go_loopg [0, 10] n (fun kq v0 v10 w' => ∃ i : Nat, v0 = .string (restN c i s) ∧ v10 = .int .i64 i ∧ Aside0 (i + kq = n) ∧ Aside0 (Kd.R Kd.string 9 w' w.heap.size (fun _ => True) (.slice (some ⟨gA, 0, none⟩) (n + 1 : Nat) cA) (underN c s (n + 1) i)) ∧ Aside0 (Below w.heap.size w w'))
  case atStart => exact ⟨0, rfl, rfl, ⟨by omega⟩, HO, HB⟩
  case round =>
    clear HO HB
    obtain ⟨i, rfl, rfl, HE, HO, HB⟩ := hrel
    obtain ⟨S, hS⟩ : ∃ S, S = restN c i s := ⟨_, rfl⟩
    rw [← hS]
    have HS := Aside0.mk hS
    clear hS
    obtain ⟨cc, cz⟩ := Kd.R_celln ByteArray.empty HO.out (i : Int) (by omega) (by have := HE.out; omega)
    rw [Int.toNat_natCast] at cc cz
    by_cases hlt : i < n
    · cases gk with
      | zero => have := HE.out; omega
      | succ g1 =>
      obtain ⟨r1, r2⟩ := rest_facts c s i (n - i - 1 + 1) (by rw [← HN.out]; omega)
      rw [← HS.out] at r1 r2
      obtain ⟨j, e1, e2, _⟩ := count_index _ c _ r1
      have e2' : j < S.size := by simpa using e2
      have HX : Aside0 (restN c (i + 1) s = S.extract (j + 1) S.size) := ⟨by rw [restN_succ, ← HS.out, e1]; rfl⟩
      have HY : Aside0 ((underN c s (n + 1) i).set i (S.extract 0 j) = underN c s (n + 1) (i + 1)) := ⟨by rw [← underN_set c s (n + 1) i (by omega), ← HS.out, e1]; rfl⟩
      have E1 := Aside0.mk e1
      have wj : IntKind.i64.wrap (j : Int) = (j : Int) := IntWalk.i64_in _ ⟨by omega, by omega⟩
      have wj1 : IntKind.i64.wrap ((j : Int) + 1) = (j : Int) + 1 := IntWalk.i64_in _ ⟨by omega, by omega⟩
      have wi1 : IntKind.i64.wrap ((i : Int) + 1) = (i : Int) + 1 := IntWalk.i64_in _ ⟨by omega, by omega⟩
      have q1 : ((j : Int) ≤ (S.size : Int)) = True := eq_true (by omega)
      have q2 : ((j : Int) + 1 ≤ (S.size : Int)) = True := eq_true (by omega)
      have q3 : (j ≤ S.size) = True := eq_true (by omega)
      have q4 : (j + 1 ≤ S.size) = True := eq_true (by omega)
      clear e1 e2 r1 r2
      go_wp2_with (first
        | (go_at_call 99; (with_reducible refine (Tryd.strings_Index_one S c _).mono ?_); rintro e w1 ⟨rfl, hw⟩; rw [hw, E1.out]; clear hw))
      go_roundg g1
      case measure => omega
      case rel => exact ⟨i + 1, by rw [HX.out], by go_num, ⟨by have := HE.out; omega⟩, ⟨by rw [← HY.out]; exact Kd.R_putn HO.out (i : Int) (S.extract 0 j)⟩, ⟨Below.setCell (p := ⟨gA, i, none⟩) HB.out HGE.out _⟩⟩
    · have hi : i = n := by have := HE.out; omega
      subst hi
      have hcap := (Kd.R_reads' HO.out).2.1
      have wi1 : IntKind.i64.wrap ((i : Int) + 1) = (i : Int) + 1 := IntWalk.i64_in _ ⟨by omega, by omega⟩
      have q1 : ((i : Int) + 1 ≤ (cA : Int)) = True := eq_true (by omega)
      have q2 : (i + 1 ≤ cA) = True := eq_true (by omega)
      have HR := Aside0.mk (Kd.R_putn HO.out (i : Int) S)
      have HY : Aside0 ((underN c s (i + 1) i).set i S = cuts c s) := ⟨by rw [HS.out, underN_last]; unfold cuts; rw [← HN.out]⟩
      clear hcap hw1 hw2 hw3 hmin hlt
      go_wp2
      go_ret
      exact ⟨_, rfl, by rw [← HY.out]; exact HR.out, Below.setCell (p := ⟨gA, i, none⟩) HB.out HGE.out _⟩
set_option maxHeartbeats 4000000 in
set_option maxRecDepth 100000 in
theorem split_walk (s : ByteArray) (c : UInt8) (hs : s.size ≤ 1000000) (w : World) :
    Calls Tryd.prog 96 #[.string s, .string ⟨#[c]⟩] w fun e w' => ∃ v : Value, e = .returned v ∧ Kd.R Kd.string 9 w' w.heap.size (fun _ => True) v (cuts c s) ∧ Below w.heap.size w w' := by
  have H := fun w => genSplit_walk s c hs _ rfl w
  have HH := Aside0.mk H
  clear H
  go_enter Tryd.func96, Tryd.ntmps96
  go_wp2_with (go_at_call 111; (with_reducible refine (HH.out _).mono ?_); rintro e w1 ⟨v, rfl, ho, hb⟩; have HO := Aside0.mk ho; have HB := Aside0.mk hb; clear ho hb)
  go_ret
  exact ⟨_, rfl, HO.out, HB.out⟩
end Go.Proofs.YthkpnbelbaljdaaDoor.X
end
section
namespace Go.Proofs.YthkpnbelbaljdaaDoor.X
open Go.RowKit Go.Proofs.YthkpnbelbaljdaaDoorW.PrintWords Go.Proofs.YthkpnbelbaljdaaDoorW.PrintLast Go.Proofs.YthkpnbelbaljdaaDoorW.PrintMore
set_option linter.unusedVariables false
set_option linter.unusedSimpArgs false
def lenN (P : List ByteArray) (i : Nat) : List Int := ((P.take i).filter fun x => decide (0 < x.size)).map fun x => (x.size : Int)
theorem lenN_len (P : List ByteArray) (i : Nat) : (lenN P i).length ≤ i := by
  unfold lenN
  rw [List.length_map]
  exact Nat.le_trans (List.length_filter_le _ _) (by rw [List.length_take]; omega)
theorem lenN_succ (P : List ByteArray) (i : Nat) (h : i < P.length) : lenN P (i + 1) = lenN P i ++ (if 0 < P[i].size then [(P[i].size : Int)] else []) := by
  unfold lenN
  rw [List.take_succ_eq_append_getElem h, List.filter_append, List.map_append]
  congr 1
  by_cases hp : 0 < P[i].size
  · rw [if_pos hp, List.filter_cons, if_pos (decide_eq_true hp)]; rfl
  · rw [if_neg hp, List.filter_cons, if_neg (by simpa using hp)]; rfl
theorem cuts_len (c : UInt8) (s : ByteArray) : (cuts c s).length ≤ s.size + 1 := by
  unfold cuts
  rw [cutN_eq, List.length_append, headN_len]
  have := count_le s c
  simp; omega
theorem cutN_small (c : UInt8) : ∀ (k : Nat) (s : ByteArray), ∀ x ∈ cutN c k s, x.size ≤ s.size
  | 0, s, x, h => by rw [List.mem_singleton.1 h]; exact Nat.le_refl _
  | k + 1, s, x, h => by
    rw [cutN] at h
    rcases List.mem_cons.1 h with rfl | h
    · rw [ByteArray.size_extract]; omega
    · have := cutN_small c k _ x h
      rw [ByteArray.size_extract] at this
      omega
set_option maxHeartbeats 4000000 in
set_option maxRecDepth 100000 in
theorem lens_walk (s : ByteArray) (c : UInt8) (hs : s.size ≤ 1000000) (w : World) :
    Calls Tryd.prog 70 #[.string s, .string ⟨#[c]⟩] w fun e w' => ∃ v : Value, e = .returned v ∧ Kd.R (Kd.int .i64) 2 w' w.heap.size (fun _ => True) v (lenN (cuts c s) (cuts c s).length) ∧ Below w.heap.size w w' := by
  have HSW := Aside0.mk (fun w => split_walk s c hs w)
  have hl := cuts_len c s
  obtain ⟨P, hP⟩ : ∃ P, P = cuts c s := ⟨_, rfl⟩
  have HPS : Aside0 (∀ x ∈ P, x.size ≤ 1000000) := ⟨fun x hx => by rw [hP] at hx; exact Nat.le_trans (cutN_small c _ s x hx) hs⟩
  rw [← hP] at hl ⊢
  simp only [← hP] at HSW
  obtain ⟨n, hn⟩ : ∃ n, n = P.length := ⟨_, rfl⟩
  have HN := Aside0.mk hn
  have hn9 : n ≤ 1000001 := by omega
  rw [← hn]
  clear hn hP hl
  have HB := Aside0.mk (Below.refl w.heap.size w)
  go_enter Tryd.func70, Tryd.ntmps70
  go_wp2_with (first
    | ((with_reducible refine gate_dst (N := 8) rfl ?_); refine Kd.R_lit (Kd.int .i64) w.heap.size 2 ?hg (N := 8) ?hd (xs := ([] : List Int)) (inner := []) (ok := fun _ => True) (okp := fun _ => True) ?hr ?hp (fun _ hk => hk) trivial (Below.refl _ _) (Nat.le_refl _) (by simp) ?_; (case hd => rfl); (case hg => rfl); (case hr => first | (go_simp; done) | (go_simp; rfl)); (case hp => exact (Reps.none _ _)); intro v1 w1 ho hb hg_ hnew_; clear hg_ hnew_; have HO := Aside0.mk ho; have n0_ := Aside0.mk hb; clear HB ho hb; have HB := n0_; clear n0_)
    | (go_at_call 96; (with_reducible refine (HSW.out _).mono ?_); rintro e w2 ⟨v2, rfl, ho, hb⟩; obtain ⟨A2, c2, e2⟩ := Kd.R_slice ho; rw [← HN.out] at e2; subst e2; have HP := Aside0.mk (Kd.R_lower ho (below_size HB.out)); have n0_ := Aside0.mk (below_step HB.out hb); have n1_ := Aside0.mk (Kd.R_below HO.out hb); clear HB HO ho hb; have HB := n0_; have HO := n1_; clear n0_ n1_))
  go_loopg [5, 13] n (fun kq v5 v13 w' => ∃ i : Nat, v13 = .int .i64 i ∧ Aside0 (i + kq = n) ∧ Aside0 (Kd.R (Kd.int .i64) 2 w' w.heap.size (fun _ => True) v5 (lenN P i)) ∧ Aside0 (Kd.R Kd.string 9 w' w.heap.size (fun _ => True) (.slice A2 n c2) P) ∧ Aside0 (Below w.heap.size w w'))
  case atStart => exact ⟨0, by first | rfl | simp, ⟨by omega⟩, HO, HP, HB⟩
  case round =>
    clear HO HP HB
    obtain ⟨i, rfl, HE, HO, HP, HB⟩ := hrel
    by_cases hlt : i < n
    · cases gk with
      | zero => have := HE.out; omega
      | succ g1 =>
      have hC := (Kd.R_reads' HP.out).2.2
      rw [← HN.out] at hC
      obtain ⟨ad, hA, hc0⟩ := Kd.at_string hC (i : Int) (by omega) (by omega)
      cases hA
      have hip : i < P.length := by have := HN.out; omega
      have hrd : rdOf ByteArray.empty P (i : Int) = P[i] := by unfold rdOf; simp [hip]
      rw [hrd, Int.toNat_natCast] at hc0
      have HM := Aside0.mk (HPS.out _ (List.getElem_mem hip))
      have HX := Aside0.mk (lenN_succ P i hip)
      obtain ⟨p, hp⟩ : ∃ p, p = P[i] := ⟨_, rfl⟩
      rw [← hp] at hc0 HM HX
      clear hp hrd hC hip
      have hl0 := lenN_len P i
      have wi1 : IntKind.i64.wrap ((i : Int) + 1) = (i : Int) + 1 := IntWalk.i64_in _ ⟨by omega, by omega⟩
      by_cases hz : 0 < p.size
      · have z1 : decide (0 < p.size) = true := decide_eq_true hz
        have z2 : decide (0 < (p.size : Int)) = true := decide_eq_true (by omega)
        have wp1 : IntKind.i64.wrap (p.size : Int) = (p.size : Int) := IntWalk.i64_in _ ⟨by omega, by have := HM.out; omega⟩
        rw [if_pos hz] at HX
        obtain ⟨l0, hl0e⟩ : ∃ l0, l0 = lenN P i := ⟨_, rfl⟩
        rw [← hl0e] at HX HO hl0
        have LM := Aside0.mk hl0
        clear hl0 hl0e
        go_wp2_with ((with_reducible refine gate_builtin (b := .append) (xs := #[.tmp 20, .tmp 23]) rfl ?_); at_builtin; refine Kd.R_append (Kd.int .i64) (w0 := w) w.heap.size rfl (.tmp 20) (.tmp 23) 34 2 (.int .i64 0) 8 rfl Tryd.underlying34 info2 rfl (by decide) (by omega) u5 l0 (p.size : Int) [.int .i64 (p.size : Int)] (fun _ => True) (fun _ => False) rfl rfl ?aP (fun _ hk => hk.elim) ?aF ?aO ?aB ?aS ?aL ?_; (case aP => exact rfl); (case aB => exact HB.out); (case aF => exact (fun _ hk => trivial)); (case aO => exact HO.out); (case aS => exact below_size HB.out); (case aL => have := LM.out; omega); intro v3 w3 ho hb hg hat; rw [← HX.out] at ho; have n2_ := Aside0.mk (Kd.R_over HP.out HO.out (by decide) hg); have n0_ := Aside0.mk ho; have n1_ := Aside0.mk hb; clear HO HP HB ho hb hg hat; have HO := n0_; have HB := n1_; have HP := n2_; clear n0_ n1_ n2_)
        go_roundg g1
        case measure => omega
        case rel => exact ⟨i + 1, by go_num, ⟨by have := HE.out; omega⟩, HO, HP, HB⟩
      · have z1 : decide (0 < p.size) = false := decide_eq_false hz
        have z2 : decide (0 < (p.size : Int)) = false := decide_eq_false (by omega)
        rw [if_neg hz, List.append_nil] at HX
        go_wp2
        go_roundg g1
        case measure => omega
        case rel => exact ⟨i + 1, by go_num, ⟨by have := HE.out; omega⟩, by rw [HX.out]; exact HO, HP, HB⟩
    · have hi : i = n := by have := HE.out; omega
      subst hi
      go_wp2
      go_ret
      exact ⟨_, rfl, HO.out, HB.out⟩
def impl_lengthsOf.f (a0 a1 : ByteArray) : Option (List Int) := if a0.size ≤ 1000000 ∧ a1.size = 1 then some (lenN (cuts (a1.data.toList.headD 0) a0) (cuts (a1.data.toList.headD 0) a0).length) else none
theorem one_byte (s : ByteArray) (h : s.size = 1) : s = ⟨#[s.data.toList.headD 0]⟩ := by
  obtain ⟨⟨l⟩⟩ := s
  match l, h with
  | [x], _ => rfl
theorem impl_lengthsOf.calls (a0 a1 : ByteArray) (r : List Int) (w : World) (h : impl_lengthsOf.f a0 a1 = some r) :
    Calls Tryd.prog 70 #[.string a0, .string a1] w fun e w' => ∃ v0_ : Value, e = .returned (v0_) ∧ Kd.R (Kd.int .i64) 2 w' w.heap.size (fun _ => True) v0_ r ∧ Below w.heap.size w w' := by
  unfold impl_lengthsOf.f at h
  by_cases hc : a0.size ≤ 1000000 ∧ a1.size = 1
  · rw [if_pos hc] at h
    obtain rfl := Option.some.inj h
    have e := one_byte a1 hc.2
    have := lens_walk a0 (a1.data.toList.headD 0) hc.1 w
    rw [← e] at this
    exact this
  · rw [if_neg hc] at h; cases h
end Go.Proofs.YthkpnbelbaljdaaDoor.X
end
section
namespace Go.Proofs.YthkpnbelbaljdaaDoor.X
open Go.RowKit Go.Proofs.YthkpnbelbaljdaaDoorW.PrintWords Go.Proofs.YthkpnbelbaljdaaDoorW.PrintLast Go.Proofs.YthkpnbelbaljdaaDoorW.PrintMore
set_option linter.unusedVariables false
set_option linter.unusedSimpArgs false
def some1 (n : Nat) : List Int := if 0 < n then [(n : Int)] else []
def gol (c : UInt8) : List UInt8 → Nat → List Int
  | [], cur => some1 cur
  | b :: l, cur => if b = c then some1 cur ++ gol c l 0 else gol c l (cur + 1)
theorem gol_none (c : UInt8) : ∀ (l : List UInt8) (cur : Nat), (∀ b ∈ l, b ≠ c) → gol c l cur = some1 (cur + l.length)
  | [], cur, _ => rfl
  | b :: l, cur, h => by
    rw [gol, if_neg (h b List.mem_cons_self), gol_none c l (cur + 1) (fun x hx => h x (List.mem_cons_of_mem _ hx)), List.length_cons, Nat.add_assoc, Nat.add_comm 1]
theorem gol_mark (c : UInt8) (q : List UInt8) : ∀ (p : List UInt8) (cur : Nat), (∀ b ∈ p, b ≠ c) → gol c (p ++ c :: q) cur = some1 (cur + p.length) ++ gol c q 0
  | [], cur, _ => by rw [List.nil_append, gol, if_pos rfl]; rfl
  | b :: p, cur, h => by
    rw [List.cons_append, gol, if_neg (h b List.mem_cons_self), gol_mark c q p (cur + 1) (fun x hx => h x (List.mem_cons_of_mem _ hx)), List.length_cons, Nat.add_assoc, Nat.add_comm 1]
theorem index_split : ∀ (l : List UInt8) (c : UInt8) (k : Nat), Lib.countByte l c = k + 1 → ∃ j : Nat, Lib.indexByte l c = j ∧ j < l.length ∧ l.take j ++ c :: l.drop (j + 1) = l ∧ ∀ b ∈ l.take j, b ≠ c
  | [], c, k, h => by simp [Lib.countByte] at h
  | b :: l, c, k, h => by
    unfold Lib.countByte at h
    rw [List.count_cons] at h
    unfold Lib.indexByte
    by_cases hb : (b == c) = true
    · rw [if_pos hb]
      exact ⟨0, rfl, by simp, by rw [beq_iff_eq.1 hb]; rfl, by simp⟩
    · rw [if_neg hb] at h ⊢
      obtain ⟨j, h1, h2, h3, h4⟩ := index_split l c k (by unfold Lib.countByte; simpa using h)
      refine ⟨j + 1, ?_, by simp; omega, ?_, ?_⟩
      · rw [h1]
        have : ((j : Int) == -1) = false := by rw [beq_eq_false_iff_ne]; omega
        rw [this]; simp
      · rw [List.take_succ_cons, List.drop_succ_cons, List.cons_append, h3]
      · intro x hx
        rw [List.take_succ_cons] at hx
        rcases List.mem_cons.1 hx with rfl | hx
        · simpa using hb
        · exact h4 x hx
def sizes (P : List ByteArray) : List Int := (P.filter fun x => decide (0 < x.size)).map fun x => (x.size : Int)
theorem sizes_cons (x : ByteArray) (P : List ByteArray) : sizes (x :: P) = some1 x.size ++ sizes P := by
  unfold sizes some1
  by_cases h : 0 < x.size
  · rw [List.filter_cons, if_pos (decide_eq_true h), if_pos h]; rfl
  · rw [List.filter_cons, if_neg (by simpa using h), if_neg h]; rfl
theorem cutN_gol (c : UInt8) : ∀ (k : Nat) (s : ByteArray), Lib.countByte s.data.toList c = k → sizes (cutN c k s) = gol c s.data.toList 0
  | 0, s, h => by
    have hl : s.data.toList.length = s.size := by simp
    rw [cutN, sizes_cons, gol_none c _ 0 (fun b hb e => by
      subst e
      unfold Lib.countByte at h
      have := List.count_pos_iff.2 hb
      omega), Nat.zero_add, hl]
    simp [sizes]
  | k + 1, s, h => by
    have hl : s.data.toList.length = s.size := by simp
    obtain ⟨j, e1, e2, e3, e4⟩ := index_split _ c k h
    obtain ⟨j', e1', _, e3'⟩ := count_index _ c k h
    obtain rfl : j = j' := by omega
    have ih := cutN_gol c k (s.extract (j + 1) s.size) (by rw [extract_list]; exact e3')
    rw [extract_list] at ih
    rw [cutN, sizes_cons, e1, Int.toNat_natCast, ih]
    have hz : (s.extract 0 j).size = j := by rw [ByteArray.size_extract]; omega
    rw [hz]
    conv => rhs; rw [← e3]
    rw [gol_mark c _ _ 0 e4, Nat.zero_add, List.length_take, Nat.min_eq_left (by omega)]
end Go.Proofs.YthkpnbelbaljdaaDoor.X
end
section
namespace Go.Proofs.YthkpnbelbaljdaaDoor.X
open Go.RowKit Go.Proofs.YthkpnbelbaljdaaDoorW.PrintWords Go.Proofs.YthkpnbelbaljdaaDoorW.PrintLast Go.Proofs.YthkpnbelbaljdaaDoorW.PrintMore
set_option linter.unusedVariables false
set_option linter.unusedSimpArgs false
def strings_Trim.f (s : ByteArray) (m : ByteArray) : Option ByteArray :=
  match m.data.toList with
  | [c] => if c.toNat < 128 ∧ s.size ≤ 2000000 then some ⟨(Lib.trimB s.data.toList c).toArray⟩ else none
  | _ => none
theorem strings_Trim.calls (a0 : ByteArray) (a1 : ByteArray) (r : ByteArray) (w : World) (h : strings_Trim.f a0 a1 = some r) :
    Calls Tryd.prog 77 #[.string a0, .string a1] w fun e w' => e = .returned (.string r) ∧ Below w.heap.size w w' := by
  unfold strings_Trim.f at h
  split at h
  case h_2 => cases h
  case h_1 c hc =>
  split at h
  case isFalse => cases h
  case isTrue hs =>
  obtain rfl := Option.some.inj h
  obtain rfl : a1 = ⟨#[c]⟩ := by
    obtain ⟨⟨l⟩⟩ := a1
    simp at hc
    rw [hc]
  refine (Tryd.strings_Trim_one a0 c hs.1 w (by omega)).mono ?_
  rintro e w' ⟨rfl, rfl | rfl⟩
  · exact ⟨rfl, Below.refl _ _⟩
  · exact ⟨rfl, below_drew1 (Below.refl _ _)⟩
end Go.Proofs.YthkpnbelbaljdaaDoor.X
end
section
namespace Go.Proofs.YthkpnbelbaljdaaDoor.X
open Go.RowKit Go.Proofs.YthkpnbelbaljdaaDoorW.PrintWords Go.Proofs.YthkpnbelbaljdaaDoorW.PrintLast Go.Proofs.YthkpnbelbaljdaaDoorW.PrintMore
set_option linter.unusedVariables false
set_option linter.unusedSimpArgs false
def RunOf (c : UInt8) (l : List UInt8) (a b : Nat) : Prop := a < b ∧ b ≤ l.length ∧ (∀ j, a ≤ j → j < b → l[j]? ≠ some c) ∧ (a = 0 ∨ l[a - 1]? = some c) ∧ (b = l.length ∨ l[b]? = some c)
theorem gol_runs (c : UInt8) (l : List UInt8) : ∀ (r : List UInt8) (i cur : Nat), l.drop i = r → cur ≤ i → i ≤ l.length → (∀ j, i - cur ≤ j → j < i → l[j]? ≠ some c) → (i - cur = 0 ∨ l[i - cur - 1]? = some c) →
    ∀ x, x ∈ gol c r cur → ∃ a b : Nat, RunOf c l a b ∧ x = ((b - a : Nat) : Int)
  | [], i, cur, hr, hc, hl, hall, hpre, x, hx => by
    have hi : i = l.length := by
      have := congrArg List.length hr
      rw [List.length_drop, List.length_nil] at this
      omega
    unfold gol some1 at hx
    by_cases h0 : 0 < cur
    · rw [if_pos h0, List.mem_singleton] at hx
      refine ⟨i - cur, i, ⟨by omega, hl, hall, hpre, .inl hi⟩, ?_⟩
      rw [hx]; congr 1; omega
    · rw [if_neg h0] at hx; cases hx
  | b :: r, i, cur, hr, hc, hl, hall, hpre, x, hx => by
    have hlt : i < l.length := by
      have := congrArg List.length hr
      rw [List.length_drop, List.length_cons] at this
      omega
    have hd := List.drop_eq_getElem_cons hlt
    rw [hr] at hd
    injection hd with hb hr2
    have hg : l[i]? = some b := by rw [List.getElem?_eq_getElem hlt, ← hb]
    unfold gol at hx
    by_cases hbc : b = c
    · rw [if_pos hbc] at hx
      rcases List.mem_append.mp hx with hx | hx
      · unfold some1 at hx
        by_cases h0 : 0 < cur
        · rw [if_pos h0, List.mem_singleton] at hx
          refine ⟨i - cur, i, ⟨by omega, hl, hall, hpre, .inr (by rw [hg, hbc])⟩, ?_⟩
          rw [hx]; congr 1; omega
        · rw [if_neg h0] at hx; cases hx
      · exact gol_runs c l r (i + 1) 0 hr2.symm (by omega) (by omega) (fun j h1 h2 => by omega) (.inr (by rw [show i + 1 - 0 - 1 = i by omega, hg, hbc])) x hx
    · rw [if_neg hbc] at hx
      refine gol_runs c l r (i + 1) (cur + 1) hr2.symm (by omega) (by omega) ?_ ?_ x hx
      · intro j h1 h2
        rcases Nat.lt_or_ge j i with h3 | h3
        · exact hall j (by omega) h3
        · obtain rfl : j = i := by omega
          rw [hg]
          intro e
          exact hbc (Option.some.inj e)
      · rw [show i + 1 - (cur + 1) = i - cur by omega]; exact hpre
theorem lens_runs (c : UInt8) (s : ByteArray) (x : Int) (hx : x ∈ lenN (cuts c s) (cuts c s).length) : ∃ a b : Nat, RunOf c s.data.toList a b ∧ x = ((b - a : Nat) : Int) := by
  have h1 : lenN (cuts c s) (cuts c s).length = sizes (cuts c s) := by unfold lenN sizes; rw [List.take_length]
  have h2 : sizes (cuts c s) = gol c s.data.toList 0 := cutN_gol c _ s rfl
  rw [h1, h2] at hx
  exact gol_runs c s.data.toList s.data.toList 0 0 (List.drop_zero ..) (Nat.le_refl _) (Nat.zero_le _) (fun j h1 h2 => by omega) (.inl rfl) x hx
theorem dw_drop (c : UInt8) : ∀ l : List UInt8, ∃ k, k ≤ l.length ∧ l.dropWhile (· == c) = l.drop k ∧ (k = l.length ∨ ∃ b, l[k]? = some b ∧ b ≠ c)
  | [] => ⟨0, Nat.le_refl _, rfl, .inl rfl⟩
  | b :: l => by
    by_cases h : (b == c) = true
    · obtain ⟨k, h1, h2, h3⟩ := dw_drop c l
      refine ⟨k + 1, by simp; omega, ?_, ?_⟩
      · rw [List.dropWhile_cons, if_pos h, h2]; rfl
      · rcases h3 with h3 | ⟨d, h4, h5⟩
        · exact .inl (by simp; exact h3)
        · exact .inr ⟨d, by simpa using h4, h5⟩
    · refine ⟨0, Nat.zero_le _, ?_, .inr ⟨b, rfl, by simpa using h⟩⟩
      rw [List.dropWhile_cons, if_neg h]; rfl
theorem trim_is (c : UInt8) (l : List UInt8) : ∃ p m : Nat, p + m ≤ l.length ∧ Lib.trimB l c = (l.drop p).take m ∧ (m = 0 ∨ ((∃ b, l[p]? = some b ∧ b ≠ c) ∧ ∃ b, l[p + m - 1]? = some b ∧ b ≠ c)) := by
  obtain ⟨k, h1, h2, h3⟩ := dw_drop c l.reverse
  rw [List.length_reverse] at h1 h3
  have e1 : Lib.trimRightB l c = l.take (l.length - k) := by
    unfold Lib.trimRightB
    rw [h2, List.reverse_drop, List.reverse_reverse, List.length_reverse]
  obtain ⟨p, g1, g2, g3⟩ := dw_drop c (l.take (l.length - k))
  rw [List.length_take] at g1 g3
  have e2 : Lib.trimB l c = (l.drop p).take (l.length - k - p) := by
    unfold Lib.trimB Lib.trimLeftB
    rw [e1, g2, List.drop_take]
  refine ⟨p, l.length - k - p, by omega, e2, ?_⟩
  rcases Nat.eq_zero_or_pos (l.length - k - p) with h0 | h0
  · exact .inl h0
  · right
    rcases g3 with g3 | ⟨b, g4, g5⟩
    · omega
    · rcases h3 with h3 | ⟨d, h4, h5⟩
      · omega
      · refine ⟨⟨b, ?_, g5⟩, d, ?_, h5⟩
        · rw [List.getElem?_take] at g4
          rwa [if_pos (by omega)] at g4
        · rw [List.getElem?_reverse (by omega)] at h4
          rw [show p + (l.length - k - p) - 1 = l.length - 1 - k by omega]
          exact h4
end Go.Proofs.YthkpnbelbaljdaaDoor.X
end
