/- The law FnOverlaps in plain numbers: the overlap of two phases is the number of ticks at which both are high, and even phases are as far apart as told. No conditions. -/
import Derived.Test.YtmhfknmjchaccaaPFnOverlapsx2
import Derived.Test.YtmhfknmjchaccaaCMath
namespace Go.Proofs.Ytmhfknmjchaccaa.Pure
open Go.RowKit Go.Proofs.Ytmhfknmjchaccaa.PFnOverlaps Go.Proofs.YtmhfknmjchaccaaW.PrintWords Go.Proofs.YtmhfknmjchaccaaW.PrintLast Go.Proofs.YtmhfknmjchaccaaW.PrintMore Go.Proofs.Ytmhfknmjchaccaa.CMath

theorem within_eq (a b c : Int) : impl_within.f a b c = some (decide (b ≤ a ∧ a ≤ c)) := by
  unfold impl_within.f; by_cases h : a ≥ b <;> simp [h] <;> omega
theorem at_ok (l : List Int) (k n : Int) (hk : 0 ≤ k) (hn : 1 ≤ n) (hw : ∀ x ∈ l, (Lit.int .u8 x).wf = true) :
    ∃ v, laws_r8At.f l k n = some v ∧ 0 ≤ v ∧ v < n := by
  unfold laws_r8At.f
  by_cases h1 : n ≤ 1
  · exact ⟨0, by rw [if_pos h1], by omega, by omega⟩
  · by_cases h2 : k ≥ (l.length : Int)
    · exact ⟨0, by rw [if_neg h1, if_pos h2], by omega, by omega⟩
    · have hlt : k.toNat < l.length := by omega
      have hx := hw (l[k.toNat]) (List.getElem_mem hlt)
      have hr : rd l k = l[k.toNat] := by unfold rd; rw [List.getD_eq_getElem?_getD, List.getElem?_eq_getElem hlt]; rfl
      have hmin : IntKind.u8.min = 0 := rfl
      have hmax : IntKind.u8.max = 255 := rfl
      simp only [Lit.wf, Bool.and_eq_true, decide_eq_true_eq] at hx
      refine ⟨l[k.toNat] % n, ?_, Int.emod_nonneg _ (by omega), Int.emod_lt_of_pos _ (by omega)⟩
      rw [if_neg h1, if_neg h2, if_pos hk, if_pos (by omega), if_neg (by omega), hr, w64 (by omega) (by omega), tmodp (by omega)]

def part (a l b s : Int) : Int := max 0 (min (a + l) (b + s) - max a b)
def tot (p a l b s : Int) : Int := part a l (b - p) s + part a l b s + part a l (b + p) s
theorem part_bd (a l b s p : Int) (ha : 0 ≤ a ∧ a ≤ p) (hl : 0 ≤ l ∧ l ≤ p) : 0 ≤ part a l b s ∧ part a l b s ≤ p := by unfold part; omega
theorem impl_ok (p a l b s : Int) (hp : 1 ≤ p ∧ p ≤ 100000) (ha : 0 ≤ a ∧ a ≤ p - 1) (hb : 0 ≤ b ∧ b ≤ p - 1) (hl : 0 ≤ l ∧ l ≤ p) (hs : 0 ≤ s ∧ s ≤ p) (k : Nat) :
    impl_OverlapOf.j0 (k + 5) p a l b s false = some (tot p a l b s, true) := by
  have b1 := part_bd a l (b - p) s p (by omega) (by omega)
  have b2 := part_bd a l b s p (by omega) (by omega)
  have b3 := part_bd a l (b + p) s p (by omega) (by omega)
  have e0 : wrap64 (-p) = -p := w64 (by omega) (by omega)
  have r0 : ∀ x y z : Int, rd [x, y, z] 0 = x := fun _ _ _ => rfl
  have r1 : ∀ x y z : Int, rd [x, y, z] 1 = y := fun _ _ _ => rfl
  have r2 : ∀ x y z : Int, rd [x, y, z] 2 = z := fun _ _ _ => rfl
  have q : ∀ c : Int, -100000 ≤ c ∧ c ≤ 100000 → mx 0 (wrap64 (mn (wrap64 (a + l)) (wrap64 (wrap64 (b + c) + s)) - mx a (wrap64 (b + c)))) = part a l (b + c) s := by
    intro c hc
    rw [w64 (n := a + l) (by omega) (by omega), w64 (n := b + c) (by omega) (by omega), w64 (n := b + c + s) (by omega) (by omega), mx_eq, mn_eq, mx_eq, w64 (by omega) (by omega)]
    rfl
  have c1 : wrap64 (0 + 1) = 1 := by unfold wrap64; omega
  have c2 : wrap64 (1 + 1) = 2 := by unfold wrap64; omega
  have c3 : wrap64 (2 + 1) = 3 := by unfold wrap64; omega
  have q1 := q (-p) (by omega)
  have q2 := q 0 (by omega)
  have q3 := q p (by omega)
  rw [show b + -p = b - p by omega] at q1
  rw [show b + 0 = b by omega] at q2
  rw [impl_OverlapOf.j0, if_neg (by simp), Option.bind_some, e0]
  simp only [List.length_cons, List.length_nil]
  rw [impl_OverlapOf.l0, if_pos (by omega), if_pos (by omega), if_pos (by simp), r0, show b + -p = b - p by omega, q1, c1,
    impl_OverlapOf.l0, if_pos (by omega), if_pos (by omega), if_pos (by simp), r1, show b + 0 = b by omega, q2, c2,
    impl_OverlapOf.l0, if_pos (by omega), if_pos (by omega), if_pos (by simp), r2, q3, c3,
    impl_OverlapOf.l0, if_neg (by omega), w64 (n := 0 + _) (by omega) (by omega), w64 (n := 0 + _ + _) (by omega) (by omega), w64 (by omega) (by omega)]
  simp [tot]
theorem overlap_ok (p a l b s : Int) (hp : 1 ≤ p ∧ p ≤ 100000) (ha : 0 ≤ a ∧ a ≤ p - 1) (hb : 0 ≤ b ∧ b ≤ p - 1) (hl : 0 ≤ l ∧ l ≤ p) (hs : 0 ≤ s ∧ s ≤ p) (k : Nat) :
    impl_OverlapOf.f (k + 5) p a l b s = some (tot p a l b s, true) := by
  unfold impl_OverlapOf.f
  have e1 : wrap64 (p - 1) = p - 1 := w64 (by omega) (by omega)
  simp only [within_eq, Option.bind_some, e1]
  simp [hp, ha, hb, hl, hs, impl_ok]

/-- How many of the numbers from 0 to below n lie in both parts. -/
def cl (n a l b s : Int) : Int := max 0 (min (min (a + l) (b + s)) n - max (max a b) 0)
def ind (t a l b s : Int) : Int := if a ≤ t ∧ t < a + l ∧ b ≤ t ∧ t < b + s then 1 else 0
theorem cl_succ (n a l b s : Int) (hn : 0 ≤ n) : cl (n + 1) a l b s = cl n a l b s + ind n a l b s := by
  unfold cl ind; split <;> omega
theorem tot_cl (p a l b s : Int) (ha : 0 ≤ a ∧ a ≤ p - 1) (hb : 0 ≤ b ∧ b ≤ p - 1) (hl : 0 ≤ l ∧ l ≤ p) (hs : 0 ≤ s ∧ s ≤ p) :
    cl p a l b s + cl p (a - p) l (b - p) s + cl p a l (b - p) s + cl p (a - p) l b s = tot p a l b s := by
  have e1 : cl p a l b s + cl p (a - p) l (b - p) s = part a l b s := by unfold cl part; omega
  have e2 : cl p a l (b - p) s = part a l (b - p) s := by unfold cl part; omega
  have e3 : cl p (a - p) l b s = part a l (b + p) s := by unfold cl part; omega
  unfold tot; omega
theorem modp (t p a : Int) (hp : 1 ≤ p ∧ p ≤ 100000) (ha : 0 ≤ a ∧ a ≤ p - 1) (ht : 0 ≤ t ∧ t < p) :
    Int.tmod (wrap64 (wrap64 (t + p) - a)) p = if a ≤ t then t - a else t - a + p := by
  rw [w64 (n := t + p) (by omega) (by omega), w64 (by omega) (by omega), tmodp (by omega)]
  split
  · rw [show t + p - a = (t - a) + p by omega, Int.add_emod_right, Int.emod_eq_of_lt (by omega) (by omega)]
  · rw [Int.emod_eq_of_lt (by omega) (by omega)]; omega
def F (n p a l b s : Int) : Int := cl n a l b s + cl n (a - p) l (b - p) s + cl n a l (b - p) s + cl n (a - p) l b s
theorem F_succ (t p a l b s : Int) (ha : 0 ≤ a ∧ a ≤ p - 1) (hb : 0 ≤ b ∧ b ≤ p - 1) (hl : 0 ≤ l ∧ l ≤ p) (hs : 0 ≤ s ∧ s ≤ p) (ht : 0 ≤ t ∧ t < p) :
    F (t + 1) p a l b s = F t p a l b s + if (if a ≤ t then t - a else t - a + p) < l ∧ (if b ≤ t then t - b else t - b + p) < s then 1 else 0 := by
  unfold F
  rw [cl_succ _ _ _ _ _ ht.1, cl_succ _ _ _ _ _ ht.1, cl_succ _ _ _ _ _ ht.1, cl_succ _ _ _ _ _ ht.1]
  have : ind t a l b s + ind t (a - p) l (b - p) s + ind t a l (b - p) s + ind t (a - p) l b s = if (if a ≤ t then t - a else t - a + p) < l ∧ (if b ≤ t then t - b else t - b + p) < s then 1 else 0 := by
    obtain ⟨x, hx, hx2⟩ : ∃ x, (if a ≤ t then t - a else t - a + p) = x ∧ ((a ≤ t ∧ x = t - a) ∨ (t < a ∧ x = t - a + p)) := ⟨_, rfl, by split <;> omega⟩
    obtain ⟨y, hy, hy2⟩ : ∃ y, (if b ≤ t then t - b else t - b + p) = y ∧ ((b ≤ t ∧ y = t - b) ∨ (t < b ∧ y = t - b + p)) := ⟨_, rfl, by split <;> omega⟩
    rw [hx, hy]
    clear hx hy
    unfold ind
    by_cases c : x < l ∧ y < s
    · rw [if_pos c]
      rcases hx2 with ⟨h1, h2⟩ | ⟨h1, h2⟩ <;> rcases hy2 with ⟨h3, h4⟩ | ⟨h3, h4⟩
      · rw [if_pos (by omega), if_neg (by omega), if_neg (by omega), if_neg (by omega)]; rfl
      · rw [if_neg (by omega), if_neg (by omega), if_pos (by omega), if_neg (by omega)]; rfl
      · rw [if_neg (by omega), if_neg (by omega), if_neg (by omega), if_pos (by omega)]; rfl
      · rw [if_neg (by omega), if_pos (by omega), if_neg (by omega), if_neg (by omega)]; rfl
    · rw [if_neg c, if_neg (by omega), if_neg (by omega), if_neg (by omega), if_neg (by omega)]; rfl
  omega
theorem F_zero (p a l b s : Int) : F 0 p a l b s = 0 := by
  have h : ∀ a l b s, cl 0 a l b s = 0 := by intro a l b s; unfold cl; omega
  unfold F; rw [h, h, h, h]; rfl
theorem F_bd (n p a l b s : Int) (hn : 0 ≤ n) : 0 ≤ F n p a l b s ∧ F n p a l b s ≤ 4 * n := by
  have h : ∀ a l b s, 0 ≤ cl n a l b s ∧ cl n a l b s ≤ n := by intro a l b s; unfold cl; omega
  have h1 := h a l b s
  have h2 := h (a - p) l (b - p) s
  have h3 := h a l (b - p) s
  have h4 := h (a - p) l b s
  unfold F; omega
theorem own_loop (L : List Int) (p a l b s n : Int) (one : Bool) (hp : 1 ≤ p ∧ p ≤ 100000) (ha : 0 ≤ a ∧ a ≤ p - 1) (hb : 0 ≤ b ∧ b ≤ p - 1) (hl : 0 ≤ l ∧ l ≤ p) (hs : 0 ≤ s ∧ s ≤ p) :
    ∀ (d k : Nat) (t : Int), 0 ≤ t → t + d = p → laws_FnOverlaps.l0 (k + d) L p a l b s n one (F t p a l b s) t = laws_FnOverlaps.l0 k L p a l b s n one (F p p a l b s) p
  | 0, k, t, h0, ht => by rw [show t = p by omega]; rfl
  | d + 1, k, t, h0, ht => by
    have ih := own_loop L p a l b s n one hp ha hb hl hs d k (t + 1) (by omega) (by omega)
    have bd := F_bd t p a l b s h0
    have st := F_succ t p a l b s ha hb hl hs ⟨h0, by omega⟩
    rw [show k + (d + 1) = (k + d) + 1 by omega, laws_FnOverlaps.l0, if_pos (by omega), if_neg (by omega), modp t p a hp ha ⟨h0, by omega⟩, modp t p b hp hb ⟨h0, by omega⟩,
      w64 (n := F t p a l b s + 1) (by omega) (by omega), w64 (n := t + 1) (by omega) (by omega), ← ih, st]
    by_cases c1 : (if a ≤ t then t - a else t - a + p) < l
    · rw [if_pos c1]
      by_cases c2 : (if b ≤ t then t - b else t - b + p) < s
      · rw [if_pos c2, if_pos ⟨c1, c2⟩]
      · rw [if_neg c2, if_neg (fun h => c2 h.2), Int.add_zero]
    · rw [if_neg c1, if_neg (fun h => c1 h.1), Int.add_zero]

def ph (p c : Int) (n : Nat) : List S25 := (List.range n).map fun (i : Nat) => (⟨p, (i : Int) * p / c⟩ : S25)
theorem ph_len (p c : Int) (n : Nat) : (ph p c n).length = n := by simp [ph]
theorem ph_succ (p c : Int) (n : Nat) : ph p c (n + 1) = ph p c n ++ [(⟨p, (n : Int) * p / c⟩ : S25)] := by simp [ph, List.range_succ]
theorem even_loop (p : Int) (c : Nat) (hp : 1 ≤ p ∧ p ≤ 100000) (hc : 1 ≤ c ∧ c ≤ 6) : ∀ (d k i : Nat), i + d = c → impl_EvenPhases.l0 (k + 1 + d) p c (ph p c i) c i = some (ph p c c, true)
  | 0, k, i, hi => by
    simp only [Nat.add_zero] at hi
    rw [Nat.add_zero, impl_EvenPhases.l0, if_neg (by omega), hi]
  | d + 1, k, i, hi => by
    have ih := even_loop p c hp hc d k (i + 1) (by omega)
    have m0 : 0 ≤ (i : Int) * p := Int.mul_nonneg (by omega) (by omega)
    have m1 : (i : Int) * p ≤ 6 * 100000 := Int.mul_le_mul (by omega) hp.2 (by omega) (by omega)
    have b := ediv_bd (a := (i : Int) * p) (b := (c : Int)) (by omega) (by omega)
    rw [show k + 1 + (d + 1) = (k + 1 + d) + 1 by omega, impl_EvenPhases.l0, if_pos (by omega), if_neg (by omega), if_pos (by rw [ph_len]; omega),
      w64 (n := (i : Int) * p) (by omega) (by omega), tdivp (by omega), w64 (n := (i : Int) * p / c) (by omega) (by omega), w64 (n := (i : Int) + 1) (by omega) (by omega), ← ph_succ]
    rw [Int.natCast_add, Int.natCast_one] at ih
    exact ih
theorem even_ok (p : Int) (c : Nat) (hp : 1 ≤ p ∧ p ≤ 100000) (hc : 1 ≤ c ∧ c ≤ 6) (k : Nat) : impl_EvenPhases.f (k + 2 + c) p c = some (ph p c c, true) := by
  unfold impl_EvenPhases.f
  have e := even_loop p c hp hc c k 0 (by omega)
  have h6 : 1 ≤ (c : Int) ∧ (c : Int) ≤ 6 := by omega
  have j : impl_EvenPhases.j0 (k + 2 + c) p c false = some (ph p c c, true) := by
    rw [show k + 2 + c = (k + 1 + c) + 1 by omega, impl_EvenPhases.j0, if_neg (by simp)]; exact e
  simp only [within_eq, Option.bind_some]
  simp [hp, h6, j]
theorem rd_ph (p c : Int) (n i : Nat) (h : i < n) : rd_T25 (ph p c n) (i : Int) = (⟨p, (i : Int) * p / c⟩ : S25) := by
  unfold rd_T25 ph
  simp [h]
theorem chk_loop (p : Int) (c : Nat) (hp : 1 ≤ p ∧ p ≤ 100000) (hc : 1 ≤ c ∧ c ≤ 6) : ∀ (d k i : Nat), i + d = c → laws_FnOverlaps.l1 (k + 1 + d) p c (ph p c c) i = some true
  | 0, k, i, hi => by rw [Nat.add_zero, laws_FnOverlaps.l1, if_neg (by omega)]
  | d + 1, k, i, hi => by
    have ih := chk_loop p c hp hc d k (i + 1) (by omega)
    have m0 : 0 ≤ (i : Int) * p := Int.mul_nonneg (by omega) (by omega)
    have m1 : (i : Int) * p ≤ 6 * 100000 := Int.mul_le_mul (by omega) hp.2 (by omega) (by omega)
    have b := ediv_bd (a := (i : Int) * p) (b := (c : Int)) (by omega) (by omega)
    have q0 : (i : Int) * p / c * c ≤ (i : Int) * p := Int.ediv_mul_le _ (by omega)
    have q1 : (i : Int) * p < ((i : Int) * p / c + 1) * c := Int.lt_ediv_add_one_mul_self _ (by omega)
    have q2 : 0 ≤ (i : Int) * p / c * c := Int.mul_nonneg b.1 (by omega)
    have q3 : ((i : Int) * p / c + 1) * c = (i : Int) * p / c * c + c := by rw [Int.add_mul]; omega
    rw [show k + 1 + (d + 1) = (k + 1 + d) + 1 by omega, laws_FnOverlaps.l1, if_pos (by omega), if_pos (by omega), if_pos (by rw [ph_len]; omega), rd_ph p c c i (by omega)]
    simp only
    rw [if_pos trivial, w64 (n := (i : Int) * p / c * c) (by omega) (by omega), w64 (n := (i : Int) * p) (by omega) (by omega), if_neg (by omega),
      w64 (n := (i : Int) * p / c + 1) (by omega) (by omega), w64 (n := ((i : Int) * p / c + 1) * c) (by omega) (by omega), if_neg (by omega), w64 (n := (i : Int) + 1) (by omega) (by omega)]
    rw [Int.natCast_add, Int.natCast_one] at ih
    exact ih

theorem FnOverlaps : laws_FnOverlaps.Pure := by
  intro l0 l1 _ _ hw0 _ _ hw1
  by_cases hr : laws_r8Long.f l0 l1 = some true
  · refine ⟨1, ?_⟩
    unfold laws_FnOverlaps.f
    rw [hr, Option.bind_some, if_pos rfl]
  · have hr2 : laws_r8Long.f l0 l1 = some false := by
      unfold laws_r8Long.f at hr ⊢
      by_cases h : (l0.length : Int) > 48
      · rw [if_pos h] at hr; exact absurd rfl hr
      · rw [if_neg h] at hr ⊢
        by_cases h2 : (l1.length : Int) > 48
        · rw [decide_eq_true h2] at hr; exact absurd rfl hr
        · rw [decide_eq_false h2]
    obtain ⟨v0, e0, b0, c0⟩ := at_ok l0 0 40 (by omega) (by omega) hw0
    obtain ⟨p, hp⟩ : ∃ p, p = 1 + v0 := ⟨_, rfl⟩
    obtain ⟨a, e1, b1, c1⟩ := at_ok l1 0 p (by omega) (by omega) hw1
    obtain ⟨l, e2, b2, c2⟩ := at_ok l1 1 (p + 1) (by omega) (by omega) hw1
    obtain ⟨b, e3, b3, c3⟩ := at_ok l1 2 p (by omega) (by omega) hw1
    obtain ⟨s, e4, b4, c4⟩ := at_ok l1 3 (p + 1) (by omega) (by omega) hw1
    obtain ⟨v5, e5, b5, c5⟩ := at_ok l1 4 6 (by omega) (by omega) hw1
    obtain ⟨c, hc⟩ : ∃ c : Nat, (c : Int) = 1 + v5 := ⟨(1 + v5).toNat, by omega⟩
    obtain ⟨d, hd⟩ : ∃ d : Nat, (d : Int) = p := ⟨p.toNat, by omega⟩
    have hp2 : 1 ≤ p ∧ p ≤ 100000 := by omega
    have hc2 : 1 ≤ c ∧ c ≤ 6 := by omega
    have w0 : wrap64 (1 + v0) = p := by rw [w64 (by omega) (by omega), hp]
    have w1 : wrap64 (p + 1) = p + 1 := w64 (by omega) (by omega)
    have w5 : wrap64 (1 + v5) = c := by rw [w64 (by omega) (by omega), hc]
    have ov := overlap_ok p a l b s hp2 ⟨b1, by omega⟩ ⟨b3, by omega⟩ ⟨b2, by omega⟩ ⟨b4, by omega⟩ (95 + d)
    have ol := own_loop l1 p a l b s (tot p a l b s) true hp2 ⟨b1, by omega⟩ ⟨b3, by omega⟩ ⟨b2, by omega⟩ ⟨b4, by omega⟩ d 100 0 (by omega) (by omega)
    have fe : F p p a l b s = tot p a l b s := tot_cl p a l b s ⟨b1, by omega⟩ ⟨b3, by omega⟩ ⟨b2, by omega⟩ ⟨b4, by omega⟩
    have ev := even_ok p c hp2 hc2 (97 - c)
    have ck := chk_loop p c hp2 hc2 c (97 - c) 0 (by omega)
    rw [F_zero] at ol
    refine ⟨100 + d, ?_⟩
    unfold laws_FnOverlaps.f
    rw [hr2, Option.bind_some, if_neg (by simp), e0, Option.bind_some, w0, w1, e1, Option.bind_some, e2, Option.bind_some, e3, Option.bind_some, e4, Option.bind_some,
      show 100 + d = 95 + d + 5 by omega, ov, Option.bind_some]
    simp only
    rw [show 95 + d + 5 = 100 + d by omega, ol, show (100 : Nat) = 99 + 1 by rfl, laws_FnOverlaps.l0, if_neg (by omega), e5, Option.bind_some, w5,
      show (99 : Nat) = 97 - c + 2 + c by omega, ev, Option.bind_some]
    simp only [if_true]
    rw [if_pos fe, show 97 - c + 2 + c = (97 - c + 1 + c) + 1 by omega, laws_FnOverlaps.j1, if_neg (by rw [ph_len]; simp)]
    exact ck
end Go.Proofs.Ytmhfknmjchaccaa.Pure
