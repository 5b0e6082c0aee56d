/- My own texts of this seat and its words, merged: CSwitched. Conditions: as each lemma says. -/
import Derived.Test.YthkpnbelbaljdaaDoorL24
import Derived.Test.YthkpnbelbaljdaaDoorL25
section
/- A switched clock: the plain law of FnSwitched. Conditions: as each lemma says. -/
namespace Go.Proofs.YthkpnbelbaljdaaDoor.X
open Go.RowKit Go.Proofs.YthkpnbelbaljdaaDoorW.PrintWords Go.Proofs.YthkpnbelbaljdaaDoorW.PrintLast Go.Proofs.YthkpnbelbaljdaaDoorW.PrintMore
set_option linter.unusedVariables false
set_option linter.unusedSimpArgs false
/-- The enables are never on together. -/
theorem sw_apart (a b c : ByteArray) (m fi : Int) : ∀ n, ((swAt a b c (sw0 m fi) n).e0 && (swAt a b c (sw0 m fi) n).e1) = false
  | 0 => by
    show ((fi == 0) && (fi == 1)) = false
    by_cases h : fi = 0
    · subst h; rfl
    · rw [beq_eq_false_iff_ne.mpr h]; rfl
  | n + 1 => by
    have ih := sw_apart a b c m fi n
    show ((tick a b c (n : Int) (swAt a b c (sw0 m fi) n)).e0 && (tick a b c (n : Int) (swAt a b c (sw0 m fi) n)).e1) = false
    generalize swAt a b c (sw0 m fi) n = s at ih ⊢
    have h0 : ((side0 a c (n : Int) s).e0 && (side0 a c (n : Int) s).e1) = false := by
      unfold side0
      split
      · simp
      · exact ih
    unfold tick
    generalize side0 a c (n : Int) s = s1 at h0 ⊢
    unfold side1
    split
    · simp
      intro h _; exact h
    · exact h0
/-- The first enable changes only where the first clock goes down. -/
theorem sw_keep0 (a b c : ByteArray) (m fi : Int) (n : Nat) (h : dn a (n : Int) = false) : (swAt a b c (sw0 m fi) (n + 1)).e0 = (swAt a b c (sw0 m fi) n).e0 := by
  show (tick a b c (n : Int) (swAt a b c (sw0 m fi) n)).e0 = _
  generalize swAt a b c (sw0 m fi) n = s
  have h0 : (side0 a c (n : Int) s) = s := by unfold side0; rw [if_neg (by rw [h]; decide)]
  unfold tick
  rw [h0]
  unfold side1
  split <;> rfl
theorem sw_keep1 (a b c : ByteArray) (m fi : Int) (n : Nat) (h : dn b (n : Int) = false) : (swAt a b c (sw0 m fi) (n + 1)).e1 = (swAt a b c (sw0 m fi) n).e1 := by
  show (tick a b c (n : Int) (swAt a b c (sw0 m fi) n)).e1 = _
  generalize swAt a b c (sw0 m fi) n = s
  unfold tick
  have h1 : (side0 a c (n : Int) s).e1 = s.e1 := by unfold side0; split <;> rfl
  unfold side1
  rw [if_neg (by rw [h]; decide)]
  exact h1
theorem dn_high (z : ByteArray) (n : Nat) (h : bt z (n : Int) = 49) : dn z (n : Int) = false := by
  unfold dn; rw [h]; simp
theorem dn_zero (z : ByteArray) : dn z ((0 : Nat) : Int) = false := by unfold dn; simp
theorem dn_true (z : ByteArray) (n : Nat) (h : dn z (n : Int) = true) : 0 < n ∧ bt z ((n : Int) - 1) = 49 ∧ bt z (n : Int) = 48 := by
  unfold dn at h
  simp only [Bool.and_eq_true, decide_eq_true_eq, beq_iff_eq] at h
  exact ⟨by omega, h.2.1, h.2.2⟩
/-- The output goes with the clock whose enable is on. -/
theorem out_goes (a b c o : ByteArray) (m fi : Int) (hla : Lev a) (hlb : Lev b) (ho : Lev o) (han : a.size = o.size) (hbn : b.size = o.size) (hlv : ∀ i : Nat, i < o.size → (bt o (i : Int) = 49 ↔ lvl a b i (swAt a b c (sw0 m fi) (i + 1)) = true)) (i : Nat) (hi : i < o.size) (hE : isE o 49 i = true) : Goes o a i ∨ Goes o b i := by
  obtain ⟨h49, hpre⟩ := (isE_one o i).1 hE
  have hl := (hlv i hi).1 h49
  have lvlE : ∀ j : Nat, j < o.size → (bt o (j : Int) = 49 ↔ (bt a (j : Int) = 49 ∧ (swAt a b c (sw0 m fi) (j + 1)).e0 = true) ∨ (bt b (j : Int) = 49 ∧ (swAt a b c (sw0 m fi) (j + 1)).e1 = true)) := by
    intro j hj
    rw [hlv j hj]
    unfold lvl
    simp only [Bool.or_eq_true, Bool.and_eq_true, beq_iff_eq]
  rcases (lvlE i hi).1 h49 with ⟨h1, h2⟩ | ⟨h1, h2⟩
  · left
    have k0 := sw_keep0 a b c m fi i (dn_high a i h1)
    refine ⟨(isE_one a i).2 ⟨h1, ?_⟩, ?_⟩
    · rcases hpre with h | h
      · exact .inl h
      · right
        intro ha49
        rcases Nat.eq_zero_or_pos i with h0 | h0
        · subst h0; exact h h49
        · apply h
          obtain ⟨q, rfl⟩ : ∃ q, i = q + 1 := ⟨i - 1, by omega⟩
          rw [Nat.add_sub_cancel] at ha49 ⊢
          exact (lvlE q (by omega)).2 (.inl ⟨ha49, by rw [← k0]; exact h2⟩)
    · have key : ∀ d j : Nat, j = i + d → j < o.size → (∀ r : Nat, i ≤ r → r < j → bt o (r : Int) = 49) → (j = i ∨ (swAt a b c (sw0 m fi) j).e0 = true) ∧ (bt o (j : Int) = 49 ↔ bt a (j : Int) = 49) := by
        intro d
        induction d with
        | zero => intro j hj hjn _; obtain rfl : j = i := by omega
                  exact ⟨.inl rfl, by rw [h49, h1]⟩
        | succ d ih =>
          intro j hj hjn hall
          obtain ⟨q, rfl⟩ : ∃ q, j = q + 1 := ⟨j - 1, by omega⟩
          obtain ⟨i1, i2⟩ := ih q (by omega) (by omega) (fun r h1 h2 => hall r h1 (by omega))
          have haq := i2.1 (hall q (by omega) (by omega))
          have he : (swAt a b c (sw0 m fi) (q + 1)).e0 = true := by
            rcases i1 with rfl | i1
            · exact h2
            · rw [sw_keep0 a b c m fi q (dn_high a q haq)]; exact i1
          refine ⟨.inr he, ?_⟩
          have hne := sw_apart a b c m fi (q + 1)
          rw [he, Bool.true_and] at hne
          constructor
          · intro hoj
            rcases (lvlE (q + 1) hjn).1 hoj with ⟨x1, _⟩ | ⟨x1, x2⟩
            · exact x1
            · have := sw_keep1 a b c m fi (q + 1) (dn_high b (q + 1) x1)
              rw [this, hne] at x2
              cases x2
          · intro haj
            exact (lvlE (q + 1) hjn).2 (.inl ⟨haj, by rw [sw_keep0 a b c m fi (q + 1) (dn_high a (q + 1) haj)]; exact he⟩)
      intro j hij hjn hall
      exact (key (j - i) j (by omega) hjn hall).2
  · right
    have k0 := sw_keep1 a b c m fi i (dn_high b i h1)
    refine ⟨(isE_one b i).2 ⟨h1, ?_⟩, ?_⟩
    · rcases hpre with h | h
      · exact .inl h
      · right
        intro ha49
        rcases Nat.eq_zero_or_pos i with h0 | h0
        · subst h0; exact h h49
        · apply h
          obtain ⟨q, rfl⟩ : ∃ q, i = q + 1 := ⟨i - 1, by omega⟩
          rw [Nat.add_sub_cancel] at ha49 ⊢
          exact (lvlE q (by omega)).2 (.inr ⟨ha49, by rw [← k0]; exact h2⟩)
    · have key : ∀ d j : Nat, j = i + d → j < o.size → (∀ r : Nat, i ≤ r → r < j → bt o (r : Int) = 49) → (j = i ∨ (swAt a b c (sw0 m fi) j).e1 = true) ∧ (bt o (j : Int) = 49 ↔ bt b (j : Int) = 49) := by
        intro d
        induction d with
        | zero => intro j hj hjn _; obtain rfl : j = i := by omega
                  exact ⟨.inl rfl, by rw [h49, h1]⟩
        | succ d ih =>
          intro j hj hjn hall
          obtain ⟨q, rfl⟩ : ∃ q, j = q + 1 := ⟨j - 1, by omega⟩
          obtain ⟨i1, i2⟩ := ih q (by omega) (by omega) (fun r h1 h2 => hall r h1 (by omega))
          have haq := i2.1 (hall q (by omega) (by omega))
          have he : (swAt a b c (sw0 m fi) (q + 1)).e1 = true := by
            rcases i1 with rfl | i1
            · exact h2
            · rw [sw_keep1 a b c m fi q (dn_high b q haq)]; exact i1
          refine ⟨.inr he, ?_⟩
          have hne := sw_apart a b c m fi (q + 1)
          rw [he, Bool.and_true] at hne
          constructor
          · intro hoj
            rcases (lvlE (q + 1) hjn).1 hoj with ⟨x1, x2⟩ | ⟨x1, _⟩
            · have := sw_keep0 a b c m fi (q + 1) (dn_high a (q + 1) x1)
              rw [this, hne] at x2
              cases x2
            · exact x1
          · intro haj
            exact (lvlE (q + 1) hjn).2 (.inr ⟨haj, by rw [sw_keep1 a b c m fi (q + 1) (dn_high b (q + 1) haj)]; exact he⟩)
      intro j hij hjn hall
      exact (key (j - i) j (by omega) hjn hall).2
/-- What the law's loop asks of a tick. -/
structure Tk (a b c o x y pl : ByteArray) (n : Nat) : Prop where
  lc : Lev c
  la : Lev a
  lb : Lev b
  za : a.size = n
  zb : b.size = n
  zc : c.size = n
  zo : o.size = n
  zx : x.size = n
  zy : y.size = n
  zp : pl.size = n
  apart : ∀ i : Nat, i < n → bt x (i : Int) = 49 → ¬ bt y (i : Int) = 49
  out : ∀ i : Nat, i < n → (bt o (i : Int) == 49) = (((bt x (i : Int) == 49) && (bt a (i : Int) == 49)) || ((bt y (i : Int) == 49) && (bt b (i : Int) == 49)))
  plain : ∀ i : Nat, i < n → bt pl (i : Int) = if bt c (i : Int) = 49 then bt b (i : Int) else bt a (i : Int)
  chx : ∀ i : Nat, i + 1 < n → ¬ bt x ((i + 1 : Nat) : Int) = bt x (i : Int) → bt a ((i + 1 : Nat) : Int) = 48 ∧ bt a (i : Int) = 49
  chy : ∀ i : Nat, i + 1 < n → ¬ bt y ((i + 1 : Nat) : Int) = bt y (i : Int) → bt b ((i + 1 : Nat) : Int) = 48 ∧ bt b (i : Int) = 49
section
variable {a b c o x y pl : ByteArray} {n : Nat} (T : Tk a b c o x y pl n) (ts : List Int)
include T
theorem sw_1 (k i : Nat) (hi : i < n) (m : Int) : laws_FnSwitched.l0 (k + 1) n a b c o x y pl ts m i = laws_FnSwitched.j2 k n a b c o x y pl ts m i false := by
  have h1 := T.za; have h2 := T.zb; have h3 := T.zo; have h4 := T.zx; have h5 := T.zy
  have ho := T.out i hi
  rw [laws_FnSwitched.l0, if_pos (by omega), if_pos (by omega), if_pos (by omega)]
  by_cases hx : bt x (i : Int) = 49
  · have hy := T.apart i hi hx
    rw [if_pos hx, if_pos (by omega), if_neg hy, if_pos (by omega), if_pos (by omega), ho, hx, beq_eq_false_iff_ne.mpr hy]
    by_cases ha : bt a (i : Int) = 49
    · rw [if_pos ha, ha]; rfl
    · rw [if_neg ha, beq_eq_false_iff_ne.mpr ha]; rfl
  · rw [if_neg hx, if_pos (by omega), if_pos (by omega), ho, beq_eq_false_iff_ne.mpr hx]
    by_cases hy : bt y (i : Int) = 49
    · rw [if_pos hy, if_pos (by omega), hy]
      cases (bt b (i : Int) == 49) <;> rfl
    · rw [if_neg hy, beq_eq_false_iff_ne.mpr hy]; rfl
theorem sw_2 (k i : Nat) (hi : i < n) (m : Int) : laws_FnSwitched.j2 (k + 1) n a b c o x y pl ts m i false = laws_FnSwitched.j3 k n a b c o x y pl ts m i (bt pl (i : Int)) := by
  have h1 := T.za; have h2 := T.zb; have h3 := T.zc
  rw [laws_FnSwitched.j2, if_neg (by decide), if_pos (by omega), if_pos (by omega), if_pos (by omega), T.plain i hi]
  by_cases hc : bt c (i : Int) = 49
  · rw [if_pos hc, if_pos (by omega), if_pos hc]
  · rw [if_neg hc, if_neg hc]
theorem sw_30 (hn : n ≤ 1000) (k : Nat) (hi : 0 < n) (m : Int) : laws_FnSwitched.j3 (k + 1) n a b c o x y pl ts m ((0 : Nat) : Int) (bt pl ((0 : Nat) : Int)) = laws_FnSwitched.l0 k n a b c o x y pl ts m ((1 : Nat) : Int) := by
  have h1 := T.zp
  rw [laws_FnSwitched.j3, if_pos (by omega), if_pos (by omega), if_pos rfl, if_pos (by rfl), w64 (by omega) (by omega)]; rfl
theorem sw_3 (hn : n ≤ 1000) (k i : Nat) (hi : i + 1 < n) (m : Int) : laws_FnSwitched.j3 (k + 1) n a b c o x y pl ts m ((i + 1 : Nat) : Int) (bt pl ((i + 1 : Nat) : Int)) = laws_FnSwitched.j4 k n a b c o x y pl ts m ((i + 1 : Nat) : Int) false := by
  have h1 := T.zp; have h2 := T.zx; have h3 := T.zy; have h4 := T.za; have h5 := T.zb
  have e : wrap64 (((i + 1 : Nat) : Int) - 1) = (i : Int) := by rw [w64 (by omega) (by omega)]; omega
  have hy : laws_FnSwitched.j3 (k + 1) n a b c o x y pl ts m ((i + 1 : Nat) : Int) (bt pl ((i + 1 : Nat) : Int)) = laws_FnSwitched.j3 (k + 1) n a b c o x y pl ts m ((i + 1 : Nat) : Int) (bt pl ((i + 1 : Nat) : Int)) := rfl
  rw [laws_FnSwitched.j3, if_pos (by omega), if_pos (by omega), if_pos rfl, if_neg (by omega), if_pos (by omega), e, if_pos (by omega), if_pos (by omega)]
  have tailY : (if ((i + 1 : Nat) : Int) < (y.size : Int) then (if (i : Int) < (y.size : Int) then (if (bt y ((i + 1 : Nat) : Int)) = (bt y (i : Int)) then (laws_FnSwitched.j4 k n a b c o x y pl ts m ((i + 1 : Nat) : Int) false) else (if ((i + 1 : Nat) : Int) < (b.size : Int) then (if (bt b ((i + 1 : Nat) : Int)) = 48 then (if (i : Int) < (b.size : Int) then (laws_FnSwitched.j4 k n a b c o x y pl ts m ((i + 1 : Nat) : Int) ((bt b (i : Int)) != 49)) else (none)) else (laws_FnSwitched.j4 k n a b c o x y pl ts m ((i + 1 : Nat) : Int) true)) else (none))) else (none)) else (none)) = laws_FnSwitched.j4 k n a b c o x y pl ts m ((i + 1 : Nat) : Int) false := by
    rw [if_pos (by omega), if_pos (by omega)]
    by_cases hy : bt y ((i + 1 : Nat) : Int) = bt y (i : Int)
    · rw [if_pos hy]
    · obtain ⟨q1, q2⟩ := T.chy i hi hy
      rw [if_neg hy, if_pos (by omega), if_pos q1, if_pos (by omega), q2]; rfl
  by_cases hx : bt x ((i + 1 : Nat) : Int) = bt x (i : Int)
  · rw [if_pos hx, tailY]
  · obtain ⟨q1, q2⟩ := T.chx i hi hx
    rw [if_neg hx, if_pos (by omega), if_pos q1, if_pos (by omega), if_pos q2, tailY]
theorem sw_4 (hn : n ≤ 1000) (k i : Nat) (hi : i + 1 < n) (m : Int) (p q : Int) : laws_FnSwitched.j4 (k + 1) n a b c o x y pl ts m ((i + 1 : Nat) : Int) false = laws_FnSwitched.j5 k n a b c o x y pl ts m ((i + 1 : Nat) : Int) (chg x y p q (i + 1)) := by
  have h2 := T.zx; have h3 := T.zy
  have e : wrap64 (((i + 1 : Nat) : Int) - 1) = (i : Int) := by rw [w64 (by omega) (by omega)]; omega
  rw [laws_FnSwitched.j4, if_neg (by decide), if_pos (by omega), if_pos (by omega), e, if_pos (by omega), if_pos (by omega)]
  unfold chg
  rw [show pvb x p (i + 1) = bt x (i : Int) from rfl, show pvb y q (i + 1) = bt y (i : Int) from rfl]
  by_cases hx : bt x ((i + 1 : Nat) : Int) = bt x (i : Int)
  · rw [if_pos hx, if_pos (by omega), if_pos (by omega), beq_iff_eq.mpr hx, Bool.true_and]; rfl
  · rw [if_neg hx, beq_eq_false_iff_ne.mpr hx]; rfl
theorem sw_round (hn : n ≤ 1000) (p q : Int) (hts : ts = chgs x y p q n) (k i : Nat) (hi : i + 1 < n) : laws_FnSwitched.l0 (k + 5) n a b c o x y pl ts (chgs x y p q (i + 1)).length ((i + 1 : Nat) : Int) = laws_FnSwitched.l0 k n a b c o x y pl ts (chgs x y p q (i + 2)).length ((i + 2 : Nat) : Int) := by
  have hl := chgs_len x y p q (i + 1)
  rw [sw_1 T ts (k + 4) (i + 1) hi, sw_2 T ts (k + 3) (i + 1) hi, sw_3 T ts hn (k + 2) i hi, sw_4 T ts hn (k + 1) i hi _ p q, laws_FnSwitched.j5]
  have e : wrap64 (((i + 1 : Nat) : Int) + 1) = ((i + 2 : Nat) : Int) := by rw [w64 (by omega) (by omega)]; omega
  rw [e, show chgs x y p q (i + 2) = chgs x y p q (i + 1) ++ (if chg x y p q (i + 1) = true then [((i + 1 : Nat) : Int)] else []) from rfl]
  cases hc : chg x y p q (i + 1) with
  | false => rw [if_neg (by decide), if_neg (by decide), List.append_nil]
  | true =>
    have hpre : ∀ d, ∃ r, chgs x y p q (i + 2 + d) = chgs x y p q (i + 2) ++ r := by
      intro d
      induction d with
      | zero => exact ⟨[], by simp⟩
      | succ d ih =>
        obtain ⟨r, hr⟩ := ih
        exact ⟨r ++ (if chg x y p q (i + 2 + d) = true then [((i + 2 + d : Nat) : Int)] else []), by rw [show chgs x y p q (i + 2 + (d + 1)) = chgs x y p q (i + 2 + d) ++ (if chg x y p q (i + 2 + d) = true then [((i + 2 + d : Nat) : Int)] else []) from rfl, hr, List.append_assoc]⟩
    obtain ⟨r, hr⟩ := hpre (n - (i + 2))
    rw [show i + 2 + (n - (i + 2)) = n by omega, show chgs x y p q (i + 2) = chgs x y p q (i + 1) ++ (if chg x y p q (i + 1) = true then [((i + 1 : Nat) : Int)] else []) from rfl, hc, if_pos rfl] at hr
    have hlen : (chgs x y p q (i + 1)).length < ts.length := by rw [hts, hr]; simp
    have hrd : rd ts ((chgs x y p q (i + 1)).length : Int) = ((i + 1 : Nat) : Int) := by
      rw [rd_nat ts _ hlen]
      simp only [hts, hr]
      simp
    rw [if_pos rfl, if_neg (by omega), if_pos (by omega), if_pos (by omega), if_pos hrd, if_pos rfl, w64 (by omega) (by omega), List.length_append]; rfl
theorem sw_loop (hn : n ≤ 1000) (p q : Int) (hts : ts = chgs x y p q n) : ∀ (d i k : Nat), i + 1 + d = n → 5 * d < k → laws_FnSwitched.l0 k n a b c o x y pl ts (chgs x y p q (i + 1)).length ((i + 1 : Nat) : Int) = some true
  | 0, i, k, hi, hk => by
    cases k with
    | zero => omega
    | succ k =>
      obtain rfl : n = i + 1 := by omega
      rw [laws_FnSwitched.l0, if_neg (by omega), hts]; simp
  | d + 1, i, k, hi, hk => by
    obtain ⟨k, rfl⟩ : ∃ q, k = q + 5 := ⟨k - 5, by omega⟩
    rw [sw_round T ts hn p q hts k i (by omega)]
    exact sw_loop hn p q hts d (i + 1) k (by omega) (by omega)
theorem sw_all (hn : n ≤ 1000) (p q : Int) (hts : ts = chgs x y p q n) (h0 : 0 < n → chg x y p q 0 = false) (k : Nat) (hk : 5 * n + 4 < k) : laws_FnSwitched.l0 k n a b c o x y pl ts 0 0 = some true := by
  rcases Nat.eq_zero_or_pos n with hz | hz
  · cases k with
    | zero => omega
    | succ k =>
      subst hz
      rw [laws_FnSwitched.l0, if_neg (by omega), hts]; rfl
  · obtain ⟨k, rfl⟩ : ∃ q, k = q + 3 := ⟨k - 3, by omega⟩
    have s1 := sw_1 T ts (k + 2) 0 hz 0
    have s2 := sw_2 T ts (k + 1) 0 hz 0
    have s3 := sw_30 T ts hn k hz 0
    have s4 := sw_loop T ts hn p q hts (n - 1) 0 k (by omega) (by omega)
    have e : chgs x y p q (0 + 1) = [] := by
      show [] ++ (if chg x y p q 0 = true then [((0 : Nat) : Int)] else []) = []
      rw [h0 hz]; rfl
    rw [e] at s4
    rw [show ((0 : Nat) : Int) = 0 from rfl] at s1 s2 s3
    rw [s1, s2, s3]
    exact s4
end
theorem lvs_bt (lv : Nat → Bool) (n i : Nat) (hi : i < n) : bt (strOfNums (lvs lv n)) (i : Int) = if lv i = true then 49 else 48 := by
  have hl : i < (lvs lv n).length := by rw [lvs_len]; exact hi
  have e : (lvs lv n)[i] = if lv i = true then 49 else 48 := by simp [lvs]
  rw [bt_str _ i hl (by rw [e]; split <;> omega) (by rw [e]; split <;> omega), e]
theorem lvs_lev (lv : Nat → Bool) (n : Nat) : Lev (strOfNums (lvs lv n)) := by
  intro i hi
  rw [lvs_size] at hi
  rw [lvs_bt lv n i hi]
  cases lv i
  · exact .inl rfl
  · exact .inr rfl
theorem FnSwitched_pure : laws_FnSwitched.Pure := by
  intro l0 l1 _ _ hw0 _ _ hw1
  have b0 := byt_wf hw0
  have b1 := byt_wf hw1
  refine ⟨10000, ?_⟩
  generalize hk : 10000 = k
  have hkl : 5000 < k := by omega
  clear hk
  unfold laws_FnSwitched.f laws_b10Long.f
  by_cases hl0 : (l0.length : Int) > 1048576
  · rw [if_pos hl0, Option.bind_some, if_pos rfl]
  · rw [if_neg hl0, Option.bind_some]
    by_cases hl1 : (l1.length : Int) > 1048576
    · rw [if_pos (decide_eq_true hl1)]
    · rw [if_neg (by rw [decide_eq_false hl1]; decide)]
      obtain ⟨t, ht, t0, t1⟩ := at_ok l0 b0 0 60 (by omega) (by omega) (by omega)
      obtain ⟨n, rfl⟩ : ∃ n : Nat, t = n := ⟨t.toNat, by omega⟩
      have hn : n ≤ 60 := by omega
      rw [show ((0 : Nat) : Int) = 0 from rfl, show ((60 : Nat) : Int) = 60 from rfl] at ht
      rw [ht, Option.bind_some]
      obtain ⟨a, ea, za, la⟩ := clock_ok k l0 b0 n (by omega) (by omega)
      obtain ⟨b, eb, zb, lb⟩ := clock_ok k l1 b1 n (by omega) (by omega)
      obtain ⟨c, ec, zc, lc⟩ := levels_ok k l1 b1 n (by omega) (by omega)
      rw [ea, Option.bind_some, eb, Option.bind_some, ec, Option.bind_some]
      obtain ⟨st, hst, s0, s1⟩ := at_ok l1 b1 1 4 (by omega) (by omega) (by omega)
      obtain ⟨fi, hfi, f0, f1⟩ := at_ok l1 b1 2 2 (by omega) (by omega) (by omega)
      rw [show ((1 : Nat) : Int) = 1 from rfl, show ((4 : Nat) : Int) = 4 from rfl] at hst
      rw [show ((2 : Nat) : Int) = 2 from rfl] at hfi
      rw [hst, Option.bind_some, hfi, Option.bind_some]
      have hs : swOk st fi = true := by unfold swOk; simp only [Bool.and_eq_true, decide_eq_true_eq]; omega
      have wa : isW a = true := (isW_iff a).2 ⟨by omega, la⟩
      have wb : isW b = true := (isW_iff b).2 ⟨by omega, lb⟩
      have wc : isW c = true := (isW_iff c).2 ⟨by omega, lc⟩
      have hw : wv3 a b c = true := by unfold wv3; rw [wa, wb, wc]; simp; omega
      have e3 : impl_areWaves.f [a, b, c] = some true := by rw [are3_eq a b c (by omega) (by omega) (by omega)]; exact congrArg some hw
      have hrun := run_eq st fi a b c hs hw
      have eSafe : impl_SafeSwitch.f st fi a b c = some (strOfNums (lvs (fun i => lvl a b i (swAt a b c (sw0 st fi) (i + 1))) a.size), true) := by
        unfold impl_SafeSwitch.f
        rw [valid_eq, Option.bind_some, hs, if_pos rfl, e3, Option.bind_some, if_pos rfl, hrun]; rfl
      have eEn : impl_EnablesOf.f st fi a b c = some (strOfNums (lvs (fun i => (swAt a b c (sw0 st fi) (i + 1)).e0) a.size), strOfNums (lvs (fun i => (swAt a b c (sw0 st fi) (i + 1)).e1) a.size), true) := by
        unfold impl_EnablesOf.f
        rw [valid_eq, Option.bind_some, hs, if_pos rfl, e3, Option.bind_some, if_pos rfl, hrun]; rfl
      have ePl : impl_PlainSwitch.f a b c = some (strOfNums (lvs (fun i => plv a b c i) a.size), true) := by
        unfold impl_PlainSwitch.f
        rw [e3, Option.bind_some, if_pos rfl]
      rw [za] at eSafe eEn ePl
      generalize hO : strOfNums (lvs (fun i => lvl a b i (swAt a b c (sw0 st fi) (i + 1))) n) = o at eSafe
      generalize hX : strOfNums (lvs (fun i => (swAt a b c (sw0 st fi) (i + 1)).e0) n) = x at eEn
      generalize hY : strOfNums (lvs (fun i => (swAt a b c (sw0 st fi) (i + 1)).e1) n) = y at eEn
      generalize hP : strOfNums (lvs (fun i => plv a b c i) n) = pl at ePl
      have zo : o.size = n := by rw [← hO, lvs_size]
      have zx : x.size = n := by rw [← hX, lvs_size]
      have zy : y.size = n := by rw [← hY, lvs_size]
      have zp : pl.size = n := by rw [← hP, lvs_size]
      have lo : Lev o := by rw [← hO]; exact lvs_lev _ _
      have bo : ∀ i : Nat, i < n → (bt o (i : Int) == 49) = lvl a b i (swAt a b c (sw0 st fi) (i + 1)) := fun i hi => by rw [← hO]; exact lvs_at _ n i hi
      have bx : ∀ i : Nat, i < n → bt x (i : Int) = if (swAt a b c (sw0 st fi) (i + 1)).e0 = true then 49 else 48 := fun i hi => by rw [← hX]; exact lvs_bt _ n i hi
      have by_ : ∀ i : Nat, i < n → bt y (i : Int) = if (swAt a b c (sw0 st fi) (i + 1)).e1 = true then 49 else 48 := fun i hi => by rw [← hY]; exact lvs_bt _ n i hi
      have bp : ∀ i : Nat, i < n → bt pl (i : Int) = if plv a b c i = true then 49 else 48 := fun i hi => by rw [← hP]; exact lvs_bt _ n i hi
      have hT : Tk a b c o x y pl n :=
        { lc := lc, la := la, lb := lb, za := za, zb := zb, zc := zc, zo := zo, zx := zx, zy := zy, zp := zp
          apart := fun i hi h1 h2 => by
            have := sw_apart a b c st fi (i + 1)
            rw [bx i hi] at h1
            rw [by_ i hi] at h2
            cases h3 : (swAt a b c (sw0 st fi) (i + 1)).e0 <;> cases h4 : (swAt a b c (sw0 st fi) (i + 1)).e1 <;> simp [h3, h4] at h1 h2 this
          out := fun i hi => by
            rw [bo i hi, bx i hi, by_ i hi]
            unfold lvl
            cases (swAt a b c (sw0 st fi) (i + 1)).e0 <;> cases (swAt a b c (sw0 st fi) (i + 1)).e1 <;> simp
          plain := fun i hi => by
            rw [bp i hi]
            unfold plv
            rcases lc i (by omega) with h | h <;> rcases la i (by omega) with h1 | h1 <;> rcases lb i (by omega) with h2 | h2 <;> simp [h, h1, h2]
          chx := fun i hi hne => by
            rw [bx (i + 1) hi, bx i (by omega)] at hne
            cases hd : dn a ((i + 1 : Nat) : Int) with
            | false => exact absurd (by rw [sw_keep0 a b c st fi (i + 1) hd]) hne
            | true =>
              obtain ⟨_, q1, q2⟩ := dn_true a (i + 1) hd
              rw [show ((i + 1 : Nat) : Int) - 1 = (i : Int) by omega] at q1
              exact ⟨q2, q1⟩
          chy := fun i hi hne => by
            rw [by_ (i + 1) hi, by_ i (by omega)] at hne
            cases hd : dn b ((i + 1 : Nat) : Int) with
            | false => exact absurd (by rw [sw_keep1 a b c st fi (i + 1) hd]) hne
            | true =>
              obtain ⟨_, q1, q2⟩ := dn_true b (i + 1) hd
              rw [show ((i + 1 : Nat) : Int) - 1 = (i : Int) by omega] at q1
              exact ⟨q2, q1⟩ }
      have eTi : impl_SwitchTimes.f st fi a b c = some (chgs x y (if fi = 1 then 48 else 49) (if fi = 1 then 49 else 48) n, true) := by
        unfold impl_SwitchTimes.f
        rw [eEn, Option.bind_some]
        simp only [if_true]
        rw [if_pos ⟨by omega, by omega⟩, zx]
      have eCl : impl_IsClean.f o a b = some true := by
        unfold impl_IsClean.f
        rw [are3_eq o a b (by omega) (by omega) (by omega), (isW_iff o).2 ⟨by omega, lo⟩, wa, wb, decide_eq_true (show o.size = a.size by omega), decide_eq_true (show a.size = b.size by omega), Option.bind_some]
        rw [if_pos (by rfl), clean_of o a b lo la lb (by omega) (by omega) (fun i hi hE => out_goes a b c o st fi la lb lo (by omega) (by omega) (fun j hj => by rw [← bo j (by omega), beq_iff_eq]) i hi hE)]
      rw [eSafe, Option.bind_some, eEn, Option.bind_some, ePl, Option.bind_some, eTi, Option.bind_some]
      simp only [if_true]
      rw [valid_eq, hs, Option.bind_some, if_pos rfl, if_pos (by omega), if_pos (by omega), if_pos (by omega), if_pos (by omega), eCl, Option.bind_some]
      cases k with
      | zero => omega
      | succ k =>
        rw [laws_FnSwitched.j0, if_neg (by decide)]
        refine sw_all hT _ (by omega) _ _ rfl (fun h0 => ?_) k (by omega)
        unfold chg pvb
        rw [bx 0 h0, by_ 0 h0, sw_keep0 a b c st fi 0 (dn_zero a), sw_keep1 a b c st fi 0 (dn_zero b)]
        show (!((if (fi == 0) = true then (49 : Int) else 48) == _ && (if (fi == 1) = true then (49 : Int) else 48) == _)) = false
        have : fi = 0 ∨ fi = 1 := by omega
        rcases this with rfl | rfl <;> rfl
end Go.Proofs.YthkpnbelbaljdaaDoor.X
end
