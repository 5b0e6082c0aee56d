/- My own texts of this seat and its words, merged: XWide, Xp50, Xp35, Xp15, Xp20, Xp21, CRdn, CSn. Conditions: as each lemma says. -/
import Derived.Test.YtalkmhnlgfncmaaDoorH23
import Derived.Test.YtalkmhnlgfncmaaDoorH21
import Derived.Lib.AtoiErrMem
import Derived.Lib.SmallJoins
import Derived.Lib.ParseIntBTie
section
namespace Go.Proofs.YtalkmhnlgfncmaaDoor.X
open Go.RowKit Go.Proofs.YtalkmhnlgfncmaaDoorW.PrintWords Go.Proofs.YtalkmhnlgfncmaaDoorW.PrintLast Go.Proofs.YtalkmhnlgfncmaaDoorW.PrintMore
set_option linter.unusedVariables false
set_option linter.unusedSimpArgs false
def EnvR (w : World) : Prop := Tab64 w ∧ (∃ te pe, w.cell? ⟨4, 0, none⟩ = some (.iface te pe)) ∧ ∃ te pe, w.cell? ⟨5, 0, none⟩ = some (.iface te pe)
theorem EnvR.below {w w' : World} (h : EnvR w) (hb : Below w.heap.size w w') : EnvR w' := by
  obtain ⟨h1, ⟨t, p, h2⟩, t', p', h3⟩ := h
  exact ⟨h1.below hb, ⟨t, p, pw_cell_below hb h2⟩, t', p', pw_cell_below hb h3⟩
theorem EnvR.tab {w : World} (h : EnvR w) : Tab64 w := h.1
set_option maxHeartbeats 4000000 in
set_option maxRecDepth 100000 in
theorem parse_in (s : ByteArray) (hs : s.size ≤ 2000000) (w : World) :
    Calls Tryd.prog 77 #[.string s, .int .i64 10, .int .i64 64] w fun e w' => e = .returned (Lib.intTuple 119 (Lib.intSat 64 s.data.toList) (Lib.parseIntB 64 s.data.toList)) ∧ Below w.heap.size w w' := by
  by_cases hz : s.size = 0
  · have e : s = ⟨#[]⟩ := by
      cases s with
      | mk d => congr 1; exact Array.eq_empty_of_size_eq_zero hz
    rw [e]
    refine (Tryd.internal_strconv_ParseInt_empty 10 64 w).mono ?_
    rintro e w' ⟨rfl, rfl⟩
    exact ⟨rfl, Below.refl _ _⟩
  · refine (Tryd.internal_strconv_ParseInt_10_at64 s hz (by omega) w).mono ?_
    rintro e w' ⟨rfl, rfl | ⟨t, rfl⟩⟩
    · exact ⟨rfl, Below.refl _ _⟩
    · exact ⟨rfl, Lib.bytesWorld_below _ _ _⟩
set_option maxHeartbeats 4000000 in
set_option maxRecDepth 100000 in
theorem parse_ok (s : ByteArray) (hs : s.size ≤ 2000000) (v : Int) (h : Lib.parseIntB 64 s.data.toList = .ok v) (w : World) :
    Calls Tryd.prog 58 #[.string s, .int .i64 10, .int .i64 64] w fun e w' => e = .returned (.tuple #[.int .i64 v, .nilIface]) ∧ Below w.heap.size w w' := by
  have H := fun w => parse_in s hs w
  rw [h] at H
  have HH := Aside0.mk (show ∀ w, Calls Tryd.prog 77 #[.string s, .int .i64 10, .int .i64 64] w fun e w' => e = .returned (.tuple #[.int .i64 v, .nilIface]) ∧ Below w.heap.size w w' from H)
  clear H h
  go_enter Tryd.func58, Tryd.ntmps58
  go_wp2_with (go_at_call 77; (with_reducible refine (HH.out _).mono ?_); rintro e w1 ⟨rfl, hb⟩; have HB := Aside0.mk hb; clear hb)
  go_ret2
  exact ⟨rfl, HB.out⟩
abbrev numBad : Lib.NumEnd Int := Lib.parseIntB 64 []
set_option maxHeartbeats 4000000 in
set_option maxRecDepth 100000 in
theorem parse_bad (s : ByteArray) (hs : s.size ≤ 2000000) (h : Lib.parseIntB 64 s.data.toList = numBad) (w : World) (hE : EnvR w) :
    Calls Tryd.prog 58 #[.string s, .int .i64 10, .int .i64 64] w fun e w' => ∃ v N, e = .returned (.tuple #[.int .i64 v, .iface 122 (.pointer (some ⟨N, 0, none⟩))]) ∧ Below w.heap.size w w' := by
  have H := fun w => parse_in s hs w
  rw [h] at H
  have HH := Aside0.mk (show ∀ w, Calls Tryd.prog 77 #[.string s, .int .i64 10, .int .i64 64] w fun e w' => e = .returned (.tuple #[.int .i64 0, .iface 119 (.int .i64 2)]) ∧ Below w.heap.size w w' from H)
  have HE := Aside0.mk hE
  have HS := Aside0.mk hs
  clear H h hE hs
  go_enter Tryd.func58, Tryd.ntmps58
  go_wp2_with (first
    | (go_at_call 77; (with_reducible refine (HH.out _).mono ?_); rintro e w1 ⟨rfl, hb⟩; have HB := Aside0.mk hb; clear hb)
    | (go_at_call 78; refine (Tryd.strconv_toError_syntax _ s 10 64 _ _ (Nat.le_trans HS.out (by decide)) (HE.out.below HB.out).2.1.choose_spec.choose_spec (Or.inr ⟨_, _, rfl⟩)).mono ?_; rintro e w2 ⟨N9, rfl, _, _, hb⟩; have HC := Aside0.mk (below_step HB.out hb); clear hb))
  go_ret2
  exact ⟨_, _, rfl, HC.out⟩
set_option maxHeartbeats 4000000 in
set_option maxRecDepth 100000 in
theorem parse_range (s : ByteArray) (hs : s.size ≤ 2000000) (h : Lib.parseIntB 64 s.data.toList = .range) (w : World) (hE : EnvR w) :
    Calls Tryd.prog 58 #[.string s, .int .i64 10, .int .i64 64] w fun e w' => ∃ v N, e = .returned (.tuple #[.int .i64 v, .iface 122 (.pointer (some ⟨N, 0, none⟩))]) ∧ Below w.heap.size w w' := by
  have H := fun w => parse_in s hs w
  rw [h] at H
  have HH := Aside0.mk (show ∀ w, Calls Tryd.prog 77 #[.string s, .int .i64 10, .int .i64 64] w fun e w' => e = .returned (.tuple #[.int .i64 (Lib.intSat 64 s.data.toList), .iface 119 (.int .i64 1)]) ∧ Below w.heap.size w w' from H)
  have HE := Aside0.mk hE
  have HS := Aside0.mk hs
  clear H h hE hs
  go_enter Tryd.func58, Tryd.ntmps58
  go_wp2_with (first
    | (go_at_call 77; (with_reducible refine (HH.out _).mono ?_); rintro e w1 ⟨rfl, hb⟩; have HB := Aside0.mk hb; clear hb)
    | (go_at_call 78; refine (Tryd.strconv_toError_range _ s 10 64 _ _ (Nat.le_trans HS.out (by decide)) (HE.out.below HB.out).2.2.choose_spec.choose_spec (Or.inr ⟨_, _, rfl⟩)).mono ?_; rintro e w2 ⟨N9, rfl, _, _, hb⟩; have HC := Aside0.mk (below_step HB.out hb); clear hb))
  go_ret2
  exact ⟨_, _, rfl, HC.out⟩
set_option maxHeartbeats 4000000 in
set_option maxRecDepth 100000 in
theorem wide_err (s : ByteArray) (m : Int) (hs : s.size ≤ 2000000) (h : Lib.parseIntB 64 s.data.toList = numBad ∨ Lib.parseIntB 64 s.data.toList = .range) (w : World) (hE : EnvR w) :
    Calls Tryd.prog 41 #[.string s, .int .i64 m] w fun e w' => e = .returned (.tuple #[.int .i64 0, .bool false]) ∧ Below w.heap.size w w' := by
  have H : ∀ w, EnvR w → Calls Tryd.prog 58 #[.string s, .int .i64 10, .int .i64 64] w fun e w' => ∃ v N, e = .returned (.tuple #[.int .i64 v, .iface 122 (.pointer (some ⟨N, 0, none⟩))]) ∧ Below w.heap.size w w' := fun w hw => by
    rcases h with h | h
    · exact parse_bad s hs h w hw
    · exact parse_range s hs h w hw
  have HH := Aside0.mk H
  have HE := Aside0.mk hE
  clear H h hE hs
  go_enter Tryd.func41, Tryd.ntmps41
  go_wp2_with (go_at_call 58; (with_reducible refine (HH.out _ HE.out).mono ?_); rintro e w1 ⟨v1, N1, rfl, hb⟩; have HB := Aside0.mk hb; clear hb)
  go_ret2
  exact ⟨rfl, HB.out⟩
theorem wd_below {a b : World} (h : Drawn0 a b) : Below a.heap.size a b := by
  obtain ⟨n, rfl⟩ := h
  exact pw_below_drewN (Below.refl _ _) n
set_option maxHeartbeats 4000000 in
set_option maxRecDepth 100000 in
theorem wide_other (s t : ByteArray) (m v : Int) (hs : s.size ≤ 2000000) (h : Lib.parseIntB 64 s.data.toList = .ok v) (hd : impl_Decimal.f v = some t) (hne : t.toList ≠ s.toList) (w : World) (hE : EnvR w) :
    Calls Tryd.prog 41 #[.string s, .int .i64 m] w fun e w' => e = .returned (.tuple #[.int .i64 0, .bool false]) ∧ Below w.heap.size w w' := by
  have HH := Aside0.mk (fun w => parse_ok s hs v h w)
  have HE := Aside0.mk hE
  have HD := Aside0.mk hd
  have f1 : (t.toList == s.toList) = false := beq_eq_false_iff_ne.mpr hne
  have f2 : (t.toList != s.toList) = true := bne_iff_ne.mpr hne
  clear h hE hs hd
  go_enter Tryd.func41, Tryd.ntmps41
  go_wp2_with (first
    | (go_at_call 58; (with_reducible refine (HH.out _).mono ?_); rintro e w1 ⟨rfl, hb⟩; have HB := Aside0.mk hb; clear hb)
    | (go_at_call 33; (with_reducible refine (impl_Decimal.calls v t _ HD.out (HE.out.below HB.out).tab).mono ?_); rintro e w2 ⟨rfl, hb⟩; have HC := Aside0.mk (below_step HB.out hb); clear hb))
  go_ret2
  exact ⟨rfl, HC.out⟩
set_option maxHeartbeats 4000000 in
set_option maxRecDepth 100000 in
theorem wide_far (s t : ByteArray) (m v : Int) (hm : 0 ≤ m) (hm1 : m ≤ 1000000000000000000) (hs : s.size ≤ 2000000) (h : Lib.parseIntB 64 s.data.toList = .ok v) (hd : impl_Decimal.f v = some t) (he : t.toList = s.toList) (hw : impl_within.f v (-m) m = some false) (w : World) (hE : EnvR w) :
    Calls Tryd.prog 41 #[.string s, .int .i64 m] w fun e w' => e = .returned (.tuple #[.int .i64 0, .bool false]) ∧ Below w.heap.size w w' := by
  have HH := Aside0.mk (fun w => parse_ok s hs v h w)
  have HE := Aside0.mk hE
  have HD := Aside0.mk hd
  have HW := Aside0.mk hw
  have f1 : (t.toList == s.toList) = true := beq_iff_eq.mpr he
  have f2 : (t.toList != s.toList) = false := bne_eq_false_iff_eq.mpr he
  have w1 : IntKind.i64.wrap (-m) = -m := IntWalk.i64_in _ ⟨by omega, by omega⟩
  clear h hE hs hd hw he
  go_enter Tryd.func41, Tryd.ntmps41
  go_wp2_with (first
    | (go_at_call 58; (with_reducible refine (HH.out _).mono ?_); rintro e w1 ⟨rfl, hb⟩; have HB := Aside0.mk hb; clear hb)
    | (go_at_call 33; (with_reducible refine (impl_Decimal.calls v t _ HD.out (HE.out.below HB.out).tab).mono ?_); rintro e w2 ⟨rfl, hb⟩; have HC := Aside0.mk (below_step HB.out hb); clear hb)
    | (go_at_call 59; (with_reducible refine (impl_within.calls v (-m) m _ _ HW.out).mono ?_); rintro e w3 ⟨rfl, hb⟩; have HF := Aside0.mk (below_step HC.out (wd_below hb)); clear hb))
  go_ret2
  exact ⟨rfl, HF.out⟩
set_option maxHeartbeats 4000000 in
set_option maxRecDepth 100000 in
theorem wide_good (s t : ByteArray) (m v : Int) (hm : 0 ≤ m) (hm1 : m ≤ 1000000000000000000) (hs : s.size ≤ 2000000) (h : Lib.parseIntB 64 s.data.toList = .ok v) (hd : impl_Decimal.f v = some t) (he : t.toList = s.toList) (hw : impl_within.f v (-m) m = some true) (w : World) (hE : EnvR w) :
    Calls Tryd.prog 41 #[.string s, .int .i64 m] w fun e w' => e = .returned (.tuple #[.int .i64 v, .bool true]) ∧ Below w.heap.size w w' := by
  have HH := Aside0.mk (fun w => parse_ok s hs v h w)
  have HE := Aside0.mk hE
  have HD := Aside0.mk hd
  have HW := Aside0.mk hw
  have f1 : (t.toList == s.toList) = true := beq_iff_eq.mpr he
  have f2 : (t.toList != s.toList) = false := bne_eq_false_iff_eq.mpr he
  have w1 : IntKind.i64.wrap (-m) = -m := IntWalk.i64_in _ ⟨by omega, by omega⟩
  clear h hE hs hd hw he
  go_enter Tryd.func41, Tryd.ntmps41
  go_wp2_with (first
    | (go_at_call 58; (with_reducible refine (HH.out _).mono ?_); rintro e w1 ⟨rfl, hb⟩; have HB := Aside0.mk hb; clear hb)
    | (go_at_call 33; (with_reducible refine (impl_Decimal.calls v t _ HD.out (HE.out.below HB.out).tab).mono ?_); rintro e w2 ⟨rfl, hb⟩; have HC := Aside0.mk (below_step HB.out hb); clear hb)
    | (go_at_call 59; (with_reducible refine (impl_within.calls v (-m) m _ _ HW.out).mono ?_); rintro e w3 ⟨rfl, hb⟩; have HF := Aside0.mk (below_step HC.out (wd_below hb)); clear hb))
  go_ret2
  exact ⟨rfl, HF.out⟩
def impl_readWide.f (s : ByteArray) (m : Int) : Option (Int × Bool) :=
  if s.size ≤ 2000000 ∧ 0 ≤ m ∧ m ≤ 1000000000000000000 then
    match Lib.parseIntB 64 s.data.toList with
    | .ok v => (impl_Decimal.f v).bind fun t => (impl_within.f v (-m) m).bind fun b => some (if t.toList = s.toList ∧ b = true then (v, true) else (0, false))
    | _ => some (0, false)
  else none
theorem impl_readWide.calls (a0 : ByteArray) (a1 : Int) (r1 : Int) (r2 : Bool) (w : World) (h : impl_readWide.f a0 a1 = some (r1, r2)) (hE : EnvR w) :
    Calls Tryd.prog 41 #[.string a0, .int .i64 a1] w fun e w' => e = .returned (.tuple #[.int .i64 r1, .bool r2]) ∧ Below w.heap.size w w' := by
  unfold impl_readWide.f at h
  split at h
  case isFalse => cases h
  case isTrue hc =>
  obtain ⟨hs, hm, hm1⟩ := hc
  split at h
  case h_1 v hv =>
    obtain ⟨t, ht, h⟩ := Option.bind_eq_some_iff.mp h
    obtain ⟨b, hb, h⟩ := Option.bind_eq_some_iff.mp h
    have h := Option.some.inj h
    by_cases hts : t.toList = a0.toList
    · cases b with
      | false =>
        rw [if_neg (by simp)] at h
        obtain ⟨rfl, rfl⟩ := Prod.mk.inj h
        exact wide_far a0 t a1 v hm hm1 hs hv ht hts hb w hE
      | true =>
        rw [if_pos ⟨hts, rfl⟩] at h
        obtain ⟨rfl, rfl⟩ := Prod.mk.inj h
        exact wide_good a0 t a1 _ hm hm1 hs hv ht hts hb w hE
    · rw [if_neg (fun e => hts e.1)] at h
      obtain ⟨rfl, rfl⟩ := Prod.mk.inj h
      exact wide_other a0 t a1 v hs hv ht hts w hE
  case h_2 hno =>
    obtain ⟨rfl, rfl⟩ := Prod.mk.inj (Option.some.inj h)
    refine wide_err a0 a1 hs ?_ w hE
    cases hp : Lib.parseIntB 64 a0.data.toList with
    | ok v => exact absurd hp (hno v)
    | _ => first | exact .inl rfl | exact .inr rfl
end Go.Proofs.YtalkmhnlgfncmaaDoor.X
end
section
-- Written by a program of this session out of the kit's print of the loaded functions: a plain function of a Go function, and its contract.
namespace Go.Proofs.YtalkmhnlgfncmaaDoor.X
open Go.RowKit Go.Proofs.YtalkmhnlgfncmaaDoorW.PrintWords Go.Proofs.YtalkmhnlgfncmaaDoorW.PrintLast Go.Proofs.YtalkmhnlgfncmaaDoorW.PrintMore
attribute [local go_sem] max2_int min2_int max_two min_two max_three min_three max_four min_four   -- for this text's walks alone
set_option linter.unusedVariables false
set_option linter.unusedSimpArgs false
mutual
def spec_l01Great.j0 : Nat → ByteArray → ByteArray → Bool → Option (Int × Bool)
 | 0, _, _, _ => none
 | k + 1, x0, x4, x15 => if x15 = true then (if 1 ≤ (x4.size : Int) then (spec_l01Great.j1 k x0 (x4.extract 1 x4.size)) else (none)) else (spec_l01Great.j1 k x0 x4)
def spec_l01Great.j1 : Nat → ByteArray → ByteArray → Option (Int × Bool)
 | 0, _, _ => none
 | k + 1, x0, x4 => if (x4.size : Int) < 1 then (spec_l01Great.j2 k x0 x4 true) else (spec_l01Great.j2 k x0 x4 (decide ((x4.size : Int) > 19)))
def spec_l01Great.j2 : Nat → ByteArray → ByteArray → Bool → Option (Int × Bool)
 | 0, _, _, _ => none
 | k + 1, x0, x4, x25 => if x25 = true then (some (0, false)) else (spec_l01Great.l0 k x0 x4 0 0)
def spec_l01Great.l0 : Nat → ByteArray → ByteArray → Int → Int → Option (Int × Bool)
 | 0, _, _, _, _ => none
 | k + 1, x0, x4, x5, x6 => if x6 < (x4.size : Int) then (if 0 ≤ x6 then (if (bt x4 x6) < 48 then (some (0, false)) else (if (bt x4 x6) > 57 then (some (0, false)) else (if x5 > 100000000000000000 then (some (0, false)) else (spec_l01Great.l0 k x0 x4 (wrap64 ((wrap64 (10 * x5)) + (((bt x4 x6) - 48) % 256))) (wrap64 (x6 + 1)))))) else (none)) else (if (x4.size : Int) < (x0.size : Int) then ((spec_l00In.f (wrap64 (-x5)) (-1000000000000000000) 1000000000000000000).bind fun t307 => (if t307 = true then ((spec_l01Dec.f k (wrap64 (-x5))).bind fun t308 => (some (wrap64 (-x5), (t308.toList == x0.toList)))) else (some (wrap64 (-x5), false)))) else ((spec_l00In.f x5 (-1000000000000000000) 1000000000000000000).bind fun t309 => (if t309 = true then ((spec_l01Dec.f k x5).bind fun t310 => (some (x5, (t310.toList == x0.toList)))) else (some (x5, false)))))
end
def spec_l01Great.f (k : Nat) (a0 : ByteArray) : Option (Int × Bool) := if (a0.size : Int) > 0 then (if 0 < (a0.size : Int) then (spec_l01Great.j0 k a0 a0 ((bt a0 0) == 45)) else (none)) else (spec_l01Great.j0 k a0 a0 false)
theorem spec_l01Great.mono_l : ∀ k, (∀ y0 y1 y2, LeO (spec_l01Great.j0 k y0 y1 y2) (spec_l01Great.j0 (k + 1) y0 y1 y2)) ∧ (∀ y0 y1, LeO (spec_l01Great.j1 k y0 y1) (spec_l01Great.j1 (k + 1) y0 y1)) ∧ (∀ y0 y1 y2, LeO (spec_l01Great.j2 k y0 y1 y2) (spec_l01Great.j2 (k + 1) y0 y1 y2)) ∧ (∀ y0 y1 y2 y3, LeO (spec_l01Great.l0 k y0 y1 y2 y3) (spec_l01Great.l0 (k + 1) y0 y1 y2 y3))
 | 0 => ⟨fun _ _ _ r h => by simp [spec_l01Great.j0] at h, fun _ _ r h => by simp [spec_l01Great.j1] at h, fun _ _ _ r h => by simp [spec_l01Great.j2] at h, fun _ _ _ _ r h => by simp [spec_l01Great.l0] at h⟩
 | k + 1 => by
  obtain ⟨ih0, ih1, ih2, ih3⟩ := spec_l01Great.mono_l k
  refine ⟨?_, ?_, ?_, ?_⟩
  ·intro y0 y1 y2
   unfold spec_l01Great.j0
   repeat' first
   | (with_reducible exact ih0 _ _ _)
   | (with_reducible exact ih1 _ _)
   | (with_reducible exact ih2 _ _ _)
   | (with_reducible exact ih3 _ _ _ _)
   | (with_reducible exact spec_l01Dec.mono _ _)
   | (with_reducible exact LeO.refl _)
   | (with_reducible exact LeO.none _)
   | (with_reducible refine LeO.ite ?_ ?_)
   | (with_reducible refine LeO.bind ?_ (fun _ => ?_))
   | exact ih0 _ _ _
   | exact ih1 _ _
   | exact ih2 _ _ _
   | exact ih3 _ _ _ _
   | exact spec_l01Dec.mono _ _
   | exact LeO.none _
   | refine LeO.ite ?_ ?_
   | refine LeO.bind ?_ (fun _ => ?_)
  ·intro y0 y1
   unfold spec_l01Great.j1
   repeat' first
   | (with_reducible exact ih0 _ _ _)
   | (with_reducible exact ih1 _ _)
   | (with_reducible exact ih2 _ _ _)
   | (with_reducible exact ih3 _ _ _ _)
   | (with_reducible exact spec_l01Dec.mono _ _)
   | (with_reducible exact LeO.refl _)
   | (with_reducible exact LeO.none _)
   | (with_reducible refine LeO.ite ?_ ?_)
   | (with_reducible refine LeO.bind ?_ (fun _ => ?_))
   | exact ih0 _ _ _
   | exact ih1 _ _
   | exact ih2 _ _ _
   | exact ih3 _ _ _ _
   | exact spec_l01Dec.mono _ _
   | exact LeO.none _
   | refine LeO.ite ?_ ?_
   | refine LeO.bind ?_ (fun _ => ?_)
  ·intro y0 y1 y2
   unfold spec_l01Great.j2
   repeat' first
   | (with_reducible exact ih0 _ _ _)
   | (with_reducible exact ih1 _ _)
   | (with_reducible exact ih2 _ _ _)
   | (with_reducible exact ih3 _ _ _ _)
   | (with_reducible exact spec_l01Dec.mono _ _)
   | (with_reducible exact LeO.refl _)
   | (with_reducible exact LeO.none _)
   | (with_reducible refine LeO.ite ?_ ?_)
   | (with_reducible refine LeO.bind ?_ (fun _ => ?_))
   | exact ih0 _ _ _
   | exact ih1 _ _
   | exact ih2 _ _ _
   | exact ih3 _ _ _ _
   | exact spec_l01Dec.mono _ _
   | exact LeO.none _
   | refine LeO.ite ?_ ?_
   | refine LeO.bind ?_ (fun _ => ?_)
  ·intro y0 y1 y2 y3
   unfold spec_l01Great.l0
   repeat' first
   | (with_reducible exact ih0 _ _ _)
   | (with_reducible exact ih1 _ _)
   | (with_reducible exact ih2 _ _ _)
   | (with_reducible exact ih3 _ _ _ _)
   | (with_reducible exact spec_l01Dec.mono _ _)
   | (with_reducible exact LeO.refl _)
   | (with_reducible exact LeO.none _)
   | (with_reducible refine LeO.ite ?_ ?_)
   | (with_reducible refine LeO.bind ?_ (fun _ => ?_))
   | exact ih0 _ _ _
   | exact ih1 _ _
   | exact ih2 _ _ _
   | exact ih3 _ _ _ _
   | exact spec_l01Dec.mono _ _
   | exact LeO.none _
   | refine LeO.ite ?_ ?_
   | refine LeO.bind ?_ (fun _ => ?_)
theorem spec_l01Great.mono : ∀ a0 k, LeO (spec_l01Great.f k a0) (spec_l01Great.f (k + 1) a0) := by
 intro a0 k
 obtain ⟨ih0, ih1, ih2, ih3⟩ := spec_l01Great.mono_l k
 unfold spec_l01Great.f
 repeat' first
   | (with_reducible exact ih0 _ _ _)
   | (with_reducible exact ih1 _ _)
   | (with_reducible exact ih2 _ _ _)
   | (with_reducible exact ih3 _ _ _ _)
   | (with_reducible exact spec_l01Dec.mono _ _)
   | (with_reducible exact LeO.refl _)
   | (with_reducible exact LeO.none _)
   | (with_reducible refine LeO.ite ?_ ?_)
   | (with_reducible refine LeO.bind ?_ (fun _ => ?_))
   | exact ih0 _ _ _
   | exact ih1 _ _
   | exact ih2 _ _ _
   | exact ih3 _ _ _ _
   | exact spec_l01Dec.mono _ _
   | exact LeO.none _
   | refine LeO.ite ?_ ?_
   | refine LeO.bind ?_ (fun _ => ?_)
set_option maxHeartbeats 8000000 in
set_option maxRecDepth 100000 in
theorem spec_l01Great.calls (k : Nat) (a0 : ByteArray) (r1 : Int) (r2 : Bool) (w : World) (h : spec_l01Great.f k a0 = some (r1, r2)) :
  Calls Tryd.prog 50 #[.string a0] w fun e w' => e = .returned (.tuple #[.int .i64 r1, .bool r2]) ∧ Below w.heap.size w w' := by
 have HB := Aside0.mk (Below.refl w.heap.size w)
 have H : (if (a0.size : Int) > 0 then (if 0 < (a0.size : Int) then (spec_l01Great.j0 k a0 a0 ((bt a0 0) == 45)) else (none)) else (spec_l01Great.j0 k a0 a0 false)) = some (r1, r2) := h
 clear h
 have HC2 := Aside0.mk H
 clear H
 go_enter Tryd.func50, Tryd.ntmps50
 go_upto_region 2 with (fail)
 go_cut [15] (fun v15 wc => ∃ (kq : Nat) (x15_1 : Bool), v15 = .bool x15_1 ∧ Aside0 (spec_l01Great.j0 kq a0 a0 x15_1 = some (r1, r2)) ∧ Aside0 (kq ≤ k) ∧ Aside0 (Below w.heap.size w wc))
 case first =>
  have H := HC2.out
  clear HC2
  by_cases c3 : (a0.size : Int) > 0
  ·rw [if_pos c3] at H
   have c3b0 : decide (0 < (a0.size : Int)) = true := decide_eq_true c3
   have c3b1 : decide (0 < a0.size) = true := decide_eq_true (by omega)
   clear c3
   (first | rw [c3b0] | (simp only [i64_w, i32_w]; rw [c3b0]) | skip)
   by_cases c4 : 0 < (a0.size : Int)
   ·rw [if_pos c4] at H
    have c4b0 : decide (0 < (a0.size : Int)) = true := decide_eq_true c4
    have c4b1 : decide (0 < a0.size) = true := decide_eq_true (by omega)
    clear c4
    have H' := Aside0.mk H
    clear H
    have p5 : 0 ≤ (0 : Int) := (by omega)
    have q5 : 0 < a0.size := (by have : (0 : Int) < (a0.size : Int) := of_decide_eq_true (by first | (with_reducible assumption) | assumption); omega)
    have hx5 : ∀ h : 0 < a0.size, ((a0[0]'h).toNat : Int) = bt a0 0 := bt_at a0 0
    clear p5
    have qi5 : (0 < (a0.size : Int)) = True := eq_true (of_decide_eq_true (by first | (with_reducible assumption) | assumption))
    replace q5 := eq_true q5
    go_wp2
    go_meet
    case rel => exact ⟨_, (((bt a0 0) == 45)), (by first | rfl | (simp; done) | (simp [*]; done)), H', ⟨by first | omega | exact Nat.le_refl _⟩, ⟨by repeat (first | (with_reducible first | exact HB.out | apply below_alloc | apply pw_below_drewN | apply below_drew1) | exact HB.out)⟩⟩
   ·rw [if_neg c4] at H
    exact absurd H (by simp)
  ·rw [if_neg c3] at H
   have c3b0 : decide (0 < (a0.size : Int)) = false := decide_eq_false c3
   have c3b1 : decide (0 < a0.size) = false := decide_eq_false (by omega)
   clear c3
   (first | rw [c3b0] | (simp only [i64_w, i32_w]; rw [c3b0]) | skip)
   have H' := Aside0.mk H
   clear H
   go_wp2
   go_meet
   case rel => exact ⟨_, (false), (by first | rfl | (simp; done) | (simp [*]; done)), H', ⟨by first | omega | exact Nat.le_refl _⟩, ⟨by repeat (first | (with_reducible first | exact HB.out | apply below_alloc | apply pw_below_drewN | apply below_drew1) | exact HB.out)⟩⟩
 case rest =>
  clear HC2
  try clear p2
  try clear c3
  try clear c3b0
  try clear c3b1
  try clear c4
  try clear c4b0
  try clear c4b1
  try clear c5
  try clear p5
  try clear q5
  try clear hx5
  try clear qi5
  try clear p5
  try clear q5
  obtain ⟨kq, x15_1, rfl, HA, HJ1, HB⟩ := hcut
  cases kq with
  | zero => exact absurd HA.out (by simp [spec_l01Great.j0])
  | succ kj1 =>
   have H := HA.out
   clear HA
   simp only [spec_l01Great.j0] at H
   have HC6 := Aside0.mk H
   clear H
   go_upto_if 15 with (fail)
   go_cut [4] (fun v4 wc => ∃ (kq : Nat) (x4_5 : ByteArray), v4 = .string x4_5 ∧ Aside0 (spec_l01Great.j1 kq a0 x4_5 = some (r1, r2)) ∧ Aside0 (kq ≤ kj1) ∧ Aside0 (Below w.heap.size w wc))
   case first =>
    have H := HC6.out
    clear HC6
    by_cases c7 : x15_1 = true
    ·subst c7
     have H1 : (if 1 ≤ (a0.size : Int) then (spec_l01Great.j1 kj1 a0 (a0.extract 1 a0.size)) else (none)) = some (r1, r2) := by rw [if_pos rfl] at H; exact H
     clear H
     have H := H1
     clear H1
     by_cases c8 : 1 ≤ (a0.size : Int)
     ·rw [if_pos c8] at H
      have c8b0 := eq_true c8
      have c8b1 : decide (1 ≤ (a0.size : Int)) = true := decide_eq_true c8
      clear c8
      have H' := Aside0.mk H
      clear H
      go_wp2
      go_meet
      case rel => exact ⟨_, (a0.extract 1 a0.size), (by first | rfl | (simp; done) | (simp [*]; done)), H', ⟨by have := HJ1.out; first | omega | exact Nat.le_refl _⟩, ⟨by repeat (first | (with_reducible first | exact HB.out | apply below_alloc | apply pw_below_drewN | apply below_drew1) | exact HB.out)⟩⟩
     ·rw [if_neg c8] at H
      exact absurd H (by simp)
    ·replace c7 := Bool.eq_false_iff.mpr c7
     subst c7
     have H1 : (spec_l01Great.j1 kj1 a0 a0) = some (r1, r2) := by rw [if_neg (show ¬ (false = true) by decide)] at H; exact H
     clear H
     have H := H1
     clear H1
     have H' := Aside0.mk H
     clear H
     go_wp2
     go_meet
     case rel => exact ⟨_, (a0), (by first | rfl | (simp; done) | (simp [*]; done)), H', ⟨by have := HJ1.out; first | omega | exact Nat.le_refl _⟩, ⟨by repeat (first | (with_reducible first | exact HB.out | apply below_alloc | apply pw_below_drewN | apply below_drew1) | exact HB.out)⟩⟩
   case rest =>
    clear HC6
    try clear p2
    try clear c3
    try clear c3b0
    try clear c3b1
    try clear c4
    try clear c4b0
    try clear c4b1
    try clear c5
    try clear p5
    try clear q5
    try clear hx5
    try clear qi5
    try clear c7
    try clear c8
    try clear c8b0
    try clear c8b1
    try clear p2
    try clear p5
    try clear q5
    obtain ⟨kq, x4_5, rfl, HA, HJ5, HB⟩ := hcut
    cases kq with
    | zero => exact absurd HA.out (by simp [spec_l01Great.j1])
    | succ kj5 =>
     have H := HA.out
     clear HA
     simp only [spec_l01Great.j1] at H
     have HC9 := Aside0.mk H
     clear H
     go_upto_region 4 with (fail)
     go_cut [25] (fun v25 wc => ∃ (kq : Nat) (x25_8 : Bool), v25 = .bool x25_8 ∧ Aside0 (spec_l01Great.j2 kq a0 x4_5 x25_8 = some (r1, r2)) ∧ Aside0 (kq ≤ kj5) ∧ Aside0 (Below w.heap.size w wc))
     case first =>
      have H := HC9.out
      clear HC9
      by_cases c10 : (x4_5.size : Int) < 1
      ·rw [if_pos c10] at H
       have c10b0 : decide ((x4_5.size : Int) < 1) = true := decide_eq_true c10
       have c10b1 : decide (x4_5.size < 1) = true := decide_eq_true (by omega)
       clear c10
       (first | rw [c10b0] | (simp only [i64_w, i32_w]; rw [c10b0]) | skip)
       have H' := Aside0.mk H
       clear H
       go_wp2
       go_meet
       case rel => exact ⟨_, (true), (by first | rfl | (simp; done) | (simp [*]; done)), H', ⟨by have := HJ1.out; have := HJ5.out; first | omega | exact Nat.le_refl _⟩, ⟨by repeat (first | (with_reducible first | exact HB.out | apply below_alloc | apply pw_below_drewN | apply below_drew1) | exact HB.out)⟩⟩
      ·rw [if_neg c10] at H
       have c10b0 : decide ((x4_5.size : Int) < 1) = false := decide_eq_false c10
       have c10b1 : decide (x4_5.size < 1) = false := decide_eq_false (by omega)
       clear c10
       (first | rw [c10b0] | (simp only [i64_w, i32_w]; rw [c10b0]) | skip)
       have H' := Aside0.mk H
       clear H
       go_wp2
       go_meet
       case rel => exact ⟨_, (decide ((x4_5.size : Int) > 19)), (by first | rfl | (simp; done) | (simp [*]; done)), H', ⟨by have := HJ1.out; have := HJ5.out; first | omega | exact Nat.le_refl _⟩, ⟨by repeat (first | (with_reducible first | exact HB.out | apply below_alloc | apply pw_below_drewN | apply below_drew1) | exact HB.out)⟩⟩
     case rest =>
      clear HC9
      try clear c1
      try clear p2
      try clear c3
      try clear c3b0
      try clear c3b1
      try clear c4
      try clear c4b0
      try clear c4b1
      try clear c5
      try clear p5
      try clear q5
      try clear hx5
      try clear qi5
      try clear c7
      try clear c8
      try clear c8b0
      try clear c8b1
      try clear c10
      try clear c10b0
      try clear c10b1
      try clear p2
      try clear p5
      try clear q5
      obtain ⟨kq, x25_8, rfl, HA, HJ8, HB⟩ := hcut
      cases kq with
      | zero => exact absurd HA.out (by simp [spec_l01Great.j2])
      | succ kj8 =>
       have H := HA.out
       clear HA
       simp only [spec_l01Great.j2] at H
       by_cases c11 : x25_8 = true
       ·subst c11
        have H1 : (some (0, false)) = some (r1, r2) := by rw [if_pos rfl] at H; exact H
        clear H
        have H := H1
        clear H1
        simp only [Option.some.injEq, Prod.mk.injEq] at H
        obtain ⟨rfl, rfl⟩ := H
        go_wp2
        go_ret2
        exact ⟨by first | rfl | (simp [errW_none, errW_some] <;> rfl) | (simp [*, errW_none, errW_some] <;> rfl), by repeat (first | (with_reducible first | exact HB.out | apply below_alloc | apply pw_below_drewN | apply below_drew1) | exact HB.out)⟩
       ·replace c11 := Bool.eq_false_iff.mpr c11
        subst c11
        have H1 : (spec_l01Great.l0 kj8 a0 x4_5 0 0) = some (r1, r2) := by rw [if_neg (show ¬ (false = true) by decide)] at H; exact H
        clear H
        have H := H1
        clear H1
        have H' := Aside0.mk H
        clear H
        go_wp2
        go_loopg [5, 6] kj8 (fun kq v5 v6 w' => ∃ (x5_4 : Int) (x6_4 : Int), v5 = .int .i64 x5_4 ∧ v6 = .int .i64 x6_4 ∧ Aside0 (spec_l01Great.l0 kq a0 x4_5 x5_4 x6_4 = some (r1, r2)) ∧ Aside0 (kq ≤ kj8) ∧ Aside0 (Below w.heap.size w w'))
        case atStart => exact ⟨(0), (0), (by first | rfl | (simp; done) | (simp [*]; done)), (by first | rfl | (simp; done) | (simp [*]; done)), H', ⟨Nat.le_refl _⟩, ⟨by repeat (first | (with_reducible first | exact HB.out | apply below_alloc | apply pw_below_drewN | apply below_drew1) | exact HB.out)⟩⟩
        case round =>
         clear H'
         try clear c1
         try clear p2
         try clear c3
         try clear c3b0
         try clear c3b1
         try clear c4
         try clear c4b0
         try clear c4b1
         try clear c5
         try clear p5
         try clear q5
         try clear hx5
         try clear qi5
         try clear c7
         try clear c8
         try clear c8b0
         try clear c8b1
         try clear c10
         try clear c10b0
         try clear c10b1
         try clear c11
         try clear p2
         try clear p5
         try clear q5
         obtain ⟨x5_4, x6_4, rfl, rfl, HA, HK4, HB⟩ := hrel
         cases gk with
         | zero => exact absurd HA.out (by simp [spec_l01Great.l0])
         | succ k4 =>
          have H := HA.out
          clear HA
          simp only [spec_l01Great.l0] at H
          by_cases c12 : x6_4 < (x4_5.size : Int)
          ·rw [if_pos c12] at H
           have c12b0 : decide (x6_4 < (x4_5.size : Int)) = true := decide_eq_true c12
           clear c12
           by_cases c13 : 0 ≤ x6_4
           ·rw [if_pos c13] at H
            have c13b0 : decide (0 ≤ x6_4) = true := decide_eq_true c13
            clear c13
            by_cases c15 : (bt x4_5 x6_4) < 48
            ·rw [if_pos c15] at H
             have c15b0 : decide ((bt x4_5 x6_4) < 48) = true := decide_eq_true c15
             clear c15
             simp only [Option.some.injEq, Prod.mk.injEq] at H
             obtain ⟨rfl, rfl⟩ := H
             have p14 : 0 ≤ (x6_4 : Int) := of_decide_eq_true (by first | (with_reducible assumption) | assumption)
             have q14 : x6_4 < (x4_5.size : Int) := of_decide_eq_true (by first | (with_reducible assumption) | assumption)
             have hx14 := bt_at x4_5 x6_4
             replace p14 := eq_true p14
             replace q14 := eq_true q14
             go_wp2
             go_ret2
             exact ⟨by first | rfl | (simp [errW_none, errW_some] <;> rfl) | (simp [*, errW_none, errW_some] <;> rfl), by repeat (first | (with_reducible first | exact HB.out | apply below_alloc | apply pw_below_drewN | apply below_drew1) | exact HB.out)⟩
            ·rw [if_neg c15] at H
             have c15b0 : decide ((bt x4_5 x6_4) < 48) = false := decide_eq_false c15
             clear c15
             by_cases c17 : (bt x4_5 x6_4) > 57
             ·rw [if_pos c17] at H
              have c17b0 : decide (57 < (bt x4_5 x6_4)) = true := decide_eq_true c17
              clear c17
              simp only [Option.some.injEq, Prod.mk.injEq] at H
              obtain ⟨rfl, rfl⟩ := H
              have p14 : 0 ≤ (x6_4 : Int) := of_decide_eq_true (by first | (with_reducible assumption) | assumption)
              have q14 : x6_4 < (x4_5.size : Int) := of_decide_eq_true (by first | (with_reducible assumption) | assumption)
              have hx14 := bt_at x4_5 x6_4
              replace p14 := eq_true p14
              replace q14 := eq_true q14
              have p16 : 0 ≤ (x6_4 : Int) := of_decide_eq_true (by first | (with_reducible assumption) | assumption)
              have q16 : x6_4 < (x4_5.size : Int) := of_decide_eq_true (by first | (with_reducible assumption) | assumption)
              have hx16 := bt_at x4_5 x6_4
              replace p16 := eq_true p16
              replace q16 := eq_true q16
              go_wp2
              go_ret2
              exact ⟨by first | rfl | (simp [errW_none, errW_some] <;> rfl) | (simp [*, errW_none, errW_some] <;> rfl), by repeat (first | (with_reducible first | exact HB.out | apply below_alloc | apply pw_below_drewN | apply below_drew1) | exact HB.out)⟩
             ·rw [if_neg c17] at H
              have c17b0 : decide (57 < (bt x4_5 x6_4)) = false := decide_eq_false c17
              clear c17
              by_cases c18 : x5_4 > 100000000000000000
              ·rw [if_pos c18] at H
               have c18b0 : decide (100000000000000000 < x5_4) = true := decide_eq_true c18
               clear c18
               simp only [Option.some.injEq, Prod.mk.injEq] at H
               obtain ⟨rfl, rfl⟩ := H
               have p14 : 0 ≤ (x6_4 : Int) := of_decide_eq_true (by first | (with_reducible assumption) | assumption)
               have q14 : x6_4 < (x4_5.size : Int) := of_decide_eq_true (by first | (with_reducible assumption) | assumption)
               have hx14 := bt_at x4_5 x6_4
               replace p14 := eq_true p14
               replace q14 := eq_true q14
               have p16 : 0 ≤ (x6_4 : Int) := of_decide_eq_true (by first | (with_reducible assumption) | assumption)
               have q16 : x6_4 < (x4_5.size : Int) := of_decide_eq_true (by first | (with_reducible assumption) | assumption)
               have hx16 := bt_at x4_5 x6_4
               replace p16 := eq_true p16
               replace q16 := eq_true q16
               go_wp2
               go_ret2
               exact ⟨by first | rfl | (simp [errW_none, errW_some] <;> rfl) | (simp [*, errW_none, errW_some] <;> rfl), by repeat (first | (with_reducible first | exact HB.out | apply below_alloc | apply pw_below_drewN | apply below_drew1) | exact HB.out)⟩
              ·rw [if_neg c18] at H
               have c18b0 : decide (100000000000000000 < x5_4) = false := decide_eq_false c18
               clear c18
               have H' := Aside0.mk H
               clear H
               have p14 : 0 ≤ (x6_4 : Int) := of_decide_eq_true (by first | (with_reducible assumption) | assumption)
               have q14 : x6_4 < (x4_5.size : Int) := of_decide_eq_true (by first | (with_reducible assumption) | assumption)
               have hx14 := bt_at x4_5 x6_4
               replace p14 := eq_true p14
               replace q14 := eq_true q14
               have p16 : 0 ≤ (x6_4 : Int) := of_decide_eq_true (by first | (with_reducible assumption) | assumption)
               have q16 : x6_4 < (x4_5.size : Int) := of_decide_eq_true (by first | (with_reducible assumption) | assumption)
               have hx16 := bt_at x4_5 x6_4
               replace p16 := eq_true p16
               replace q16 := eq_true q16
               have p19 : 0 ≤ (x6_4 : Int) := of_decide_eq_true (by first | (with_reducible assumption) | assumption)
               have q19 : x6_4 < (x4_5.size : Int) := of_decide_eq_true (by first | (with_reducible assumption) | assumption)
               have hx19 := bt_at x4_5 x6_4
               replace p19 := eq_true p19
               replace q19 := eq_true q19
               go_wp2
               go_roundg k4
               case measure => have := HJ1.out; have := HJ5.out; have := HJ8.out; have := HK4.out; omega
               case rel => exact ⟨(wrap64 ((wrap64 (10 * x5_4)) + (((bt x4_5 x6_4) - 48) % 256))), (wrap64 (x6_4 + 1)), (by first | rfl | (simp; done) | (simp [*]; done)), (by first | rfl | (simp; done) | (simp [*]; done)), H', ⟨by have := HJ1.out; have := HJ5.out; have := HJ8.out; have := HK4.out; omega⟩, ⟨by repeat (first | (with_reducible first | exact HB.out | apply below_alloc | apply pw_below_drewN | apply below_drew1) | exact HB.out)⟩⟩
           ·rw [if_neg c13] at H
            exact absurd H (by simp)
          ·rw [if_neg c12] at H
           have c12b0 : decide (x6_4 < (x4_5.size : Int)) = false := decide_eq_false c12
           clear c12
           by_cases c20 : (x4_5.size : Int) < (a0.size : Int)
           ·rw [if_pos c20] at H
            have c20b0 : decide ((x4_5.size : Int) < (a0.size : Int)) = true := decide_eq_true c20
            have c20b1 : decide (x4_5.size < a0.size) = true := decide_eq_true (Int.ofNat_lt.mp c20)
            clear c20
            replace H := Option.bind_eq_some_iff.mp H
            obtain ⟨t307, A210, H⟩ := H
            replace H : (if t307 = true then ((spec_l01Dec.f k4 (wrap64 (-x5_4))).bind fun t308 => (some (wrap64 (-x5_4), (t308.toList == a0.toList)))) else (some (wrap64 (-x5_4), false))) = some (r1, r2) := H
            have A21 := Aside0.mk A210
            clear A210
            by_cases c22 : t307 = true
            ·subst c22
             have H1 : ((spec_l01Dec.f k4 (wrap64 (-x5_4))).bind fun t308 => (some (wrap64 (-x5_4), (t308.toList == a0.toList)))) = some (r1, r2) := by rw [if_pos rfl] at H; exact H
             clear H
             have H := H1
             clear H1
             replace H := Option.bind_eq_some_iff.mp H
             obtain ⟨t308, A230, H⟩ := H
             replace H : (some (wrap64 (-x5_4), (t308.toList == a0.toList))) = some (r1, r2) := H
             have A23 := Aside0.mk A230
             clear A230
             simp only [Option.some.injEq, Prod.mk.injEq] at H
             obtain ⟨rfl, rfl⟩ := H
             go_wp2_with (first | ((with_reducible refine gate_callee (f := 51) rfl ?_); refine goesL_ (some 63) rfl rfl Tryd.func51 (by kernel_rfl) rfl #[.int .i64 (wrap64 (-x5_4)), .int .i64 (-1000000000000000000), .int .i64 1000000000000000000] rfl (by (try simp only [List.map_toArray, List.map_cons, List.map_nil]); first | done | rfl | (simp only [List.length_drop, List.length_take]; rfl)) ?_; (with_reducible refine (spec_l00In.calls (wrap64 (-x5_4)) (-1000000000000000000) 1000000000000000000 true _ A21.out).mono ?_); rintro e w' ⟨rfl, ⟨nd, rfl⟩⟩; refine ⟨_, rfl, ?_⟩) | (go_at_call 38; (with_reducible refine (spec_l01Dec.calls k4 (wrap64 (-x5_4)) t308 _ A23.out).mono ?_); rintro e w24 ⟨rfl, hb⟩; have n0_ := Aside0.mk (below_step (by repeat (first | (with_reducible first | exact HB.out | apply below_alloc | apply pw_below_drewN | apply below_drew1) | exact HB.out)) hb); clear HB; have HB := n0_; clear n0_; (try clear hb); (try clear hb2); (try clear hk); (try clear hi)))
             go_ret2
             exact ⟨by first | rfl | (simp [errW_none, errW_some] <;> rfl) | (simp [*, errW_none, errW_some] <;> rfl), by repeat (first | (with_reducible first | exact HB.out | apply below_alloc | apply pw_below_drewN | apply below_drew1) | exact HB.out)⟩
            ·replace c22 := Bool.eq_false_iff.mpr c22
             subst c22
             have H1 : (some (wrap64 (-x5_4), false)) = some (r1, r2) := by rw [if_neg (show ¬ (false = true) by decide)] at H; exact H
             clear H
             have H := H1
             clear H1
             simp only [Option.some.injEq, Prod.mk.injEq] at H
             obtain ⟨rfl, rfl⟩ := H
             go_wp2_with (first | ((with_reducible refine gate_callee (f := 51) rfl ?_); refine goesL_ (some 63) rfl rfl Tryd.func51 (by kernel_rfl) rfl #[.int .i64 (wrap64 (-x5_4)), .int .i64 (-1000000000000000000), .int .i64 1000000000000000000] rfl (by (try simp only [List.map_toArray, List.map_cons, List.map_nil]); first | done | rfl | (simp only [List.length_drop, List.length_take]; rfl)) ?_; (with_reducible refine (spec_l00In.calls (wrap64 (-x5_4)) (-1000000000000000000) 1000000000000000000 false _ A21.out).mono ?_); rintro e w' ⟨rfl, ⟨nd, rfl⟩⟩; refine ⟨_, rfl, ?_⟩))
             go_ret2
             exact ⟨by first | rfl | (simp [errW_none, errW_some] <;> rfl) | (simp [*, errW_none, errW_some] <;> rfl), by repeat (first | (with_reducible first | exact HB.out | apply below_alloc | apply pw_below_drewN | apply below_drew1) | exact HB.out)⟩
           ·rw [if_neg c20] at H
            have c20b0 : decide ((x4_5.size : Int) < (a0.size : Int)) = false := decide_eq_false c20
            have c20b1 : decide (x4_5.size < a0.size) = false := decide_eq_false (fun h => c20 (Int.ofNat_lt.mpr h))
            clear c20
            replace H := Option.bind_eq_some_iff.mp H
            obtain ⟨t309, A250, H⟩ := H
            replace H : (if t309 = true then ((spec_l01Dec.f k4 x5_4).bind fun t310 => (some (x5_4, (t310.toList == a0.toList)))) else (some (x5_4, false))) = some (r1, r2) := H
            have A25 := Aside0.mk A250
            clear A250
            by_cases c26 : t309 = true
            ·subst c26
             have H1 : ((spec_l01Dec.f k4 x5_4).bind fun t310 => (some (x5_4, (t310.toList == a0.toList)))) = some (r1, r2) := by rw [if_pos rfl] at H; exact H
             clear H
             have H := H1
             clear H1
             replace H := Option.bind_eq_some_iff.mp H
             obtain ⟨t310, A270, H⟩ := H
             replace H : (some (x5_4, (t310.toList == a0.toList))) = some (r1, r2) := H
             have A27 := Aside0.mk A270
             clear A270
             simp only [Option.some.injEq, Prod.mk.injEq] at H
             obtain ⟨rfl, rfl⟩ := H
             go_wp2_with (first | ((with_reducible refine gate_callee (f := 51) rfl ?_); refine goesL_ (some 63) rfl rfl Tryd.func51 (by kernel_rfl) rfl #[.int .i64 x5_4, .int .i64 (-1000000000000000000), .int .i64 1000000000000000000] rfl (by (try simp only [List.map_toArray, List.map_cons, List.map_nil]); first | done | rfl | (simp only [List.length_drop, List.length_take]; rfl)) ?_; (with_reducible refine (spec_l00In.calls x5_4 (-1000000000000000000) 1000000000000000000 true _ A25.out).mono ?_); rintro e w' ⟨rfl, ⟨nd, rfl⟩⟩; refine ⟨_, rfl, ?_⟩) | (go_at_call 38; (with_reducible refine (spec_l01Dec.calls k4 x5_4 t310 _ A27.out).mono ?_); rintro e w28 ⟨rfl, hb⟩; have n0_ := Aside0.mk (below_step (by repeat (first | (with_reducible first | exact HB.out | apply below_alloc | apply pw_below_drewN | apply below_drew1) | exact HB.out)) hb); clear HB; have HB := n0_; clear n0_; (try clear hb); (try clear hb2); (try clear hk); (try clear hi)))
             go_ret2
             exact ⟨by first | rfl | (simp [errW_none, errW_some] <;> rfl) | (simp [*, errW_none, errW_some] <;> rfl), by repeat (first | (with_reducible first | exact HB.out | apply below_alloc | apply pw_below_drewN | apply below_drew1) | exact HB.out)⟩
            ·replace c26 := Bool.eq_false_iff.mpr c26
             subst c26
             have H1 : (some (x5_4, false)) = some (r1, r2) := by rw [if_neg (show ¬ (false = true) by decide)] at H; exact H
             clear H
             have H := H1
             clear H1
             simp only [Option.some.injEq, Prod.mk.injEq] at H
             obtain ⟨rfl, rfl⟩ := H
             go_wp2_with (first | ((with_reducible refine gate_callee (f := 51) rfl ?_); refine goesL_ (some 63) rfl rfl Tryd.func51 (by kernel_rfl) rfl #[.int .i64 x5_4, .int .i64 (-1000000000000000000), .int .i64 1000000000000000000] rfl (by (try simp only [List.map_toArray, List.map_cons, List.map_nil]); first | done | rfl | (simp only [List.length_drop, List.length_take]; rfl)) ?_; (with_reducible refine (spec_l00In.calls x5_4 (-1000000000000000000) 1000000000000000000 false _ A25.out).mono ?_); rintro e w' ⟨rfl, ⟨nd, rfl⟩⟩; refine ⟨_, rfl, ?_⟩))
             go_ret2
             exact ⟨by first | rfl | (simp [errW_none, errW_some] <;> rfl) | (simp [*, errW_none, errW_some] <;> rfl), by repeat (first | (with_reducible first | exact HB.out | apply below_alloc | apply pw_below_drewN | apply below_drew1) | exact HB.out)⟩
end Go.Proofs.YtalkmhnlgfncmaaDoor.X
end
section
-- Written by a program of this session out of the kit's print of the loaded functions: a plain function of a Go function, and its contract.
namespace Go.Proofs.YtalkmhnlgfncmaaDoor.X
open Go.RowKit Go.Proofs.YtalkmhnlgfncmaaDoorW.PrintWords Go.Proofs.YtalkmhnlgfncmaaDoorW.PrintLast Go.Proofs.YtalkmhnlgfncmaaDoorW.PrintMore
attribute [local go_sem] max2_int min2_int max_two min_two max_three min_three max_four min_four   -- for this text's walks alone
set_option linter.unusedVariables false
set_option linter.unusedSimpArgs false
def spec_l01Value.f (k : Nat) (a0 : ByteArray) : Option (Int × Bool) := (spec_l01Great.f k a0).bind fun bt311 => (if bt311.2 = true then ((spec_l00In.f bt311.1 (-1000000000000000) 1000000000000000).bind fun t313 => (if t313 = true then (some (bt311.1, true)) else (some (0, false)))) else (some (0, false)))
theorem spec_l01Value.mono : ∀ a0 k, LeO (spec_l01Value.f k a0) (spec_l01Value.f (k + 1) a0) := by
 intro a0 k
 unfold spec_l01Value.f
 repeat' first
   | (with_reducible exact spec_l01Great.mono _ _)
   | (with_reducible exact LeO.refl _)
   | (with_reducible exact LeO.none _)
   | (with_reducible refine LeO.ite ?_ ?_)
   | (with_reducible refine LeO.bind ?_ (fun _ => ?_))
   | exact spec_l01Great.mono _ _
   | exact LeO.none _
   | refine LeO.ite ?_ ?_
   | refine LeO.bind ?_ (fun _ => ?_)
set_option maxHeartbeats 8000000 in
set_option maxRecDepth 100000 in
theorem spec_l01Value.calls (k : Nat) (a0 : ByteArray) (r1 : Int) (r2 : Bool) (w : World) (h : spec_l01Value.f k a0 = some (r1, r2)) :
  Calls Tryd.prog 35 #[.string a0] w fun e w' => e = .returned (.tuple #[.int .i64 r1, .bool r2]) ∧ Below w.heap.size w w' := by
 have HB := Aside0.mk (Below.refl w.heap.size w)
 have H : ((spec_l01Great.f k a0).bind fun bt311 => (if bt311.2 = true then ((spec_l00In.f bt311.1 (-1000000000000000) 1000000000000000).bind fun t313 => (if t313 = true then (some (bt311.1, true)) else (some (0, false)))) else (some (0, false)))) = some (r1, r2) := h
 clear h
 replace H := Option.bind_eq_some_iff.mp H
 obtain ⟨⟨t311, t312⟩, A20, H⟩ := H
 replace H : (if t312 = true then ((spec_l00In.f t311 (-1000000000000000) 1000000000000000).bind fun t313 => (if t313 = true then (some (t311, true)) else (some (0, false)))) else (some (0, false))) = some (r1, r2) := H
 have A2 := Aside0.mk A20
 clear A20
 by_cases c3 : t312 = true
 ·subst c3
  have H1 : ((spec_l00In.f t311 (-1000000000000000) 1000000000000000).bind fun t313 => (if t313 = true then (some (t311, true)) else (some (0, false)))) = some (r1, r2) := by rw [if_pos rfl] at H; exact H
  clear H
  have H := H1
  clear H1
  replace H := Option.bind_eq_some_iff.mp H
  obtain ⟨t313, A40, H⟩ := H
  replace H : (if t313 = true then (some (t311, true)) else (some (0, false))) = some (r1, r2) := H
  have A4 := Aside0.mk A40
  clear A40
  by_cases c5 : t313 = true
  ·subst c5
   have H1 : (some (t311, true)) = some (r1, r2) := by rw [if_pos rfl] at H; exact H
   clear H
   have H := H1
   clear H1
   simp only [Option.some.injEq, Prod.mk.injEq] at H
   obtain ⟨rfl, rfl⟩ := H
   go_enter Tryd.func35, Tryd.ntmps35
   go_wp2_with (first | ((with_reducible refine gate_callee (f := 50) rfl ?_); refine goesL_ (some 8) rfl rfl Tryd.func50 (by kernel_rfl) rfl #[.string a0] rfl (by (try simp only [List.map_toArray, List.map_cons, List.map_nil]); first | done | rfl | (simp only [List.length_drop, List.length_take]; rfl)) ?_; (with_reducible refine (spec_l01Great.calls k a0 t311 true _ A2.out).mono ?_); rintro e w6 ⟨rfl, hb⟩; refine ⟨_, rfl, ?_⟩; have n0_ := Aside0.mk (below_step (by repeat (first | (with_reducible first | exact HB.out | apply below_alloc | apply pw_below_drewN | apply below_drew1) | exact HB.out)) hb); clear HB; have HB := n0_; clear n0_; (try clear hb); (try clear hb2); (try clear hk); (try clear hi)) | (go_at_call 51; (with_reducible refine (spec_l00In.calls t311 (-1000000000000000) 1000000000000000 true _ A4.out).mono ?_); rintro e w' ⟨rfl, ⟨nd, rfl⟩⟩))
   go_ret2
   exact ⟨by first | rfl | (simp [errW_none, errW_some] <;> rfl) | (simp [*, errW_none, errW_some] <;> rfl), by repeat (first | (with_reducible first | exact HB.out | apply below_alloc | apply pw_below_drewN | apply below_drew1) | exact HB.out)⟩
  ·replace c5 := Bool.eq_false_iff.mpr c5
   subst c5
   have H1 : (some (0, false)) = some (r1, r2) := by rw [if_neg (show ¬ (false = true) by decide)] at H; exact H
   clear H
   have H := H1
   clear H1
   simp only [Option.some.injEq, Prod.mk.injEq] at H
   obtain ⟨rfl, rfl⟩ := H
   go_enter Tryd.func35, Tryd.ntmps35
   go_wp2_with (first | ((with_reducible refine gate_callee (f := 50) rfl ?_); refine goesL_ (some 8) rfl rfl Tryd.func50 (by kernel_rfl) rfl #[.string a0] rfl (by (try simp only [List.map_toArray, List.map_cons, List.map_nil]); first | done | rfl | (simp only [List.length_drop, List.length_take]; rfl)) ?_; (with_reducible refine (spec_l01Great.calls k a0 t311 true _ A2.out).mono ?_); rintro e w7 ⟨rfl, hb⟩; refine ⟨_, rfl, ?_⟩; have n0_ := Aside0.mk (below_step (by repeat (first | (with_reducible first | exact HB.out | apply below_alloc | apply pw_below_drewN | apply below_drew1) | exact HB.out)) hb); clear HB; have HB := n0_; clear n0_; (try clear hb); (try clear hb2); (try clear hk); (try clear hi)) | (go_at_call 51; (with_reducible refine (spec_l00In.calls t311 (-1000000000000000) 1000000000000000 false _ A4.out).mono ?_); rintro e w' ⟨rfl, ⟨nd, rfl⟩⟩))
   go_ret2
   exact ⟨by first | rfl | (simp [errW_none, errW_some] <;> rfl) | (simp [*, errW_none, errW_some] <;> rfl), by repeat (first | (with_reducible first | exact HB.out | apply below_alloc | apply pw_below_drewN | apply below_drew1) | exact HB.out)⟩
 ·replace c3 := Bool.eq_false_iff.mpr c3
  subst c3
  have H1 : (some (0, false)) = some (r1, r2) := by rw [if_neg (show ¬ (false = true) by decide)] at H; exact H
  clear H
  have H := H1
  clear H1
  simp only [Option.some.injEq, Prod.mk.injEq] at H
  obtain ⟨rfl, rfl⟩ := H
  go_enter Tryd.func35, Tryd.ntmps35
  go_wp2_with (first | ((with_reducible refine gate_callee (f := 50) rfl ?_); refine goesL_ (some 8) rfl rfl Tryd.func50 (by kernel_rfl) rfl #[.string a0] rfl (by (try simp only [List.map_toArray, List.map_cons, List.map_nil]); first | done | rfl | (simp only [List.length_drop, List.length_take]; rfl)) ?_; (with_reducible refine (spec_l01Great.calls k a0 t311 false _ A2.out).mono ?_); rintro e w8 ⟨rfl, hb⟩; refine ⟨_, rfl, ?_⟩; have n0_ := Aside0.mk (below_step (by repeat (first | (with_reducible first | exact HB.out | apply below_alloc | apply pw_below_drewN | apply below_drew1) | exact HB.out)) hb); clear HB; have HB := n0_; clear n0_; (try clear hb); (try clear hb2); (try clear hk); (try clear hi)))
  go_ret2
  exact ⟨by first | rfl | (simp [errW_none, errW_some] <;> rfl) | (simp [*, errW_none, errW_some] <;> rfl), by repeat (first | (with_reducible first | exact HB.out | apply below_alloc | apply pw_below_drewN | apply below_drew1) | exact HB.out)⟩
end Go.Proofs.YtalkmhnlgfncmaaDoor.X
end
section
-- Written by a program of this session out of the kit's print of the loaded functions: a plain function of a Go function, and its contract.
namespace Go.Proofs.YtalkmhnlgfncmaaDoor.X
open Go.RowKit Go.Proofs.YtalkmhnlgfncmaaDoorW.PrintWords Go.Proofs.YtalkmhnlgfncmaaDoorW.PrintLast Go.Proofs.YtalkmhnlgfncmaaDoorW.PrintMore
attribute [local go_sem] max2_int min2_int max_two min_two max_three min_three max_four min_four   -- for this text's walks alone
set_option linter.unusedVariables false
set_option linter.unusedSimpArgs false
def spec_l04Number.f (k : Nat) (a0 : ByteArray) : Option (Int) := (spec_l01Value.f k a0).bind fun bt314 => (if bt314.2 = true then (some bt314.1) else (some (-1000000)))
theorem spec_l04Number.mono : ∀ a0 k, LeO (spec_l04Number.f k a0) (spec_l04Number.f (k + 1) a0) := by
 intro a0 k
 unfold spec_l04Number.f
 repeat' first
   | (with_reducible exact spec_l01Value.mono _ _)
   | (with_reducible exact LeO.refl _)
   | (with_reducible exact LeO.none _)
   | (with_reducible refine LeO.ite ?_ ?_)
   | (with_reducible refine LeO.bind ?_ (fun _ => ?_))
   | exact spec_l01Value.mono _ _
   | exact LeO.none _
   | refine LeO.ite ?_ ?_
   | refine LeO.bind ?_ (fun _ => ?_)
set_option maxHeartbeats 8000000 in
set_option maxRecDepth 100000 in
theorem spec_l04Number.calls (k : Nat) (a0 : ByteArray) (r : Int) (w : World) (h : spec_l04Number.f k a0 = some r) :
  Calls Tryd.prog 15 #[.string a0] w fun e w' => e = .returned (.int .i64 r) ∧ Below w.heap.size w w' := by
 have HB := Aside0.mk (Below.refl w.heap.size w)
 have H : ((spec_l01Value.f k a0).bind fun bt314 => (if bt314.2 = true then (some bt314.1) else (some (-1000000)))) = some r := h
 clear h
 replace H := Option.bind_eq_some_iff.mp H
 obtain ⟨⟨t314, t315⟩, A20, H⟩ := H
 replace H : (if t315 = true then (some t314) else (some (-1000000))) = some r := H
 have A2 := Aside0.mk A20
 clear A20
 by_cases c3 : t315 = true
 ·subst c3
  have H1 : (some t314) = some r := by rw [if_pos rfl] at H; exact H
  clear H
  have H := H1
  clear H1
  obtain rfl := Option.some.inj H
  go_enter Tryd.func15, Tryd.ntmps15
  go_wp2_with (first | ((with_reducible refine gate_callee (f := 35) rfl ?_); refine goesL_ (some 7) rfl rfl Tryd.func35 (by kernel_rfl) rfl #[.string a0] rfl (by (try simp only [List.map_toArray, List.map_cons, List.map_nil]); first | done | rfl | (simp only [List.length_drop, List.length_take]; rfl)) ?_; (with_reducible refine (spec_l01Value.calls k a0 t314 true _ A2.out).mono ?_); rintro e w4 ⟨rfl, hb⟩; refine ⟨_, rfl, ?_⟩; have n0_ := Aside0.mk (below_step (by repeat (first | (with_reducible first | exact HB.out | apply below_alloc | apply pw_below_drewN | apply below_drew1) | exact HB.out)) hb); clear HB; have HB := n0_; clear n0_; (try clear hb); (try clear hb2); (try clear hk); (try clear hi)))
  go_ret
  exact ⟨by first | rfl | (simp [errW_none, errW_some] <;> rfl) | (simp [*, errW_none, errW_some] <;> rfl), by repeat (first | (with_reducible first | exact HB.out | apply below_alloc | apply pw_below_drewN | apply below_drew1) | exact HB.out)⟩
 ·replace c3 := Bool.eq_false_iff.mpr c3
  subst c3
  have H1 : (some (-1000000)) = some r := by rw [if_neg (show ¬ (false = true) by decide)] at H; exact H
  clear H
  have H := H1
  clear H1
  obtain rfl := Option.some.inj H
  go_enter Tryd.func15, Tryd.ntmps15
  go_wp2_with (first | ((with_reducible refine gate_callee (f := 35) rfl ?_); refine goesL_ (some 7) rfl rfl Tryd.func35 (by kernel_rfl) rfl #[.string a0] rfl (by (try simp only [List.map_toArray, List.map_cons, List.map_nil]); first | done | rfl | (simp only [List.length_drop, List.length_take]; rfl)) ?_; (with_reducible refine (spec_l01Value.calls k a0 t314 false _ A2.out).mono ?_); rintro e w5 ⟨rfl, hb⟩; refine ⟨_, rfl, ?_⟩; have n0_ := Aside0.mk (below_step (by repeat (first | (with_reducible first | exact HB.out | apply below_alloc | apply pw_below_drewN | apply below_drew1) | exact HB.out)) hb); clear HB; have HB := n0_; clear n0_; (try clear hb); (try clear hb2); (try clear hk); (try clear hi)))
  go_ret
  exact ⟨by first | rfl | (simp [errW_none, errW_some] <;> rfl) | (simp [*, errW_none, errW_some] <;> rfl), by repeat (first | (with_reducible first | exact HB.out | apply below_alloc | apply pw_below_drewN | apply below_drew1) | exact HB.out)⟩
end Go.Proofs.YtalkmhnlgfncmaaDoor.X
end
section
-- Written by a program of this session out of the kit's print of the loaded functions: a plain function of a Go function, and its contract.
namespace Go.Proofs.YtalkmhnlgfncmaaDoor.X
open Go.RowKit Go.Proofs.YtalkmhnlgfncmaaDoorW.PrintWords Go.Proofs.YtalkmhnlgfncmaaDoorW.PrintLast Go.Proofs.YtalkmhnlgfncmaaDoorW.PrintMore
attribute [local go_sem] max2_int min2_int max_two min_two max_three min_three max_four min_four   -- for this text's walks alone
set_option linter.unusedVariables false
set_option linter.unusedSimpArgs false
def impl_ReadDecimal.f (a0 : ByteArray) : Option (Int × Bool) := (impl_readWide.f a0 1000000000000000).bind fun bt376 => (some (bt376.1, bt376.2))
set_option maxHeartbeats 8000000 in
set_option maxRecDepth 100000 in
theorem impl_ReadDecimal.calls (a0 : ByteArray) (r1 : Int) (r2 : Bool) (w : World) (h : impl_ReadDecimal.f a0 = some (r1, r2)) (hEnvR : EnvR w) :
  Calls Tryd.prog 20 #[.string a0] w fun e w' => e = .returned (.tuple #[.int .i64 r1, .bool r2]) ∧ Below w.heap.size w w' := by
 have HEnvR := Aside0.mk hEnvR
 clear hEnvR
 have HB := Aside0.mk (Below.refl w.heap.size w)
 have H : ((impl_readWide.f a0 1000000000000000).bind fun bt376 => (some (bt376.1, bt376.2))) = some (r1, r2) := h
 clear h
 replace H := Option.bind_eq_some_iff.mp H
 obtain ⟨⟨t376, t377⟩, A20, H⟩ := H
 replace H : (some (t376, t377)) = some (r1, r2) := H
 have A2 := Aside0.mk A20
 clear A20
 simp only [Option.some.injEq, Prod.mk.injEq] at H
 obtain ⟨rfl, rfl⟩ := H
 go_enter Tryd.func20, Tryd.ntmps20
 go_wp2_with (first | ((with_reducible refine gate_callee (f := 41) rfl ?_); refine goesL_ (some 5) rfl rfl Tryd.func41 (by kernel_rfl) rfl #[.string a0, .int .i64 1000000000000000] rfl (by (try simp only [List.map_toArray, List.map_cons, List.map_nil]); first | done | rfl | (simp only [List.length_drop, List.length_take]; rfl)) ?_; (with_reducible refine (impl_readWide.calls a0 1000000000000000 t376 t377 _ A2.out (HEnvR.out.below (by repeat (first | (with_reducible first | exact HB.out | apply below_alloc | apply pw_below_drewN | apply below_drew1) | exact HB.out)))).mono ?_); rintro e w3 ⟨rfl, hb⟩; refine ⟨_, rfl, ?_⟩; have n0_ := Aside0.mk (below_step (by repeat (first | (with_reducible first | exact HB.out | apply below_alloc | apply pw_below_drewN | apply below_drew1) | exact HB.out)) hb); clear HB; have HB := n0_; clear n0_; (try clear hb); (try clear hb2); (try clear hk); (try clear hi)))
 go_ret2
 exact ⟨by first | rfl | (simp [errW_none, errW_some] <;> rfl) | (simp [*, errW_none, errW_some] <;> rfl), by repeat (first | (with_reducible first | exact HB.out | apply below_alloc | apply pw_below_drewN | apply below_drew1) | exact HB.out)⟩
end Go.Proofs.YtalkmhnlgfncmaaDoor.X
end
section
-- Written by a program of this session out of the kit's print of the loaded functions: a plain function of a Go function, and its contract.
namespace Go.Proofs.YtalkmhnlgfncmaaDoor.X
open Go.RowKit Go.Proofs.YtalkmhnlgfncmaaDoorW.PrintWords Go.Proofs.YtalkmhnlgfncmaaDoorW.PrintLast Go.Proofs.YtalkmhnlgfncmaaDoorW.PrintMore
attribute [local go_sem] max2_int min2_int max_two min_two max_three min_three max_four min_four   -- for this text's walks alone
set_option linter.unusedVariables false
set_option linter.unusedSimpArgs false
def impl_threeNumbers.f (a0 : ByteArray) : Option (Int × Int × Int × Bool) := (strings_Split.f a0 (⟨#[46]⟩ : ByteArray)).bind fun t378 => (if (t378.length : Int) = 3 then (if 0 < (t378.length : Int) then ((impl_ReadDecimal.f (rdOf ByteArray.empty t378 0)).bind fun bt382 => (if 1 < (t378.length : Int) then ((impl_ReadDecimal.f (rdOf ByteArray.empty t378 1)).bind fun bt385 => (if 2 < (t378.length : Int) then ((impl_ReadDecimal.f (rdOf ByteArray.empty t378 2)).bind fun bt388 => (if bt382.2 = true then (if bt385.2 = true then (some (bt382.1, bt385.1, bt388.1, bt388.2)) else (some (bt382.1, bt385.1, bt388.1, false))) else (some (bt382.1, bt385.1, bt388.1, false)))) else (none))) else (none))) else (none)) else (some (0, 0, 0, false)))
set_option maxHeartbeats 8000000 in
set_option maxRecDepth 100000 in
theorem impl_threeNumbers.calls (a0 : ByteArray) (r1 : Int) (r2 : Int) (r3 : Int) (r4 : Bool) (w : World) (h : impl_threeNumbers.f a0 = some (r1, r2, r3, r4)) (hEnvR : EnvR w) :
  Calls Tryd.prog 21 #[.string a0] w fun e w' => e = .returned (.tuple #[.int .i64 r1, .int .i64 r2, .int .i64 r3, .bool r4]) ∧ Below w.heap.size w w' := by
 have HEnvR := Aside0.mk hEnvR
 clear hEnvR
 have HB := Aside0.mk (Below.refl w.heap.size w)
 have H : ((strings_Split.f a0 (⟨#[46]⟩ : ByteArray)).bind fun t378 => (if (t378.length : Int) = 3 then (if 0 < (t378.length : Int) then ((impl_ReadDecimal.f (rdOf ByteArray.empty t378 0)).bind fun bt382 => (if 1 < (t378.length : Int) then ((impl_ReadDecimal.f (rdOf ByteArray.empty t378 1)).bind fun bt385 => (if 2 < (t378.length : Int) then ((impl_ReadDecimal.f (rdOf ByteArray.empty t378 2)).bind fun bt388 => (if bt382.2 = true then (if bt385.2 = true then (some (bt382.1, bt385.1, bt388.1, bt388.2)) else (some (bt382.1, bt385.1, bt388.1, false))) else (some (bt382.1, bt385.1, bt388.1, false)))) else (none))) else (none))) else (none)) else (some (0, 0, 0, false)))) = some (r1, r2, r3, r4) := h
 clear h
 replace H := Option.bind_eq_some_iff.mp H
 obtain ⟨t378, A20, H⟩ := H
 replace H : (if (t378.length : Int) = 3 then (if 0 < (t378.length : Int) then ((impl_ReadDecimal.f (rdOf ByteArray.empty t378 0)).bind fun bt382 => (if 1 < (t378.length : Int) then ((impl_ReadDecimal.f (rdOf ByteArray.empty t378 1)).bind fun bt385 => (if 2 < (t378.length : Int) then ((impl_ReadDecimal.f (rdOf ByteArray.empty t378 2)).bind fun bt388 => (if bt382.2 = true then (if bt385.2 = true then (some (bt382.1, bt385.1, bt388.1, bt388.2)) else (some (bt382.1, bt385.1, bt388.1, false))) else (some (bt382.1, bt385.1, bt388.1, false)))) else (none))) else (none))) else (none)) else (some (0, 0, 0, false))) = some (r1, r2, r3, r4) := H
 have A2 := Aside0.mk A20
 clear A20
 by_cases c3 : (t378.length : Int) = 3
 ·rw [if_pos c3] at H
  have c3b0 : ((t378.length : Int) == 3) = true := beq_iff_eq.mpr c3
  have c3b1 : ((t378.length : Int) != 3) = false := bne_eq_false_iff_eq.mpr c3
  clear c3
  by_cases c4 : 0 < (t378.length : Int)
  ·rw [if_pos c4] at H
   have c4b0 : decide (0 < (t378.length : Int)) = true := decide_eq_true c4
   have c4b1 : decide (0 < t378.length) = true := decide_eq_true (by omega)
   clear c4
   replace H := Option.bind_eq_some_iff.mp H
   obtain ⟨⟨t382, t383⟩, A50, H⟩ := H
   replace H : (if 1 < (t378.length : Int) then ((impl_ReadDecimal.f (rdOf ByteArray.empty t378 1)).bind fun bt385 => (if 2 < (t378.length : Int) then ((impl_ReadDecimal.f (rdOf ByteArray.empty t378 2)).bind fun bt388 => (if t383 = true then (if bt385.2 = true then (some (t382, bt385.1, bt388.1, bt388.2)) else (some (t382, bt385.1, bt388.1, false))) else (some (t382, bt385.1, bt388.1, false)))) else (none))) else (none)) = some (r1, r2, r3, r4) := H
   have A5 := Aside0.mk A50
   clear A50
   by_cases c6 : 1 < (t378.length : Int)
   ·rw [if_pos c6] at H
    have c6b0 : decide (1 < (t378.length : Int)) = true := decide_eq_true c6
    have c6b1 : decide (1 < t378.length) = true := decide_eq_true (by omega)
    clear c6
    replace H := Option.bind_eq_some_iff.mp H
    obtain ⟨⟨t385, t386⟩, A70, H⟩ := H
    replace H : (if 2 < (t378.length : Int) then ((impl_ReadDecimal.f (rdOf ByteArray.empty t378 2)).bind fun bt388 => (if t383 = true then (if t386 = true then (some (t382, t385, bt388.1, bt388.2)) else (some (t382, t385, bt388.1, false))) else (some (t382, t385, bt388.1, false)))) else (none)) = some (r1, r2, r3, r4) := H
    have A7 := Aside0.mk A70
    clear A70
    by_cases c8 : 2 < (t378.length : Int)
    ·rw [if_pos c8] at H
     have c8b0 : decide (2 < (t378.length : Int)) = true := decide_eq_true c8
     have c8b1 : decide (2 < t378.length) = true := decide_eq_true (by omega)
     clear c8
     replace H := Option.bind_eq_some_iff.mp H
     obtain ⟨⟨t388, t389⟩, A90, H⟩ := H
     replace H : (if t383 = true then (if t386 = true then (some (t382, t385, t388, t389)) else (some (t382, t385, t388, false))) else (some (t382, t385, t388, false))) = some (r1, r2, r3, r4) := H
     have A9 := Aside0.mk A90
     clear A90
     by_cases c10 : t383 = true
     ·subst c10
      have H1 : (if t386 = true then (some (t382, t385, t388, t389)) else (some (t382, t385, t388, false))) = some (r1, r2, r3, r4) := by rw [if_pos rfl] at H; exact H
      clear H
      have H := H1
      clear H1
      by_cases c11 : t386 = true
      ·subst c11
       have H1 : (some (t382, t385, t388, t389)) = some (r1, r2, r3, r4) := by rw [if_pos rfl] at H; exact H
       clear H
       have H := H1
       clear H1
       simp only [Option.some.injEq, Prod.mk.injEq] at H
       obtain ⟨rfl, rfl, rfl, rfl⟩ := H
       go_enter Tryd.func21, Tryd.ntmps21
       go_wp2_with (first | ((with_reducible refine gate_callee (f := 19) rfl ?_); refine goesL_ (some 14) rfl rfl Tryd.func19 (by kernel_rfl) rfl #[.string a0, .string (⟨#[46]⟩ : ByteArray)] rfl (by (try simp only [List.map_toArray, List.map_cons, List.map_nil]); first | done | rfl | (simp only [List.length_drop, List.length_take]; rfl)) ?_; (with_reducible refine (strings_Split.calls a0 (⟨#[46]⟩ : ByteArray) t378 _ A2.out).mono ?_); rintro e w12 ⟨v379, rfl, ho0, hb⟩; refine ⟨_, rfl, ?_⟩; have n0_ := Aside0.mk (Kd.R_lower ho0 (below_size (by repeat (first | (with_reducible first | exact HB.out | apply below_alloc | apply pw_below_drewN | apply below_drew1) | exact HB.out)))); have n1_ := Aside0.mk (below_step (by repeat (first | (with_reducible first | exact HB.out | apply below_alloc | apply pw_below_drewN | apply below_drew1) | exact HB.out)) hb); clear HB; have HO380 := n0_; have HB := n1_; clear n0_ n1_; (try clear hb); (try clear hb2); (try clear hk); (try clear hi); (try clear ho0); obtain ⟨Ao13, co13, eo13⟩ := Kd.R_slice HO380.out; subst eo13; have p381 : 0 ≤ (0 : Int) := (by omega); have q381 : 0 < (t378.length : Int) := of_decide_eq_true (by first | (with_reducible assumption) | assumption); obtain ⟨ad381, e381, hx381_0⟩ := Kd.at_string (Kd.R_reads' HO380.out).2.2 0 p381 q381; cases e381; have qi381 : (0 < t378.length) = True := eq_true (by omega); (try rw [show ((0 : Int)).toNat = 0 from rfl] at hx381_0); (try rw [Addr.add_zero'] at hx381_0); replace p381 := eq_true p381; replace q381 := eq_true q381) | ((with_reducible refine gate_callee (f := 20) rfl ?_); refine goesL_ (some 22) rfl rfl Tryd.func20 (by kernel_rfl) rfl #[.string (rdOf ByteArray.empty t378 0)] rfl (by (try simp only [List.map_toArray, List.map_cons, List.map_nil]); first | done | rfl | (simp only [List.length_drop, List.length_take]; rfl)) ?_; (with_reducible refine (impl_ReadDecimal.calls (rdOf ByteArray.empty t378 0) t382 true _ A5.out (HEnvR.out.below (by repeat (first | (with_reducible first | exact HB.out | apply below_alloc | apply pw_below_drewN | apply below_drew1) | exact HB.out)))).mono ?_); rintro e w14 ⟨rfl, hb⟩; refine ⟨_, rfl, ?_⟩; have n0_ := Aside0.mk (Kd.R_below (by (with_reducible repeat (first | apply Kd.R_alloc | apply Kd.R_drewN | apply Kd.R_drew)); exact HO380.out) hb); have n1_ := Aside0.mk (below_step (by repeat (first | (with_reducible first | exact HB.out | apply below_alloc | apply pw_below_drewN | apply below_drew1) | exact HB.out)) hb); clear HO380; clear HB; have HO380 := n0_; have HB := n1_; clear n0_ n1_; (try clear hb); (try clear hb2); (try clear hk); (try clear hi); have p384 : 0 ≤ (1 : Int) := (by omega); have q384 : 1 < (t378.length : Int) := of_decide_eq_true (by first | (with_reducible assumption) | assumption); obtain ⟨ad384, e384, hx384_0⟩ := Kd.at_string (Kd.R_reads' HO380.out).2.2 1 p384 q384; obtain rfl : ad381 = ad384 := (by injection e384); (try simp only [show (1 : Int).toNat = 1 from rfl, Nat.reduceMul, Nat.reduceEqDiff, Go.Addr.add, ↓reduceIte] at hx384_0); have qi384 : (1 < t378.length) = True := eq_true (by omega); (try rw [show ((1 : Int)).toNat = 1 from rfl] at hx384_0); replace p384 := eq_true p384; replace q384 := eq_true q384) | ((with_reducible refine gate_callee (f := 20) rfl ?_); refine goesL_ (some 29) rfl rfl Tryd.func20 (by kernel_rfl) rfl #[.string (rdOf ByteArray.empty t378 1)] rfl (by (try simp only [List.map_toArray, List.map_cons, List.map_nil]); first | done | rfl | (simp only [List.length_drop, List.length_take]; rfl)) ?_; (with_reducible refine (impl_ReadDecimal.calls (rdOf ByteArray.empty t378 1) t385 true _ A7.out (HEnvR.out.below (by repeat (first | (with_reducible first | exact HB.out | apply below_alloc | apply pw_below_drewN | apply below_drew1) | exact HB.out)))).mono ?_); rintro e w15 ⟨rfl, hb⟩; refine ⟨_, rfl, ?_⟩; have n0_ := Aside0.mk (Kd.R_below (by (with_reducible repeat (first | apply Kd.R_alloc | apply Kd.R_drewN | apply Kd.R_drew)); exact HO380.out) hb); have n1_ := Aside0.mk (below_step (by repeat (first | (with_reducible first | exact HB.out | apply below_alloc | apply pw_below_drewN | apply below_drew1) | exact HB.out)) hb); clear HO380; clear HB; have HO380 := n0_; have HB := n1_; clear n0_ n1_; (try clear hb); (try clear hb2); (try clear hk); (try clear hi); have p387 : 0 ≤ (2 : Int) := (by omega); have q387 : 2 < (t378.length : Int) := of_decide_eq_true (by first | (with_reducible assumption) | assumption); obtain ⟨ad387, e387, hx387_0⟩ := Kd.at_string (Kd.R_reads' HO380.out).2.2 2 p387 q387; obtain rfl : ad381 = ad387 := (by injection e387); (try simp only [show (2 : Int).toNat = 2 from rfl, Nat.reduceMul, Nat.reduceEqDiff, Go.Addr.add, ↓reduceIte] at hx387_0); have qi387 : (2 < t378.length) = True := eq_true (by omega); (try rw [show ((2 : Int)).toNat = 2 from rfl] at hx387_0); replace p387 := eq_true p387; replace q387 := eq_true q387) | ((with_reducible refine gate_callee (f := 20) rfl ?_); refine goesL_ (some 36) rfl rfl Tryd.func20 (by kernel_rfl) rfl #[.string (rdOf ByteArray.empty t378 2)] rfl (by (try simp only [List.map_toArray, List.map_cons, List.map_nil]); first | done | rfl | (simp only [List.length_drop, List.length_take]; rfl)) ?_; (with_reducible refine (impl_ReadDecimal.calls (rdOf ByteArray.empty t378 2) t388 t389 _ A9.out (HEnvR.out.below (by repeat (first | (with_reducible first | exact HB.out | apply below_alloc | apply pw_below_drewN | apply below_drew1) | exact HB.out)))).mono ?_); rintro e w16 ⟨rfl, hb⟩; refine ⟨_, rfl, ?_⟩; have n0_ := Aside0.mk (Kd.R_below (by (with_reducible repeat (first | apply Kd.R_alloc | apply Kd.R_drewN | apply Kd.R_drew)); exact HO380.out) hb); have n1_ := Aside0.mk (below_step (by repeat (first | (with_reducible first | exact HB.out | apply below_alloc | apply pw_below_drewN | apply below_drew1) | exact HB.out)) hb); clear HO380; clear HB; have HO380 := n0_; have HB := n1_; clear n0_ n1_; (try clear hb); (try clear hb2); (try clear hk); (try clear hi)))
       refine bodyPost_ret (results_list (rs := [.tmp 2, .tmp 3, .tmp 4, .tmp 5]) rfl (by simp) (.tmp (.tmp (.tmp (.tmp .nil))))) rfl ?_
       exact ⟨by first | rfl | (simp [errW_none, errW_some] <;> rfl) | (simp [*, errW_none, errW_some] <;> rfl), by repeat (first | (with_reducible first | exact HB.out | apply below_alloc | apply pw_below_drewN | apply below_drew1) | exact HB.out)⟩
      ·replace c11 := Bool.eq_false_iff.mpr c11
       subst c11
       have H1 : (some (t382, t385, t388, false)) = some (r1, r2, r3, r4) := by rw [if_neg (show ¬ (false = true) by decide)] at H; exact H
       clear H
       have H := H1
       clear H1
       simp only [Option.some.injEq, Prod.mk.injEq] at H
       obtain ⟨rfl, rfl, rfl, rfl⟩ := H
       go_enter Tryd.func21, Tryd.ntmps21
       go_wp2_with (first | ((with_reducible refine gate_callee (f := 19) rfl ?_); refine goesL_ (some 14) rfl rfl Tryd.func19 (by kernel_rfl) rfl #[.string a0, .string (⟨#[46]⟩ : ByteArray)] rfl (by (try simp only [List.map_toArray, List.map_cons, List.map_nil]); first | done | rfl | (simp only [List.length_drop, List.length_take]; rfl)) ?_; (with_reducible refine (strings_Split.calls a0 (⟨#[46]⟩ : ByteArray) t378 _ A2.out).mono ?_); rintro e w17 ⟨v379, rfl, ho0, hb⟩; refine ⟨_, rfl, ?_⟩; have n0_ := Aside0.mk (Kd.R_lower ho0 (below_size (by repeat (first | (with_reducible first | exact HB.out | apply below_alloc | apply pw_below_drewN | apply below_drew1) | exact HB.out)))); have n1_ := Aside0.mk (below_step (by repeat (first | (with_reducible first | exact HB.out | apply below_alloc | apply pw_below_drewN | apply below_drew1) | exact HB.out)) hb); clear HB; have HO380 := n0_; have HB := n1_; clear n0_ n1_; (try clear hb); (try clear hb2); (try clear hk); (try clear hi); (try clear ho0); obtain ⟨Ao18, co18, eo18⟩ := Kd.R_slice HO380.out; subst eo18; have p381 : 0 ≤ (0 : Int) := (by omega); have q381 : 0 < (t378.length : Int) := of_decide_eq_true (by first | (with_reducible assumption) | assumption); obtain ⟨ad381, e381, hx381_0⟩ := Kd.at_string (Kd.R_reads' HO380.out).2.2 0 p381 q381; cases e381; have qi381 : (0 < t378.length) = True := eq_true (by omega); (try rw [show ((0 : Int)).toNat = 0 from rfl] at hx381_0); (try rw [Addr.add_zero'] at hx381_0); replace p381 := eq_true p381; replace q381 := eq_true q381) | ((with_reducible refine gate_callee (f := 20) rfl ?_); refine goesL_ (some 22) rfl rfl Tryd.func20 (by kernel_rfl) rfl #[.string (rdOf ByteArray.empty t378 0)] rfl (by (try simp only [List.map_toArray, List.map_cons, List.map_nil]); first | done | rfl | (simp only [List.length_drop, List.length_take]; rfl)) ?_; (with_reducible refine (impl_ReadDecimal.calls (rdOf ByteArray.empty t378 0) t382 true _ A5.out (HEnvR.out.below (by repeat (first | (with_reducible first | exact HB.out | apply below_alloc | apply pw_below_drewN | apply below_drew1) | exact HB.out)))).mono ?_); rintro e w19 ⟨rfl, hb⟩; refine ⟨_, rfl, ?_⟩; have n0_ := Aside0.mk (Kd.R_below (by (with_reducible repeat (first | apply Kd.R_alloc | apply Kd.R_drewN | apply Kd.R_drew)); exact HO380.out) hb); have n1_ := Aside0.mk (below_step (by repeat (first | (with_reducible first | exact HB.out | apply below_alloc | apply pw_below_drewN | apply below_drew1) | exact HB.out)) hb); clear HO380; clear HB; have HO380 := n0_; have HB := n1_; clear n0_ n1_; (try clear hb); (try clear hb2); (try clear hk); (try clear hi); have p384 : 0 ≤ (1 : Int) := (by omega); have q384 : 1 < (t378.length : Int) := of_decide_eq_true (by first | (with_reducible assumption) | assumption); obtain ⟨ad384, e384, hx384_0⟩ := Kd.at_string (Kd.R_reads' HO380.out).2.2 1 p384 q384; obtain rfl : ad381 = ad384 := (by injection e384); (try simp only [show (1 : Int).toNat = 1 from rfl, Nat.reduceMul, Nat.reduceEqDiff, Go.Addr.add, ↓reduceIte] at hx384_0); have qi384 : (1 < t378.length) = True := eq_true (by omega); (try rw [show ((1 : Int)).toNat = 1 from rfl] at hx384_0); replace p384 := eq_true p384; replace q384 := eq_true q384) | ((with_reducible refine gate_callee (f := 20) rfl ?_); refine goesL_ (some 29) rfl rfl Tryd.func20 (by kernel_rfl) rfl #[.string (rdOf ByteArray.empty t378 1)] rfl (by (try simp only [List.map_toArray, List.map_cons, List.map_nil]); first | done | rfl | (simp only [List.length_drop, List.length_take]; rfl)) ?_; (with_reducible refine (impl_ReadDecimal.calls (rdOf ByteArray.empty t378 1) t385 false _ A7.out (HEnvR.out.below (by repeat (first | (with_reducible first | exact HB.out | apply below_alloc | apply pw_below_drewN | apply below_drew1) | exact HB.out)))).mono ?_); rintro e w20 ⟨rfl, hb⟩; refine ⟨_, rfl, ?_⟩; have n0_ := Aside0.mk (Kd.R_below (by (with_reducible repeat (first | apply Kd.R_alloc | apply Kd.R_drewN | apply Kd.R_drew)); exact HO380.out) hb); have n1_ := Aside0.mk (below_step (by repeat (first | (with_reducible first | exact HB.out | apply below_alloc | apply pw_below_drewN | apply below_drew1) | exact HB.out)) hb); clear HO380; clear HB; have HO380 := n0_; have HB := n1_; clear n0_ n1_; (try clear hb); (try clear hb2); (try clear hk); (try clear hi); have p387 : 0 ≤ (2 : Int) := (by omega); have q387 : 2 < (t378.length : Int) := of_decide_eq_true (by first | (with_reducible assumption) | assumption); obtain ⟨ad387, e387, hx387_0⟩ := Kd.at_string (Kd.R_reads' HO380.out).2.2 2 p387 q387; obtain rfl : ad381 = ad387 := (by injection e387); (try simp only [show (2 : Int).toNat = 2 from rfl, Nat.reduceMul, Nat.reduceEqDiff, Go.Addr.add, ↓reduceIte] at hx387_0); have qi387 : (2 < t378.length) = True := eq_true (by omega); (try rw [show ((2 : Int)).toNat = 2 from rfl] at hx387_0); replace p387 := eq_true p387; replace q387 := eq_true q387) | ((with_reducible refine gate_callee (f := 20) rfl ?_); refine goesL_ (some 36) rfl rfl Tryd.func20 (by kernel_rfl) rfl #[.string (rdOf ByteArray.empty t378 2)] rfl (by (try simp only [List.map_toArray, List.map_cons, List.map_nil]); first | done | rfl | (simp only [List.length_drop, List.length_take]; rfl)) ?_; (with_reducible refine (impl_ReadDecimal.calls (rdOf ByteArray.empty t378 2) t388 t389 _ A9.out (HEnvR.out.below (by repeat (first | (with_reducible first | exact HB.out | apply below_alloc | apply pw_below_drewN | apply below_drew1) | exact HB.out)))).mono ?_); rintro e w21 ⟨rfl, hb⟩; refine ⟨_, rfl, ?_⟩; have n0_ := Aside0.mk (Kd.R_below (by (with_reducible repeat (first | apply Kd.R_alloc | apply Kd.R_drewN | apply Kd.R_drew)); exact HO380.out) hb); have n1_ := Aside0.mk (below_step (by repeat (first | (with_reducible first | exact HB.out | apply below_alloc | apply pw_below_drewN | apply below_drew1) | exact HB.out)) hb); clear HO380; clear HB; have HO380 := n0_; have HB := n1_; clear n0_ n1_; (try clear hb); (try clear hb2); (try clear hk); (try clear hi)))
       refine bodyPost_ret (results_list (rs := [.tmp 2, .tmp 3, .tmp 4, .tmp 5]) rfl (by simp) (.tmp (.tmp (.tmp (.tmp .nil))))) rfl ?_
       exact ⟨by first | rfl | (simp [errW_none, errW_some] <;> rfl) | (simp [*, errW_none, errW_some] <;> rfl), by repeat (first | (with_reducible first | exact HB.out | apply below_alloc | apply pw_below_drewN | apply below_drew1) | exact HB.out)⟩
     ·replace c10 := Bool.eq_false_iff.mpr c10
      subst c10
      have H1 : (some (t382, t385, t388, false)) = some (r1, r2, r3, r4) := by rw [if_neg (show ¬ (false = true) by decide)] at H; exact H
      clear H
      have H := H1
      clear H1
      simp only [Option.some.injEq, Prod.mk.injEq] at H
      obtain ⟨rfl, rfl, rfl, rfl⟩ := H
      go_enter Tryd.func21, Tryd.ntmps21
      go_wp2_with (first | ((with_reducible refine gate_callee (f := 19) rfl ?_); refine goesL_ (some 14) rfl rfl Tryd.func19 (by kernel_rfl) rfl #[.string a0, .string (⟨#[46]⟩ : ByteArray)] rfl (by (try simp only [List.map_toArray, List.map_cons, List.map_nil]); first | done | rfl | (simp only [List.length_drop, List.length_take]; rfl)) ?_; (with_reducible refine (strings_Split.calls a0 (⟨#[46]⟩ : ByteArray) t378 _ A2.out).mono ?_); rintro e w22 ⟨v379, rfl, ho0, hb⟩; refine ⟨_, rfl, ?_⟩; have n0_ := Aside0.mk (Kd.R_lower ho0 (below_size (by repeat (first | (with_reducible first | exact HB.out | apply below_alloc | apply pw_below_drewN | apply below_drew1) | exact HB.out)))); have n1_ := Aside0.mk (below_step (by repeat (first | (with_reducible first | exact HB.out | apply below_alloc | apply pw_below_drewN | apply below_drew1) | exact HB.out)) hb); clear HB; have HO380 := n0_; have HB := n1_; clear n0_ n1_; (try clear hb); (try clear hb2); (try clear hk); (try clear hi); (try clear ho0); obtain ⟨Ao23, co23, eo23⟩ := Kd.R_slice HO380.out; subst eo23; have p381 : 0 ≤ (0 : Int) := (by omega); have q381 : 0 < (t378.length : Int) := of_decide_eq_true (by first | (with_reducible assumption) | assumption); obtain ⟨ad381, e381, hx381_0⟩ := Kd.at_string (Kd.R_reads' HO380.out).2.2 0 p381 q381; cases e381; have qi381 : (0 < t378.length) = True := eq_true (by omega); (try rw [show ((0 : Int)).toNat = 0 from rfl] at hx381_0); (try rw [Addr.add_zero'] at hx381_0); replace p381 := eq_true p381; replace q381 := eq_true q381) | ((with_reducible refine gate_callee (f := 20) rfl ?_); refine goesL_ (some 22) rfl rfl Tryd.func20 (by kernel_rfl) rfl #[.string (rdOf ByteArray.empty t378 0)] rfl (by (try simp only [List.map_toArray, List.map_cons, List.map_nil]); first | done | rfl | (simp only [List.length_drop, List.length_take]; rfl)) ?_; (with_reducible refine (impl_ReadDecimal.calls (rdOf ByteArray.empty t378 0) t382 false _ A5.out (HEnvR.out.below (by repeat (first | (with_reducible first | exact HB.out | apply below_alloc | apply pw_below_drewN | apply below_drew1) | exact HB.out)))).mono ?_); rintro e w24 ⟨rfl, hb⟩; refine ⟨_, rfl, ?_⟩; have n0_ := Aside0.mk (Kd.R_below (by (with_reducible repeat (first | apply Kd.R_alloc | apply Kd.R_drewN | apply Kd.R_drew)); exact HO380.out) hb); have n1_ := Aside0.mk (below_step (by repeat (first | (with_reducible first | exact HB.out | apply below_alloc | apply pw_below_drewN | apply below_drew1) | exact HB.out)) hb); clear HO380; clear HB; have HO380 := n0_; have HB := n1_; clear n0_ n1_; (try clear hb); (try clear hb2); (try clear hk); (try clear hi); have p384 : 0 ≤ (1 : Int) := (by omega); have q384 : 1 < (t378.length : Int) := of_decide_eq_true (by first | (with_reducible assumption) | assumption); obtain ⟨ad384, e384, hx384_0⟩ := Kd.at_string (Kd.R_reads' HO380.out).2.2 1 p384 q384; obtain rfl : ad381 = ad384 := (by injection e384); (try simp only [show (1 : Int).toNat = 1 from rfl, Nat.reduceMul, Nat.reduceEqDiff, Go.Addr.add, ↓reduceIte] at hx384_0); have qi384 : (1 < t378.length) = True := eq_true (by omega); (try rw [show ((1 : Int)).toNat = 1 from rfl] at hx384_0); replace p384 := eq_true p384; replace q384 := eq_true q384) | ((with_reducible refine gate_callee (f := 20) rfl ?_); refine goesL_ (some 29) rfl rfl Tryd.func20 (by kernel_rfl) rfl #[.string (rdOf ByteArray.empty t378 1)] rfl (by (try simp only [List.map_toArray, List.map_cons, List.map_nil]); first | done | rfl | (simp only [List.length_drop, List.length_take]; rfl)) ?_; (with_reducible refine (impl_ReadDecimal.calls (rdOf ByteArray.empty t378 1) t385 t386 _ A7.out (HEnvR.out.below (by repeat (first | (with_reducible first | exact HB.out | apply below_alloc | apply pw_below_drewN | apply below_drew1) | exact HB.out)))).mono ?_); rintro e w25 ⟨rfl, hb⟩; refine ⟨_, rfl, ?_⟩; have n0_ := Aside0.mk (Kd.R_below (by (with_reducible repeat (first | apply Kd.R_alloc | apply Kd.R_drewN | apply Kd.R_drew)); exact HO380.out) hb); have n1_ := Aside0.mk (below_step (by repeat (first | (with_reducible first | exact HB.out | apply below_alloc | apply pw_below_drewN | apply below_drew1) | exact HB.out)) hb); clear HO380; clear HB; have HO380 := n0_; have HB := n1_; clear n0_ n1_; (try clear hb); (try clear hb2); (try clear hk); (try clear hi); have p387 : 0 ≤ (2 : Int) := (by omega); have q387 : 2 < (t378.length : Int) := of_decide_eq_true (by first | (with_reducible assumption) | assumption); obtain ⟨ad387, e387, hx387_0⟩ := Kd.at_string (Kd.R_reads' HO380.out).2.2 2 p387 q387; obtain rfl : ad381 = ad387 := (by injection e387); (try simp only [show (2 : Int).toNat = 2 from rfl, Nat.reduceMul, Nat.reduceEqDiff, Go.Addr.add, ↓reduceIte] at hx387_0); have qi387 : (2 < t378.length) = True := eq_true (by omega); (try rw [show ((2 : Int)).toNat = 2 from rfl] at hx387_0); replace p387 := eq_true p387; replace q387 := eq_true q387) | ((with_reducible refine gate_callee (f := 20) rfl ?_); refine goesL_ (some 36) rfl rfl Tryd.func20 (by kernel_rfl) rfl #[.string (rdOf ByteArray.empty t378 2)] rfl (by (try simp only [List.map_toArray, List.map_cons, List.map_nil]); first | done | rfl | (simp only [List.length_drop, List.length_take]; rfl)) ?_; (with_reducible refine (impl_ReadDecimal.calls (rdOf ByteArray.empty t378 2) t388 t389 _ A9.out (HEnvR.out.below (by repeat (first | (with_reducible first | exact HB.out | apply below_alloc | apply pw_below_drewN | apply below_drew1) | exact HB.out)))).mono ?_); rintro e w26 ⟨rfl, hb⟩; refine ⟨_, rfl, ?_⟩; have n0_ := Aside0.mk (Kd.R_below (by (with_reducible repeat (first | apply Kd.R_alloc | apply Kd.R_drewN | apply Kd.R_drew)); exact HO380.out) hb); have n1_ := Aside0.mk (below_step (by repeat (first | (with_reducible first | exact HB.out | apply below_alloc | apply pw_below_drewN | apply below_drew1) | exact HB.out)) hb); clear HO380; clear HB; have HO380 := n0_; have HB := n1_; clear n0_ n1_; (try clear hb); (try clear hb2); (try clear hk); (try clear hi)))
      refine bodyPost_ret (results_list (rs := [.tmp 2, .tmp 3, .tmp 4, .tmp 5]) rfl (by simp) (.tmp (.tmp (.tmp (.tmp .nil))))) rfl ?_
      exact ⟨by first | rfl | (simp [errW_none, errW_some] <;> rfl) | (simp [*, errW_none, errW_some] <;> rfl), by repeat (first | (with_reducible first | exact HB.out | apply below_alloc | apply pw_below_drewN | apply below_drew1) | exact HB.out)⟩
    ·rw [if_neg c8] at H
     exact absurd H (by simp)
   ·rw [if_neg c6] at H
    exact absurd H (by simp)
  ·rw [if_neg c4] at H
   exact absurd H (by simp)
 ·rw [if_neg c3] at H
  have c3b0 : ((t378.length : Int) == 3) = false := beq_eq_false_iff_ne.mpr c3
  have c3b1 : ((t378.length : Int) != 3) = true := bne_iff_ne.mpr c3
  simp only [Option.some.injEq, Prod.mk.injEq] at H
  obtain ⟨rfl, rfl, rfl, rfl⟩ := H
  go_enter Tryd.func21, Tryd.ntmps21
  go_wp2_with (first | ((with_reducible refine gate_callee (f := 19) rfl ?_); refine goesL_ (some 14) rfl rfl Tryd.func19 (by kernel_rfl) rfl #[.string a0, .string (⟨#[46]⟩ : ByteArray)] rfl (by (try simp only [List.map_toArray, List.map_cons, List.map_nil]); first | done | rfl | (simp only [List.length_drop, List.length_take]; rfl)) ?_; (with_reducible refine (strings_Split.calls a0 (⟨#[46]⟩ : ByteArray) t378 _ A2.out).mono ?_); rintro e w27 ⟨v379, rfl, ho0, hb⟩; refine ⟨_, rfl, ?_⟩; have n0_ := Aside0.mk (Kd.R_lower ho0 (below_size (by repeat (first | (with_reducible first | exact HB.out | apply below_alloc | apply pw_below_drewN | apply below_drew1) | exact HB.out)))); have n1_ := Aside0.mk (below_step (by repeat (first | (with_reducible first | exact HB.out | apply below_alloc | apply pw_below_drewN | apply below_drew1) | exact HB.out)) hb); clear HB; have HO380 := n0_; have HB := n1_; clear n0_ n1_; (try clear hb); (try clear hb2); (try clear hk); (try clear hi); (try clear ho0); obtain ⟨Ao28, co28, eo28⟩ := Kd.R_slice HO380.out; subst eo28))
  refine bodyPost_ret (results_list (rs := [.tmp 2, .tmp 3, .tmp 4, .tmp 5]) rfl (by simp) (.tmp (.tmp (.tmp (.tmp .nil))))) rfl ?_
  exact ⟨by first | rfl | (simp [errW_none, errW_some] <;> rfl) | (simp [*, errW_none, errW_some] <;> rfl), by repeat (first | (with_reducible first | exact HB.out | apply below_alloc | apply pw_below_drewN | apply below_drew1) | exact HB.out)⟩
end Go.Proofs.YtalkmhnlgfncmaaDoor.X
end
section
namespace Go.Proofs.YtalkmhnlgfncmaaDoor.X
open Go.RowKit Go.Proofs.YtalkmhnlgfncmaaDoorW.PrintWords Go.Proofs.YtalkmhnlgfncmaaDoorW.PrintLast Go.Proofs.YtalkmhnlgfncmaaDoorW.PrintMore
set_option linter.unusedVariables false
set_option linter.unusedSimpArgs false
def dgl (n : Nat) : List UInt8 := if n < 10 then [UInt8.ofNat (48 + n)] else if n < 100 then [UInt8.ofNat (48 + n / 10), UInt8.ofNat (48 + n % 10)] else [49, 48, 48]
theorem itoa_dgl (d : Int) (h : In100 d) : ∃ n : Nat, d = n ∧ n ≤ 100 ∧ Lib.itoa d = dgl n := by
  obtain ⟨h0, h1⟩ := h
  obtain ⟨n, rfl⟩ := Int.eq_ofNat_of_zero_le h0
  refine ⟨n, rfl, by omega, ?_⟩
  rw [Lib.itoa_nonneg]
  unfold dgl
  by_cases h : n < 10
  · rw [if_pos h, Lib.decDigits_one h]
  · by_cases h2 : n < 100
    · rw [if_neg h, if_pos h2, Lib.decDigits_two h h2]
    · obtain rfl : n = 100 := by omega
      rw [dig_big]; rfl
theorem dgl_chars : ((List.range 101).all fun n => (dgl n).all fun b => decide (48 ≤ b.toNat) && decide (b.toNat ≤ 57)) = true := by kernel_rfl
theorem bytes_same {a b : ByteArray} (h : a.data.toList = b.data.toList) : a = b := by rw [← Tx_back a, ← Tx_back b, h]
def isOk : Lib.NumEnd Int → Nat → Bool
  | .ok v, n => decide (v = (n : Int))
  | _, _ => false
theorem dgl_parse : ((List.range 101).all fun n => isOk (Lib.parseIntB 64 (dgl n)) n) = true := by kernel_rfl
theorem itoa_char (d : Int) (h : In100 d) (b : UInt8) (hb : b ∈ Lib.itoa d) : 48 ≤ b.toNat ∧ b.toNat ≤ 57 := by
  obtain ⟨n, rfl, hn, e⟩ := itoa_dgl d h
  rw [e] at hb
  have := List.all_eq_true.mp (List.all_eq_true.mp dgl_chars n (by simp; omega)) b hb
  simpa using this
theorem itoa_not (d : Int) (h : In100 d) (c : UInt8) (hc : c.toNat < 48) : c ∉ Lib.itoa d := fun hb => by
  have := itoa_char d h c hb
  omega
theorem itoa_parse (d : Int) (h : In100 d) : Lib.parseIntB 64 (Lib.itoa d) = .ok d := by
  obtain ⟨n, rfl, hn, e⟩ := itoa_dgl d h
  rw [e]
  have := List.all_eq_true.mp dgl_parse n (by simp; omega)
  cases hp : Lib.parseIntB 64 (dgl n) with
  | ok v => rw [hp] at this; rw [show v = (n : Int) from of_decide_eq_true this]
  | _ => rw [hp] at this; cases this
theorem dtx_list (d : Int) : (dtx d).data.toList = Lib.itoa d := Tx_list _
noncomputable def rdW (s : ByteArray) : Int × Bool :=
  match Lib.parseIntB 64 s.data.toList with
  | .ok v => open Classical in if dtx v = s ∧ -1000000000000000 ≤ v ∧ v ≤ 1000000000000000 then (v, true) else (0, false)
  | _ => (0, false)
theorem rdW_eq (s : ByteArray) (hs : s.size ≤ 2000000) : impl_ReadDecimal.f s = some (rdW s) := by
  unfold impl_ReadDecimal.f impl_readWide.f rdW
  rw [if_pos ⟨hs, by omega, by omega⟩]
  cases hp : Lib.parseIntB 64 s.data.toList with
  | ok v =>
    have hb := Lib.parseIntB_bounds hp
    have hd : impl_Decimal.f v = some (dtx v) := by
      unfold impl_Decimal.f
      rw [if_pos ⟨by have := hb.1; simp at this; omega, by have := hb.2; simp at this; omega⟩]; rfl
    simp only [hd, Option.bind_some, within_eq]
    have e1 : ((dtx v).toList = s.toList) = (dtx v = s) := by
      apply propext
      constructor
      · intro h
        rw [ByteArray.toList_eq, ByteArray.toList_eq] at h
        exact bytes_same h
      · rintro h; rw [h]
    by_cases hc : dtx v = s ∧ -1000000000000000 ≤ v ∧ v ≤ 1000000000000000
    · simp [e1, hc.1, hc.2.1, hc.2.2]
    · by_cases h1 : dtx v = s
      · have h2 : ¬ (-1000000000000000 ≤ v ∧ v ≤ 1000000000000000) := fun h => hc ⟨h1, h⟩
        simp [e1, h1, h2]
      · simp [e1, h1]
  | _ => rfl
theorem rdW_sound (s : ByteArray) (h : (rdW s).2 = true) : dtx (rdW s).1 = s := by
  unfold rdW at h ⊢
  cases hp : Lib.parseIntB 64 s.data.toList with
  | ok v =>
    rw [hp] at h
    simp only at h ⊢
    by_cases hc : dtx v = s ∧ -1000000000000000 ≤ v ∧ v ≤ 1000000000000000
    · rw [if_pos hc]; exact hc.1
    · rw [if_neg hc] at h; cases h
  | _ => rw [hp] at h; cases h
theorem rdW_dtx (d : Int) (h : In100 d) : rdW (dtx d) = (d, true) := by
  unfold rdW
  rw [dtx_list, itoa_parse d h]
  simp only
  rw [if_pos ⟨trivial, by have := h.1; omega, by have := h.2; omega⟩]
noncomputable def rdT (s : ByteArray) : Int × Int × Int × Bool :=
  if (sps 46 s).length = 3 then ((rdW ((sps 46 s).getD 0 ByteArray.empty)).1, (rdW ((sps 46 s).getD 1 ByteArray.empty)).1, (rdW ((sps 46 s).getD 2 ByteArray.empty)).1,
    (rdW ((sps 46 s).getD 0 ByteArray.empty)).2 && (rdW ((sps 46 s).getD 1 ByteArray.empty)).2 && (rdW ((sps 46 s).getD 2 ByteArray.empty)).2) else (0, 0, 0, false)
theorem getD_le (c : UInt8) (s : ByteArray) (i : Nat) : ((sps c s).getD i ByteArray.empty).size ≤ s.size := by
  rw [List.getD_eq_getElem?_getD]
  by_cases h : i < (sps c s).length
  · rw [List.getElem?_eq_getElem h]
    exact sps_le c s _ (List.getElem_mem h)
  · rw [List.getElem?_eq_none (by omega)]
    exact Nat.zero_le _
theorem rdT_eq (s : ByteArray) (hs : s.size ≤ 2000000) : impl_threeNumbers.f s = some (rdT s) := by
  unfold impl_threeNumbers.f rdT
  rw [split_eq s 46 hs, Option.bind_some]
  have g0 := getD_le 46 s 0
  have g1 := getD_le 46 s 1
  have g2 := getD_le 46 s 2
  have r0 : rdOf ByteArray.empty (sps 46 s) 0 = (sps 46 s).getD 0 ByteArray.empty := rfl
  have r1 : rdOf ByteArray.empty (sps 46 s) 1 = (sps 46 s).getD 1 ByteArray.empty := rfl
  have r2 : rdOf ByteArray.empty (sps 46 s) 2 = (sps 46 s).getD 2 ByteArray.empty := rfl
  by_cases h : (sps 46 s).length = 3
  · rw [if_pos (by omega), if_pos (by omega), if_pos h, r0, r1, r2, rdW_eq _ (by omega), rdW_eq _ (by omega), rdW_eq _ (by omega)]
    simp only [Option.bind_some]
    rw [if_pos (by omega), if_pos (by omega)]
    cases (rdW ((sps 46 s).getD 0 ByteArray.empty)).2 <;> cases (rdW ((sps 46 s).getD 1 ByteArray.empty)).2 <;> simp
  · rw [if_neg (by omega), if_neg h]
theorem wtx_list (w : S43) : (wtx w).data.toList = Lib.join [Lib.itoa w.f0, Lib.itoa w.f1, Lib.itoa w.f2] [46] := by
  rw [join_two, join_two, Lib.join_one]
  have e : wtx w = Tx (Lib.itoa w.f0 ++ 46 :: (Lib.itoa w.f1 ++ 46 :: Lib.itoa w.f2)) := by
    unfold wtx dtx
    show (((Tx _ ++ Tx [46]) ++ Tx _) ++ Tx [46]) ++ Tx _ = _
    rw [Tx_app, Tx_app, Tx_app, Tx_app]
    simp only [List.append_assoc, List.cons_append, List.nil_append]
  rw [e, Tx_list]
def W100 (w : S43) : Prop := In100 w.f0 ∧ In100 w.f1 ∧ In100 w.f2
theorem sps_wtx (w : S43) (h : W100 w) : sps 46 (wtx w) = [dtx w.f0, dtx w.f1, dtx w.f2] := by
  unfold sps
  rw [wtx_list, sp_join 46 _ _ (by
    intro y hy
    rcases List.mem_cons.mp hy with rfl | hy
    · exact itoa_not _ h.1 46 (by decide)
    rcases List.mem_cons.mp hy with rfl | hy
    · exact itoa_not _ h.2.1 46 (by decide)
    rw [List.mem_singleton] at hy
    rw [hy]; exact itoa_not _ h.2.2 46 (by decide))]
  rfl
theorem rdT_wtx (w : S43) (h : W100 w) : rdT (wtx w) = (w.f0, w.f1, w.f2, true) := by
  unfold rdT
  rw [sps_wtx w h, if_pos (by rfl)]
  show ((rdW (dtx w.f0)).1, (rdW (dtx w.f1)).1, (rdW (dtx w.f2)).1, (rdW (dtx w.f0)).2 && (rdW (dtx w.f1)).2 && (rdW (dtx w.f2)).2) = _
  rw [rdW_dtx _ h.1, rdW_dtx _ h.2.1, rdW_dtx _ h.2.2]; rfl
theorem three_of {α : Type} (l : List α) (h : l.length = 3) : ∃ a b c, l = [a, b, c] := by
  match l, h with
  | [a, b, c], _ => exact ⟨a, b, c, rfl⟩
theorem rdT_sound (s : ByteArray) (h : (rdT s).2.2.2 = true) : wtx ⟨(rdT s).1, (rdT s).2.1, (rdT s).2.2.1⟩ = s := by
  unfold rdT at h ⊢
  by_cases hl : (sps 46 s).length = 3
  · rw [if_pos hl] at h ⊢
    obtain ⟨a, b, c, e⟩ := three_of _ hl
    rw [e] at h ⊢
    have g0 : [a, b, c].getD 0 ByteArray.empty = a := rfl
    have g1 : [a, b, c].getD 1 ByteArray.empty = b := rfl
    have g2 : [a, b, c].getD 2 ByteArray.empty = c := rfl
    rw [g0, g1, g2] at h ⊢
    simp only [Bool.and_eq_true] at h
    have e0 := rdW_sound a h.1.1
    have e1 := rdW_sound b h.1.2
    have e2 := rdW_sound c h.2
    apply bytes_same
    rw [wtx_list]
    show Lib.join [Lib.itoa (rdW a).1, Lib.itoa (rdW b).1, Lib.itoa (rdW c).1] [46] = _
    rw [← dtx_list, ← dtx_list, ← dtx_list, e0, e1, e2]
    have := join_sp 46 s.data.toList
    unfold sps at e
    obtain ⟨x, y, z, ez⟩ := three_of (sp 46 s.data.toList) (by rw [← List.length_map (f := Tx), e]; rfl)
    rw [ez] at e this
    simp only [List.map_cons, List.map_nil, List.cons.injEq, and_true] at e
    obtain ⟨q0, q1, q2⟩ := e
    rw [← q0, ← q1, ← q2, Tx_list, Tx_list, Tx_list]
    exact this
  · rw [if_neg hl] at h; cases h
end Go.Proofs.YtalkmhnlgfncmaaDoor.X
end
section
namespace Go.Proofs.YtalkmhnlgfncmaaDoor.X
open Go.RowKit Go.Proofs.YtalkmhnlgfncmaaDoorW.PrintWords Go.Proofs.YtalkmhnlgfncmaaDoorW.PrintLast Go.Proofs.YtalkmhnlgfncmaaDoorW.PrintMore
set_option linter.unusedVariables false
set_option linter.unusedSimpArgs false
theorem dec_l1 (x : List Int) (hx : x.length ≤ 1000) : ∀ (i k : Nat) (y : List Int), i ≤ x.length → y.length + i ≤ 2000 → i < k → ∃ r, spec_l01Dec.l1 k x y ((i : Int) - 1) = some r
  | 0, k, y, hi, hy, hk => by
    obtain ⟨k, rfl⟩ : ∃ q, k = q + 1 := ⟨k - 1, by omega⟩
    rw [spec_l01Dec.l1, if_neg (by omega)]; exact ⟨_, rfl⟩
  | i + 1, k, y, hi, hy, hk => by
    obtain ⟨k, rfl⟩ : ∃ q, k = q + 1 := ⟨k - 1, by omega⟩
    obtain ⟨r, hr⟩ := dec_l1 x hx i k (y ++ [rd x (((i + 1 : Nat) : Int) - 1)]) (by omega) (by rw [List.length_append, List.length_singleton]; omega) (by omega)
    refine ⟨r, ?_⟩
    rw [spec_l01Dec.l1, if_pos (by omega), if_pos (by omega), if_pos (by omega), if_pos (by omega), w64 (by omega) (by omega), ← hr]
    congr 1; omega
theorem tdiv_ten (x : Int) (M : Nat) (h : x.natAbs < 10 * M) : (Int.tdiv x 10).natAbs < M := by
  rw [Int.natAbs_tdiv]
  show x.natAbs / 10 < M
  omega
theorem dec_l0 (x : Int) : ∀ (j k : Nat) (y : List Int) (v : Int), v.natAbs < 10 ^ j → j ≤ 19 → y.length + j ≤ 50 → 100 ≤ k - j → j ≤ k → ∃ r, spec_l01Dec.l0 k x y v = some r
  | j, k, y, v, hv, hj, hy, hk, hjk => by
    obtain ⟨k, rfl⟩ : ∃ q, k = q + 1 := ⟨k - 1, by omega⟩
    by_cases h0 : v = 0
    · obtain ⟨k, rfl⟩ : ∃ q, k = q + 1 := ⟨k - 1, by omega⟩
      have fin : ∀ z : List Int, z.length ≤ 60 → ∃ r, spec_l01Dec.j1 (k + 1) z = some r := fun z hz => by
        rw [spec_l01Dec.j1, w64 (by omega) (by omega)]
        exact dec_l1 z (by omega) z.length k [] (Nat.le_refl _) (by simp; omega) (by omega)
      rw [spec_l01Dec.l0, if_pos h0]
      by_cases hx : x < 0
      · rw [if_pos hx, if_pos (by omega)]
        exact fin _ (by rw [List.length_append, List.length_singleton]; omega)
      · rw [if_neg hx]
        exact fin _ (by omega)
    · cases j with
      | zero => rw [Nat.pow_zero] at hv; omega
      | succ j =>
        have hp : (10 : Nat) ^ (j + 1) = 10 * 10 ^ j := by rw [Nat.pow_succ, Nat.mul_comm]
        have h1 := tdiv_ten v (10 ^ j) (by omega)
        have h2 : (10 : Nat) ^ j ≤ 10 ^ 18 := Nat.pow_le_pow_right (by omega) (by omega)
        have e : wrap64 (Int.tdiv v 10) = Int.tdiv v 10 := w64 (by omega) (by omega)
        have g : ∀ q : Int, ∃ r, spec_l01Dec.l0 k x (y ++ [q]) (Int.tdiv v 10) = some r := fun q =>
          dec_l0 x j k (y ++ [q]) (Int.tdiv v 10) h1 (by omega) (by rw [List.length_append, List.length_singleton]; omega) (by omega) (by omega)
        by_cases ht : Int.tmod v 10 < 0
        · rw [spec_l01Dec.l0, if_neg h0, if_pos ht, if_pos (by omega), e]; exact g _
        · rw [spec_l01Dec.l0, if_neg h0, if_neg ht, if_pos (by omega), e]; exact g _
theorem dec_all (v : Int) (h0 : -1000000000000000000 ≤ v) (h1 : v ≤ 1000000000000000000) (k : Nat) (hk : 200 ≤ k) : ∃ r, spec_l01Dec.f k v = some r := by
  unfold spec_l01Dec.f
  by_cases h : v = 0
  · rw [if_pos h]; exact ⟨_, rfl⟩
  · rw [if_neg h]
    exact dec_l0 v 19 k [] v (by have : (10 : Nat) ^ 19 = 10000000000000000000 := by decide
                                 omega) (by omega) (by simp) (by omega) (by omega)
theorem great_l0 (x0 x : ByteArray) (hx : x.size ≤ 19) : ∀ (d i k : Nat) (v : Int), i + d = x.size → d + 300 ≤ k → ∃ r, spec_l01Great.l0 k x0 x v (i : Int) = some r
  | 0, i, k, v, hi, hk => by
    obtain ⟨k, rfl⟩ : ∃ q, k = q + 1 := ⟨k - 1, by omega⟩
    rw [spec_l01Great.l0, if_neg (by omega)]
    have fin : ∀ u : Int, ∃ r, ((spec_l00In.f u (-1000000000000000000) 1000000000000000000).bind fun t307 => (if t307 = true then ((spec_l01Dec.f k u).bind fun t308 => (some (u, (t308.toList == x0.toList)))) else (some (u, false)))) = some r := fun u => by
      rw [l00In_eq, Option.bind_some]
      by_cases hu : -1000000000000000000 ≤ u ∧ u ≤ 1000000000000000000
      · obtain ⟨r, hr⟩ := dec_all u hu.1 hu.2 k (by omega)
        rw [if_pos (by simpa using hu), hr]; exact ⟨_, rfl⟩
      · rw [if_neg (by simpa using hu)]; exact ⟨_, rfl⟩
    by_cases hs : (x.size : Int) < (x0.size : Int)
    · rw [if_pos hs]; exact fin _
    · rw [if_neg hs]; exact fin _
  | d + 1, i, k, v, hi, hk => by
    obtain ⟨k, rfl⟩ : ∃ q, k = q + 1 := ⟨k - 1, by omega⟩
    rw [spec_l01Great.l0, if_pos (by omega), if_pos (by omega)]
    split
    · exact ⟨_, rfl⟩
    split
    · exact ⟨_, rfl⟩
    split
    · exact ⟨_, rfl⟩
    rw [w64 (n := (i : Int) + 1) (by omega) (by omega)]
    have := great_l0 x0 x hx d (i + 1) k (wrap64 ((wrap64 (10 * v)) + (((bt x (i : Int)) - 48) % 256))) (by omega) (by omega)
    rw [Int.natCast_add, Int.natCast_one] at this
    exact this
theorem great_j1 (x0 x : ByteArray) (hs : x.size ≤ 2000000) (k : Nat) (hk : 400 ≤ k) : ∃ r, spec_l01Great.j1 k x0 x = some r := by
  obtain ⟨k, rfl⟩ : ∃ q, k = q + 2 := ⟨k - 2, by omega⟩
  rw [spec_l01Great.j1]
  by_cases h : (x.size : Int) < 1
  · rw [if_pos h, spec_l01Great.j2, if_pos rfl]; exact ⟨_, rfl⟩
  · rw [if_neg h, spec_l01Great.j2]
    by_cases h2 : (x.size : Int) > 19
    · rw [if_pos (by simpa using h2)]; exact ⟨_, rfl⟩
    · rw [if_neg (by simpa using h2)]
      exact great_l0 x0 x (by omega) x.size 0 k 0 (by omega) (by omega)
theorem great_all (x : ByteArray) (hs : x.size ≤ 2000000) (k : Nat) (hk : 500 ≤ k) : ∃ r, spec_l01Great.f k x = some r := by
  obtain ⟨k, rfl⟩ : ∃ q, k = q + 1 := ⟨k - 1, by omega⟩
  have j0 : ∀ b : Bool, (b = true → 1 ≤ x.size) → ∃ r, spec_l01Great.j0 (k + 1) x x b = some r := fun b hb => by
    rw [spec_l01Great.j0]
    cases b with
    | true =>
      rw [if_pos rfl, if_pos (by have := hb rfl; omega)]
      exact great_j1 x _ (by rw [ByteArray.size_extract]; omega) k (by omega)
    | false =>
      rw [if_neg (by decide)]
      exact great_j1 x x hs k (by omega)
  unfold spec_l01Great.f
  by_cases h : (x.size : Int) > 0
  · rw [if_pos h, if_pos (by omega)]; exact j0 _ (fun _ => by omega)
  · rw [if_neg h]; exact j0 _ (fun e => by cases e)
theorem num_all (x : ByteArray) (hs : x.size ≤ 2000000) (k : Nat) (hk : 500 ≤ k) : ∃ r, spec_l04Number.f k x = some r := by
  obtain ⟨r, hr⟩ := great_all x hs k hk
  unfold spec_l04Number.f spec_l01Value.f
  rw [hr, Option.bind_some]
  by_cases h : r.2 = true
  · rw [if_pos h, l00In_eq, Option.bind_some]
    split
    · exact ⟨_, rfl⟩
    · exact ⟨_, rfl⟩
  · rw [if_neg h]; exact ⟨_, rfl⟩
def sn (s : ByteArray) : Int := (spec_l04Number.f 500 s).getD 0
theorem num_mono (x : ByteArray) (r : Int) (m n : Nat) (h : spec_l04Number.f m x = some r) : spec_l04Number.f (m + n) x = some r := by
  induction n with
  | zero => exact h
  | succ n ih => exact spec_l04Number.mono x _ _ ih
theorem sn_eq (x : ByteArray) (hs : x.size ≤ 2000000) (k : Nat) (hk : 500 ≤ k) : spec_l04Number.f k x = some (sn x) := by
  obtain ⟨r, hr⟩ := num_all x hs 500 (Nat.le_refl _)
  have e : sn x = r := by unfold sn; rw [hr]; rfl
  rw [e]
  have := num_mono x r 500 (k - 500) hr
  rwa [show 500 + (k - 500) = k by omega] at this
end Go.Proofs.YtalkmhnlgfncmaaDoor.X
end
