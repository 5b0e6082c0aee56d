/- My own texts of this seat and its words, merged: XSFew, Xp8, XOpenRow, CFewest. Conditions: as each lemma says. -/
import Derived.Test.YtojpibpjieanhaaK21
import Derived.Test.YtojpibpjieanhaaK27
import Derived.Test.YtojpibpjieanhaaK24
import Derived.Test.YtojpibpjieanhaaK26
import Derived.Deep.Slices
import Derived.Deep.Fields
import Derived.ChangeSame
import Derived.ChangeSlices
import Derived.Test.YtojpibpjieanhaaK25
section
/- The reference's FewestBetween. Conditions: none. -/
namespace Go.Proofs.Ytojpibpjieanhaa.X
open Go.RowKit Go.Proofs.YtojpibpjieanhaaW.PrintWords Go.Proofs.YtojpibpjieanhaaW.PrintLast Go.Proofs.YtojpibpjieanhaaW.PrintMore
set_option linter.unusedVariables false
set_option linter.unusedSimpArgs false
set_option maxHeartbeats 4000000 in
set_option maxRecDepth 100000 in
theorem sFew_1 (k : Nat) (A0 : Option Addr) (c0 : Nat) (l0 : List Int) (A1 : Option Addr) (c1 : Nat) (l1 : List S55) (a1 a2 : Int) (F S : List Int) (w : World) (hr0 : Kd.C (Kd.int .i64) w A0 l0.length l0) (hr1 : Kd.C k55 w A1 l1.length l1) (h1 : spec_l08Vertex.f k l0 l1 a1 = some false) :
    Calls Try.prog 31 #[.agg #[.slice A0 l0.length c0, .slice A1 l1.length c1], .int .i64 a1, .int .i64 a2] w fun e w' => e = .returned (.tuple #[.int .i64 0, .int .i64 0, .bool false]) ∧ Below w.heap.size w w' := by
  have Hhr0 := Aside0.mk hr0
  have Hhr1 := Aside0.mk hr1
  have Hh1 := Aside0.mk h1
  clear hr0 hr1 h1
  have HB := Aside0.mk (Below.refl w.heap.size w)
  go_enter Try.func31, Try.ntmps31
  go_wp2_with (first
    | ((with_reducible refine gate_dst (N := 3) rfl ?_); refine box_event ?hg (N := 3) ?hd (cs := #[.slice A0 l0.length c0, .slice A1 l1.length c1]) (t := 36) ?hr ?_; (case hd => rfl); (case hg => rfl); (case hr => first | (go_simp; done) | (go_simp; rfl)); intro g1 hg wn hbox hb; have GE1 := Aside0.mk (by rw [hg]; exact below_size HB.out : w.heap.size ≤ g1); clear hg; have HI : Aside0 (IsS36 w wn g1 l0 l1) := ⟨⟨_, _, _, _, hbox, GE1.out, Hhr0.out, Hhr1.out⟩⟩; clear hbox; have n0_ := Aside0.mk (below_step HB.out hb); clear HB hb; have HB := n0_; clear n0_)
    | (go_at_call 60; (with_reducible refine (spec_l08Vertex.calls k g1 l0 l1 a1 false w _ HI.out HB.out Hh1.out).mono ?_); rintro e wn ⟨rfl, hi, hb, hk⟩; clear HI HB hk; have HI := Aside0.mk hi; have HB := Aside0.mk hb; clear hi hb))
  go_ret3
  exact ⟨rfl, HB.out⟩
set_option maxHeartbeats 4000000 in
set_option maxRecDepth 100000 in
theorem sFew_2 (k : Nat) (A0 : Option Addr) (c0 : Nat) (l0 : List Int) (A1 : Option Addr) (c1 : Nat) (l1 : List S55) (a1 a2 : Int) (F S : List Int) (w : World) (hr0 : Kd.C (Kd.int .i64) w A0 l0.length l0) (hr1 : Kd.C k55 w A1 l1.length l1) (h1 : spec_l08Vertex.f k l0 l1 a1 = some true) (h2 : spec_l08Vertex.f k l0 l1 a2 = some false) :
    Calls Try.prog 31 #[.agg #[.slice A0 l0.length c0, .slice A1 l1.length c1], .int .i64 a1, .int .i64 a2] w fun e w' => e = .returned (.tuple #[.int .i64 0, .int .i64 0, .bool false]) ∧ Below w.heap.size w w' := by
  have Hhr0 := Aside0.mk hr0
  have Hhr1 := Aside0.mk hr1
  have Hh1 := Aside0.mk h1
  have Hh2 := Aside0.mk h2
  clear hr0 hr1 h1 h2
  have HB := Aside0.mk (Below.refl w.heap.size w)
  go_enter Try.func31, Try.ntmps31
  go_wp2_with (first
    | ((with_reducible refine gate_dst (N := 3) rfl ?_); refine box_event ?hg (N := 3) ?hd (cs := #[.slice A0 l0.length c0, .slice A1 l1.length c1]) (t := 36) ?hr ?_; (case hd => rfl); (case hg => rfl); (case hr => first | (go_simp; done) | (go_simp; rfl)); intro g1 hg wn hbox hb; have GE1 := Aside0.mk (by rw [hg]; exact below_size HB.out : w.heap.size ≤ g1); clear hg; have HI : Aside0 (IsS36 w wn g1 l0 l1) := ⟨⟨_, _, _, _, hbox, GE1.out, Hhr0.out, Hhr1.out⟩⟩; clear hbox; have n0_ := Aside0.mk (below_step HB.out hb); clear HB hb; have HB := n0_; clear n0_)
    | (go_at_call 60; (with_reducible refine (spec_l08Vertex.calls k g1 l0 l1 a1 true w _ HI.out HB.out Hh1.out).mono ?_); rintro e wn ⟨rfl, hi, hb, hk⟩; clear HI HB hk; have HI := Aside0.mk hi; have HB := Aside0.mk hb; clear hi hb)
    | (go_at_call 60; (with_reducible refine (spec_l08Vertex.calls k g1 l0 l1 a2 false w _ HI.out HB.out Hh2.out).mono ?_); rintro e wn ⟨rfl, hi, hb, hk⟩; clear HI HB hk; have HI := Aside0.mk hi; have HB := Aside0.mk hb; clear hi hb))
  go_ret3
  exact ⟨rfl, HB.out⟩
set_option maxHeartbeats 4000000 in
set_option maxRecDepth 100000 in
theorem sFew_3 (k : Nat) (A0 : Option Addr) (c0 : Nat) (l0 : List Int) (A1 : Option Addr) (c1 : Nat) (l1 : List S55) (a1 a2 : Int) (F S : List Int) (w : World) (hr0 : Kd.C (Kd.int .i64) w A0 l0.length l0) (hr1 : Kd.C k55 w A1 l1.length l1) (h1 : spec_l08Vertex.f k l0 l1 a1 = some true) (h2 : spec_l08Vertex.f k l0 l1 a2 = some true) (h3 : spec_l08Far.f k l0 l1 a1 = some (F, S)) (q0 : 0 ≤ a2) (q1 : a2 < F.length) (q2 : a2 < S.length) (h4 : rd F a2 < 0) :
    Calls Try.prog 31 #[.agg #[.slice A0 l0.length c0, .slice A1 l1.length c1], .int .i64 a1, .int .i64 a2] w fun e w' => e = .returned (.tuple #[.int .i64 0, .int .i64 0, .bool false]) ∧ Below w.heap.size w w' := by
  have Hhr0 := Aside0.mk hr0
  have Hhr1 := Aside0.mk hr1
  have Hh1 := Aside0.mk h1
  have Hh2 := Aside0.mk h2
  have Hh3 := Aside0.mk h3
  have Hq0 := Aside0.mk q0
  have Hq1 := Aside0.mk q1
  have Hq2 := Aside0.mk q2
  have Hh4 := Aside0.mk h4
  clear hr0 hr1 h1 h2 h3 q0 q1 q2 h4
  have p0 : (0 ≤ a2) = True := eq_true Hq0.out
  have p1 : (a2 < (F.length : Int)) = True := eq_true Hq1.out
  have p2 : (a2 < (S.length : Int)) = True := eq_true Hq2.out
  have m4 : decide (rd F a2 < 0) = true := decide_eq_true Hh4.out
  have HB := Aside0.mk (Below.refl w.heap.size w)
  go_enter Try.func31, Try.ntmps31
  go_wp2_with (first
    | ((with_reducible refine gate_dst (N := 3) rfl ?_); refine box_event ?hg (N := 3) ?hd (cs := #[.slice A0 l0.length c0, .slice A1 l1.length c1]) (t := 36) ?hr ?_; (case hd => rfl); (case hg => rfl); (case hr => first | (go_simp; done) | (go_simp; rfl)); intro g1 hg wn hbox hb; have GE1 := Aside0.mk (by rw [hg]; exact below_size HB.out : w.heap.size ≤ g1); clear hg; have HI : Aside0 (IsS36 w wn g1 l0 l1) := ⟨⟨_, _, _, _, hbox, GE1.out, Hhr0.out, Hhr1.out⟩⟩; clear hbox; have n0_ := Aside0.mk (below_step HB.out hb); clear HB hb; have HB := n0_; clear n0_)
    | (go_at_call 60; (with_reducible refine (spec_l08Vertex.calls k g1 l0 l1 a1 true w _ HI.out HB.out Hh1.out).mono ?_); rintro e wn ⟨rfl, hi, hb, hk⟩; clear HI HB hk; have HI := Aside0.mk hi; have HB := Aside0.mk hb; clear hi hb)
    | (go_at_call 60; (with_reducible refine (spec_l08Vertex.calls k g1 l0 l1 a2 true w _ HI.out HB.out Hh2.out).mono ?_); rintro e wn ⟨rfl, hi, hb, hk⟩; clear HI HB hk; have HI := Aside0.mk hi; have HB := Aside0.mk hb; clear hi hb)
    | (go_at_call 61; (with_reducible refine (spec_l08Far.calls k g1 l0 l1 a1 F S w _ HI.out HB.out Hh3.out).mono ?_); rintro e w2 ⟨v0, v1, rfl, ho0, ho1, hi, hb, hk⟩; obtain ⟨Af, cf, ef⟩ := Kd.R_slice ho0; subst ef; obtain ⟨As, cs, es⟩ := Kd.R_slice ho1; subst es; have hC0 := (Kd.R_reads' ho0).2.2; have hC1 := (Kd.R_reads' ho1).2.2; obtain ⟨fa, hfa, f0⟩ := Kd.at_int hC0 a2 Hq0.out Hq1.out; obtain ⟨sa, hsa, s0⟩ := Kd.at_int hC1 a2 Hq0.out Hq2.out; cases hfa; cases hsa; clear ho0 ho1 hi hk hC0 hC1 HB HI; have HB := Aside0.mk hb; clear hb))
  go_ret3
  exact ⟨rfl, HB.out⟩
set_option maxHeartbeats 4000000 in
set_option maxRecDepth 100000 in
theorem sFew_4 (k : Nat) (A0 : Option Addr) (c0 : Nat) (l0 : List Int) (A1 : Option Addr) (c1 : Nat) (l1 : List S55) (a1 a2 : Int) (F S : List Int) (w : World) (hr0 : Kd.C (Kd.int .i64) w A0 l0.length l0) (hr1 : Kd.C k55 w A1 l1.length l1) (h1 : spec_l08Vertex.f k l0 l1 a1 = some true) (h2 : spec_l08Vertex.f k l0 l1 a2 = some true) (h3 : spec_l08Far.f k l0 l1 a1 = some (F, S)) (q0 : 0 ≤ a2) (q1 : a2 < F.length) (q2 : a2 < S.length) (h4 : ¬ rd F a2 < 0) :
    Calls Try.prog 31 #[.agg #[.slice A0 l0.length c0, .slice A1 l1.length c1], .int .i64 a1, .int .i64 a2] w fun e w' => e = .returned (.tuple #[.int .i64 (rd F a2), .int .i64 (rd S a2), .bool true]) ∧ Below w.heap.size w w' := by
  have Hhr0 := Aside0.mk hr0
  have Hhr1 := Aside0.mk hr1
  have Hh1 := Aside0.mk h1
  have Hh2 := Aside0.mk h2
  have Hh3 := Aside0.mk h3
  have Hq0 := Aside0.mk q0
  have Hq1 := Aside0.mk q1
  have Hq2 := Aside0.mk q2
  have Hh4 := Aside0.mk h4
  clear hr0 hr1 h1 h2 h3 q0 q1 q2 h4
  have p0 : (0 ≤ a2) = True := eq_true Hq0.out
  have p1 : (a2 < (F.length : Int)) = True := eq_true Hq1.out
  have p2 : (a2 < (S.length : Int)) = True := eq_true Hq2.out
  have m4 : decide (rd F a2 < 0) = false := decide_eq_false Hh4.out
  have HB := Aside0.mk (Below.refl w.heap.size w)
  go_enter Try.func31, Try.ntmps31
  go_wp2_with (first
    | ((with_reducible refine gate_dst (N := 3) rfl ?_); refine box_event ?hg (N := 3) ?hd (cs := #[.slice A0 l0.length c0, .slice A1 l1.length c1]) (t := 36) ?hr ?_; (case hd => rfl); (case hg => rfl); (case hr => first | (go_simp; done) | (go_simp; rfl)); intro g1 hg wn hbox hb; have GE1 := Aside0.mk (by rw [hg]; exact below_size HB.out : w.heap.size ≤ g1); clear hg; have HI : Aside0 (IsS36 w wn g1 l0 l1) := ⟨⟨_, _, _, _, hbox, GE1.out, Hhr0.out, Hhr1.out⟩⟩; clear hbox; have n0_ := Aside0.mk (below_step HB.out hb); clear HB hb; have HB := n0_; clear n0_)
    | (go_at_call 60; (with_reducible refine (spec_l08Vertex.calls k g1 l0 l1 a1 true w _ HI.out HB.out Hh1.out).mono ?_); rintro e wn ⟨rfl, hi, hb, hk⟩; clear HI HB hk; have HI := Aside0.mk hi; have HB := Aside0.mk hb; clear hi hb)
    | (go_at_call 60; (with_reducible refine (spec_l08Vertex.calls k g1 l0 l1 a2 true w _ HI.out HB.out Hh2.out).mono ?_); rintro e wn ⟨rfl, hi, hb, hk⟩; clear HI HB hk; have HI := Aside0.mk hi; have HB := Aside0.mk hb; clear hi hb)
    | (go_at_call 61; (with_reducible refine (spec_l08Far.calls k g1 l0 l1 a1 F S w _ HI.out HB.out Hh3.out).mono ?_); rintro e w2 ⟨v0, v1, rfl, ho0, ho1, hi, hb, hk⟩; obtain ⟨Af, cf, ef⟩ := Kd.R_slice ho0; subst ef; obtain ⟨As, cs, es⟩ := Kd.R_slice ho1; subst es; have hC0 := (Kd.R_reads' ho0).2.2; have hC1 := (Kd.R_reads' ho1).2.2; obtain ⟨fa, hfa, f0⟩ := Kd.at_int hC0 a2 Hq0.out Hq1.out; obtain ⟨sa, hsa, s0⟩ := Kd.at_int hC1 a2 Hq0.out Hq2.out; cases hfa; cases hsa; clear ho0 ho1 hi hk hC0 hC1 HB HI; have HB := Aside0.mk hb; clear hb))
  go_quiet (fail)
  try go_wp2
  go_ret3
  exact ⟨rfl, by first | exact HB.out | exact pw_below_drewN HB.out _ | exact below_drew1 HB.out⟩
def spec_FewestBetween.f (k : Nat) (l0 : List Int) (l1 : List S55) (a1 a2 : Int) : Option (Int × Int × Bool) :=
  (spec_l08Vertex.f k l0 l1 a1).bind fun b1 => if b1 = true then (spec_l08Vertex.f k l0 l1 a2).bind fun b2 => if b2 = true then (spec_l08Far.f k l0 l1 a1).bind fun p => (if 0 ≤ a2 ∧ a2 < p.1.length ∧ a2 < p.2.length then (if rd p.1 a2 < 0 then some (0, 0, false) else some (rd p.1 a2, rd p.2 a2, true)) else none) else some (0, 0, false) else some (0, 0, false)
theorem spec_FewestBetween.calls (k : Nat) (A0_0 : Option Addr) (c0_0 : Nat) (l0_0 : List Int) (A0_1 : Option Addr) (c0_1 : Nat) (l0_1 : List (S55)) (a1 a2 : Int) (r1 : Int) (r2 : Int) (r3 : Bool) (w : World) (hr0_0 : Kd.C (Kd.int .i64) w A0_0 l0_0.length l0_0) (hc0_0 : l0_0.length ≤ c0_0) (hr0_1 : Kd.C k55 w A0_1 l0_1.length l0_1) (hc0_1 : l0_1.length ≤ c0_1) (h : spec_FewestBetween.f k l0_0 l0_1 a1 a2 = some (r1, r2, r3)) :
    Calls Try.prog 31 #[.agg #[.slice A0_0 l0_0.length c0_0, .slice A0_1 l0_1.length c0_1], .int .i64 a1, .int .i64 a2] w fun e w' => e = .returned (.tuple #[.int .i64 r1, .int .i64 r2, .bool r3]) ∧ Below w.heap.size w w' := by
  unfold spec_FewestBetween.f at h
  obtain ⟨b1, h1, h⟩ := Option.bind_eq_some_iff.mp h
  cases b1 with
  | false =>
    rw [if_neg (by simp)] at h
    simp only [Option.some.injEq, Prod.mk.injEq] at h
    obtain ⟨rfl, rfl, rfl⟩ := h
    exact sFew_1 k A0_0 c0_0 l0_0 A0_1 c0_1 l0_1 a1 a2 [] [] w hr0_0 hr0_1 h1
  | true =>
    rw [if_pos rfl] at h
    obtain ⟨b2, h2, h⟩ := Option.bind_eq_some_iff.mp h
    cases b2 with
    | false =>
      rw [if_neg (by simp)] at h
      simp only [Option.some.injEq, Prod.mk.injEq] at h
      obtain ⟨rfl, rfl, rfl⟩ := h
      exact sFew_2 k A0_0 c0_0 l0_0 A0_1 c0_1 l0_1 a1 a2 [] [] w hr0_0 hr0_1 h1 h2
    | true =>
      rw [if_pos rfl] at h
      obtain ⟨⟨F, S⟩, h3, h⟩ := Option.bind_eq_some_iff.mp h
      simp only at h
      by_cases hc : 0 ≤ a2 ∧ a2 < F.length ∧ a2 < S.length
      · rw [if_pos hc] at h
        by_cases h4 : rd F a2 < 0
        · rw [if_pos h4] at h
          simp only [Option.some.injEq, Prod.mk.injEq] at h
          obtain ⟨rfl, rfl, rfl⟩ := h
          exact sFew_3 k A0_0 c0_0 l0_0 A0_1 c0_1 l0_1 a1 a2 F S w hr0_0 hr0_1 h1 h2 h3 hc.1 hc.2.1 hc.2.2 h4
        · rw [if_neg h4] at h
          simp only [Option.some.injEq, Prod.mk.injEq] at h
          obtain ⟨rfl, rfl, rfl⟩ := h
          exact sFew_4 k A0_0 c0_0 l0_0 A0_1 c0_1 l0_1 a1 a2 F S w hr0_0 hr0_1 h1 h2 h3 hc.1 hc.2.1 hc.2.2 h4
      · rw [if_neg hc] at h; cases h
end Go.Proofs.Ytojpibpjieanhaa.X
end
section
-- Written by a program of this session out of the kit's print of the loaded functions: a plain function of a Go function, and its contract.
namespace Go.Proofs.Ytojpibpjieanhaa.X
open Go.RowKit Go.Proofs.YtojpibpjieanhaaW.PrintWords Go.Proofs.YtojpibpjieanhaaW.PrintLast Go.Proofs.YtojpibpjieanhaaW.PrintMore
attribute [local go_sem] max2_int min2_int max_two min_two max_three min_three max_four min_four   -- for this text's walks alone
set_option linter.unusedVariables false
set_option linter.unusedSimpArgs false
/-! ### laws_FnExactFewestBetween: function 8 -/
def laws_FnExactFewestBetween.j0 : Nat → Bool → List Int → List (S96) → List Int → List (S55) → Option (Bool)
  | 0, _, _, _, _, _ => none
  | k + 1, x51, x497000, x497001, x514000, x514001 => if x51 = true then (some false) else ((laws_toFlow.f k x497000 x497001).bind fun bt517 => ((laws_eqFlow.f k x514000 x514001 bt517.1 bt517.2).bind fun t523 => (if t523 = true then (some true) else (some false))))
def laws_FnExactFewestBetween.f (k : Nat) (l0_0 : List Int) (l0_1 : List (S96)) (a1 : Int) (a2 : Int) : Option (Bool) := (laws_szFlow.f l0_0 l0_1 1048576).bind fun t497 => (if t497 < 0 then (some true) else ((laws_toFlow.f k l0_0 l0_1).bind fun bt498 => ((spec_FewestBetween.f k bt498.1 bt498.2 a1 a2).bind fun bt504 => ((laws_toFlow.f k l0_0 l0_1).bind fun bt507 => ((impl_FewestBetween.f k bt507.1 bt507.2 a1 a2).bind fun bt514 => (if bt514.1 = bt504.1 then (if bt514.2.1 = bt504.2.1 then (laws_FnExactFewestBetween.j0 k (bt514.2.2 != bt504.2.2) l0_0 l0_1 bt507.1 bt507.2) else (laws_FnExactFewestBetween.j0 k true l0_0 l0_1 bt507.1 bt507.2)) else (laws_FnExactFewestBetween.j0 k true l0_0 l0_1 bt507.1 bt507.2)))))))
set_option maxHeartbeats 8000000 in
set_option maxRecDepth 100000 in
theorem laws_FnExactFewestBetween.calls (k : Nat) (A0_0 : Option Addr) (c0_0 : Nat) (l0_0 : List Int) (A0_1 : Option Addr) (c0_1 : Nat) (l0_1 : List (S96)) (a1 : Int) (a2 : Int) (r : Bool) (w : World) (hr0_0 : Kd.C (Kd.int .i64) w A0_0 l0_0.length l0_0) (hc0_0 : l0_0.length ≤ c0_0) (hr0_1 : Kd.C k96 w A0_1 l0_1.length l0_1) (hc0_1 : l0_1.length ≤ c0_1) (h : laws_FnExactFewestBetween.f k l0_0 l0_1 a1 a2 = some r) :
    Calls Try.prog 8 #[.agg #[.slice A0_0 l0_0.length c0_0, .slice A0_1 l0_1.length c0_1], .int .i64 a1, .int .i64 a2] w fun e w' => e = .returned (.bool r) ∧ Below w.heap.size w w' := by
  have hu31 := Try.underlying31
  have hu36 := Try.underlying36
  have HR0_0 := Aside0.mk hr0_0
  have HC0_0 := Aside0.mk hc0_0
  clear hr0_0 hc0_0
  have HR0_1 := Aside0.mk hr0_1
  have HC0_1 := Aside0.mk hc0_1
  clear hr0_1 hc0_1
  have HB := Aside0.mk (Below.refl w.heap.size w)
  have H : ((laws_szFlow.f l0_0 l0_1 1048576).bind fun t497 => (if t497 < 0 then (some true) else ((laws_toFlow.f k l0_0 l0_1).bind fun bt498 => ((spec_FewestBetween.f k bt498.1 bt498.2 a1 a2).bind fun bt504 => ((laws_toFlow.f k l0_0 l0_1).bind fun bt507 => ((impl_FewestBetween.f k bt507.1 bt507.2 a1 a2).bind fun bt514 => (if bt514.1 = bt504.1 then (if bt514.2.1 = bt504.2.1 then (laws_FnExactFewestBetween.j0 k (bt514.2.2 != bt504.2.2) l0_0 l0_1 bt507.1 bt507.2) else (laws_FnExactFewestBetween.j0 k true l0_0 l0_1 bt507.1 bt507.2)) else (laws_FnExactFewestBetween.j0 k true l0_0 l0_1 bt507.1 bt507.2)))))))) = some r := h
  clear h
  replace H := Option.bind_eq_some_iff.mp H
  obtain ⟨t497, A40, H⟩ := H
  replace H : (if t497 < 0 then (some true) else ((laws_toFlow.f k l0_0 l0_1).bind fun bt498 => ((spec_FewestBetween.f k bt498.1 bt498.2 a1 a2).bind fun bt504 => ((laws_toFlow.f k l0_0 l0_1).bind fun bt507 => ((impl_FewestBetween.f k bt507.1 bt507.2 a1 a2).bind fun bt514 => (if bt514.1 = bt504.1 then (if bt514.2.1 = bt504.2.1 then (laws_FnExactFewestBetween.j0 k (bt514.2.2 != bt504.2.2) l0_0 l0_1 bt507.1 bt507.2) else (laws_FnExactFewestBetween.j0 k true l0_0 l0_1 bt507.1 bt507.2)) else (laws_FnExactFewestBetween.j0 k true l0_0 l0_1 bt507.1 bt507.2))))))) = some r := H
  have A4 := Aside0.mk A40
  clear A40
  by_cases c5 : t497 < 0
  · rw [if_pos c5] at H
    have c5b0 : decide (t497 < 0) = true := decide_eq_true c5
    clear c5
    obtain rfl := Option.some.inj H
    go_enter Try.func8, Try.ntmps8
    go_wp2_with (first | ((with_reducible refine gate_dst (N := 3) rfl ?_); refine box_event ?hg (N := 3) ?hd (cs := #[.slice A0_0 l0_0.length c0_0, .slice A0_1 l0_1.length c0_1]) (t := 31) ?hr ?_; (case hd => rfl); (case hg => rfl); (case hr => first | (go_simp; done) | (go_simp; rfl)); intro gb496 hg w6 hbox hb; have n0_ := Aside0.mk (below_step (by repeat (first | (with_reducible first | exact HB.out | apply below_alloc | apply pw_below_drewN | apply below_drew1) | exact HB.out)) hb); have n1_ := Aside0.mk (hbox); have n2_ := Aside0.mk ((by rw [hg]; exact (below_size (by repeat (first | (with_reducible first | exact HB.out | apply below_alloc | apply pw_below_drewN | apply below_drew1) | exact HB.out))) : w.heap.size ≤ gb496)); have n3_ := Aside0.mk ((by rw [hg]; exact (below_size (by repeat (first | (with_reducible first | exact HB.out | apply below_alloc | apply pw_below_drewN | apply below_drew1) | exact HB.out))) : w.heap.size ≤ gb496)); clear HB; have HB := n0_; have BK496 := n1_; have GW496 := n2_; have GE496 := n3_; clear n0_ n1_ n2_ n3_; clear hb hbox hg; have hcz7_0 : w6.cell? ⟨gb496, 0, none⟩ = some (.slice A0_0 l0_0.length c0_0) := (blk_cell BK496.out 0).trans rfl; have hcz7_1 : w6.cell? ⟨gb496, 1, none⟩ = some (.slice A0_1 l0_1.length c0_1) := (blk_cell BK496.out 1).trans rfl; have hfz7_0 := blk_frozen BK496.out 0; have hfz7_1 := blk_frozen BK496.out 1) | ((with_reducible refine gate_callee (f := 20) rfl ?_); refine goesL_ (some 17) rfl rfl Try.func20 (by kernel_rfl) rfl #[.agg #[.slice A0_0 l0_0.length c0_0, .slice A0_1 l0_1.length c0_1], .int .i64 1048576] rfl (by (try simp only [List.map_toArray, List.map_cons, List.map_nil]); first | done | rfl | (simp only [List.length_drop, List.length_take]; rfl)) ?_; (with_reducible refine (laws_szFlow.calls _ _ l0_0 _ _ l0_1 1048576 t497 _ ?side1 ?side2 ?side3 ?side4 A4.out).mono ?_); (case side1 => repeat (first | exact (Kd.C_below HR0_0.out HB.out) | (with_reducible refine Kd.C_alloc ?_ _) | (with_reducible refine Kd.C_drewN ?_ _) | (with_reducible refine Kd.C_drew ?_))); (case side2 => first | exact trivial | (exact HC0_0.out)); (case side3 => repeat (first | exact (Kd.C_below HR0_1.out HB.out) | (with_reducible refine Kd.C_alloc ?_ _) | (with_reducible refine Kd.C_drewN ?_ _) | (with_reducible refine Kd.C_drew ?_))); (case side4 => first | exact trivial | (exact HC0_1.out)); rintro e w8 ⟨rfl, hb⟩; refine ⟨_, rfl, ?_⟩; have n0_ := Aside0.mk (blk_below (g := gb496) (o := .cells #[.slice A0_0 l0_0.length c0_0, .slice A0_1 l0_1.length c0_1] 31 (0, 0)) (by (with_reducible repeat (first | refine blk_drewN ?_ _ | refine blk_drew ?_ | refine blk_alloc ?_ _)); exact BK496.out) hb); have n1_ := Aside0.mk (below_step (by repeat (first | (with_reducible first | exact HB.out | apply below_alloc | apply pw_below_drewN | apply below_drew1 | refine below_set ?_ GE496.out) | exact HB.out)) hb); clear BK496; clear HB; have BK496 := n0_; have HB := n1_; clear n0_ n1_; (try clear hb); (try clear hb2); (try clear hk); (try clear hi)))
    go_ret
    exact ⟨by first | rfl | (simp [errW_none, errW_some] <;> rfl) | (simp [*, errW_none, errW_some] <;> rfl), by repeat (first | (with_reducible first | exact HB.out | apply below_alloc | apply pw_below_drewN | apply below_drew1 | refine below_set ?_ GE496.out) | exact HB.out)⟩
  · rw [if_neg c5] at H
    have c5b0 : decide (t497 < 0) = false := decide_eq_false c5
    clear c5
    replace H := Option.bind_eq_some_iff.mp H
    obtain ⟨⟨t498, t501⟩, A90, H⟩ := H
    replace H : ((spec_FewestBetween.f k t498 t501 a1 a2).bind fun bt504 => ((laws_toFlow.f k l0_0 l0_1).bind fun bt507 => ((impl_FewestBetween.f k bt507.1 bt507.2 a1 a2).bind fun bt514 => (if bt514.1 = bt504.1 then (if bt514.2.1 = bt504.2.1 then (laws_FnExactFewestBetween.j0 k (bt514.2.2 != bt504.2.2) l0_0 l0_1 bt507.1 bt507.2) else (laws_FnExactFewestBetween.j0 k true l0_0 l0_1 bt507.1 bt507.2)) else (laws_FnExactFewestBetween.j0 k true l0_0 l0_1 bt507.1 bt507.2))))) = some r := H
    have A9 := Aside0.mk A90
    clear A90
    replace H := Option.bind_eq_some_iff.mp H
    obtain ⟨⟨t504, t505, t506⟩, A100, H⟩ := H
    replace H : ((laws_toFlow.f k l0_0 l0_1).bind fun bt507 => ((impl_FewestBetween.f k bt507.1 bt507.2 a1 a2).bind fun bt514 => (if bt514.1 = t504 then (if bt514.2.1 = t505 then (laws_FnExactFewestBetween.j0 k (bt514.2.2 != t506) l0_0 l0_1 bt507.1 bt507.2) else (laws_FnExactFewestBetween.j0 k true l0_0 l0_1 bt507.1 bt507.2)) else (laws_FnExactFewestBetween.j0 k true l0_0 l0_1 bt507.1 bt507.2)))) = some r := H
    have A10 := Aside0.mk A100
    clear A100
    replace H := Option.bind_eq_some_iff.mp H
    obtain ⟨⟨t507, t510⟩, A110, H⟩ := H
    replace H : ((impl_FewestBetween.f k t507 t510 a1 a2).bind fun bt514 => (if bt514.1 = t504 then (if bt514.2.1 = t505 then (laws_FnExactFewestBetween.j0 k (bt514.2.2 != t506) l0_0 l0_1 t507 t510) else (laws_FnExactFewestBetween.j0 k true l0_0 l0_1 t507 t510)) else (laws_FnExactFewestBetween.j0 k true l0_0 l0_1 t507 t510))) = some r := H
    have A11 := Aside0.mk A110
    clear A110
    replace H := Option.bind_eq_some_iff.mp H
    obtain ⟨⟨t514, t515, t516⟩, A120, H⟩ := H
    replace H : (if t514 = t504 then (if t515 = t505 then (laws_FnExactFewestBetween.j0 k (t516 != t506) l0_0 l0_1 t507 t510) else (laws_FnExactFewestBetween.j0 k true l0_0 l0_1 t507 t510)) else (laws_FnExactFewestBetween.j0 k true l0_0 l0_1 t507 t510)) = some r := H
    have A12 := Aside0.mk A120
    clear A120
    have HC13 := Aside0.mk H
    clear H
    go_enter Try.func8, Try.ntmps8
    go_upto_region 8 with (first | ((with_reducible refine gate_dst (N := 3) rfl ?_); refine box_event ?hg (N := 3) ?hd (cs := #[.slice A0_0 l0_0.length c0_0, .slice A0_1 l0_1.length c0_1]) (t := 31) ?hr ?_; (case hd => rfl); (case hg => rfl); (case hr => first | (go_simp; done) | (go_simp; rfl)); intro gb496 hg w14 hbox hb; have n0_ := Aside0.mk (below_step (by repeat (first | (with_reducible first | exact HB.out | apply below_alloc | apply pw_below_drewN | apply below_drew1) | exact HB.out)) hb); have n1_ := Aside0.mk (hbox); have n2_ := Aside0.mk ((by rw [hg]; exact (below_size (by repeat (first | (with_reducible first | exact HB.out | apply below_alloc | apply pw_below_drewN | apply below_drew1) | exact HB.out))) : w.heap.size ≤ gb496)); have n3_ := Aside0.mk ((by rw [hg]; exact (below_size (by repeat (first | (with_reducible first | exact HB.out | apply below_alloc | apply pw_below_drewN | apply below_drew1) | exact HB.out))) : w.heap.size ≤ gb496)); clear HB; have HB := n0_; have BK496 := n1_; have GW496 := n2_; have GE496 := n3_; clear n0_ n1_ n2_ n3_; clear hb hbox hg; have hcz15_0 : w14.cell? ⟨gb496, 0, none⟩ = some (.slice A0_0 l0_0.length c0_0) := (blk_cell BK496.out 0).trans rfl; have hcz15_1 : w14.cell? ⟨gb496, 1, none⟩ = some (.slice A0_1 l0_1.length c0_1) := (blk_cell BK496.out 1).trans rfl; have hfz15_0 := blk_frozen BK496.out 0; have hfz15_1 := blk_frozen BK496.out 1) | ((with_reducible refine gate_callee (f := 20) rfl ?_); refine goesL_ (some 17) rfl rfl Try.func20 (by kernel_rfl) rfl #[.agg #[.slice A0_0 l0_0.length c0_0, .slice A0_1 l0_1.length c0_1], .int .i64 1048576] rfl (by (try simp only [List.map_toArray, List.map_cons, List.map_nil]); first | done | rfl | (simp only [List.length_drop, List.length_take]; rfl)) ?_; (with_reducible refine (laws_szFlow.calls _ _ l0_0 _ _ l0_1 1048576 t497 _ ?side1 ?side2 ?side3 ?side4 A4.out).mono ?_); (case side1 => repeat (first | exact (Kd.C_below HR0_0.out HB.out) | (with_reducible refine Kd.C_alloc ?_ _) | (with_reducible refine Kd.C_drewN ?_ _) | (with_reducible refine Kd.C_drew ?_))); (case side2 => first | exact trivial | (exact HC0_0.out)); (case side3 => repeat (first | exact (Kd.C_below HR0_1.out HB.out) | (with_reducible refine Kd.C_alloc ?_ _) | (with_reducible refine Kd.C_drewN ?_ _) | (with_reducible refine Kd.C_drew ?_))); (case side4 => first | exact trivial | (exact HC0_1.out)); rintro e w16 ⟨rfl, hb⟩; refine ⟨_, rfl, ?_⟩; have n0_ := Aside0.mk (blk_below (g := gb496) (o := .cells #[.slice A0_0 l0_0.length c0_0, .slice A0_1 l0_1.length c0_1] 31 (0, 0)) (by (with_reducible repeat (first | refine blk_drewN ?_ _ | refine blk_drew ?_ | refine blk_alloc ?_ _)); exact BK496.out) hb); have n1_ := Aside0.mk (below_step (by repeat (first | (with_reducible first | exact HB.out | apply below_alloc | apply pw_below_drewN | apply below_drew1 | refine below_set ?_ GE496.out) | exact HB.out)) hb); clear BK496; clear HB; have BK496 := n0_; have HB := n1_; clear n0_ n1_; (try clear hb); (try clear hb2); (try clear hk); (try clear hi); have hcz17_0 : w16.cell? ⟨gb496, 0, none⟩ = some (.slice A0_0 l0_0.length c0_0) := (blk_cell BK496.out 0).trans rfl; have hcz17_1 : w16.cell? ⟨gb496, 1, none⟩ = some (.slice A0_1 l0_1.length c0_1) := (blk_cell BK496.out 1).trans rfl; have hfz17_0 := blk_frozen BK496.out 0; have hfz17_1 := blk_frozen BK496.out 1) | ((with_reducible refine gate_callee (f := 22) rfl ?_); refine goesL_ (some 22) rfl rfl Try.func22 (by kernel_rfl) rfl #[.agg #[.slice A0_0 l0_0.length c0_0, .slice A0_1 l0_1.length c0_1]] rfl (by (try simp only [List.map_toArray, List.map_cons, List.map_nil]); first | done | rfl | (simp only [List.length_drop, List.length_take]; rfl)) ?_; (with_reducible refine (laws_toFlow.calls k _ _ l0_0 _ _ l0_1 t498 t501 _ ?side1 ?side2 ?side3 ?side4 A9.out).mono ?_); (case side1 => repeat (first | exact (Kd.C_below HR0_0.out HB.out) | (with_reducible refine Kd.C_alloc ?_ _) | (with_reducible refine Kd.C_drewN ?_ _) | (with_reducible refine Kd.C_drew ?_))); (case side2 => first | exact trivial | (exact HC0_0.out)); (case side3 => repeat (first | exact (Kd.C_below HR0_1.out HB.out) | (with_reducible refine Kd.C_alloc ?_ _) | (with_reducible refine Kd.C_drewN ?_ _) | (with_reducible refine Kd.C_drew ?_))); (case side4 => first | exact trivial | (exact HC0_1.out)); rintro e w18 ⟨v499, v502, rfl, ho0, ho1, hb⟩; refine ⟨_, rfl, ?_⟩; have n0_ := Aside0.mk (Kd.R_lower ho0 (below_size (by repeat (first | (with_reducible first | exact HB.out | apply below_alloc | apply pw_below_drewN | apply below_drew1 | refine below_set ?_ GE496.out) | exact HB.out)))); have n1_ := Aside0.mk (Kd.R_lower ho1 (below_size (by repeat (first | (with_reducible first | exact HB.out | apply below_alloc | apply pw_below_drewN | apply below_drew1 | refine below_set ?_ GE496.out) | exact HB.out)))); have n2_ := Aside0.mk (blk_below (g := gb496) (o := .cells #[.slice A0_0 l0_0.length c0_0, .slice A0_1 l0_1.length c0_1] 31 (0, 0)) (by (with_reducible repeat (first | refine blk_drewN ?_ _ | refine blk_drew ?_ | refine blk_alloc ?_ _)); exact BK496.out) hb); have n3_ := Aside0.mk (below_step (by repeat (first | (with_reducible first | exact HB.out | apply below_alloc | apply pw_below_drewN | apply below_drew1 | refine below_set ?_ GE496.out) | exact HB.out)) hb); clear BK496; clear HB; have HO500 := n0_; have HO503 := n1_; have BK496 := n2_; have HB := n3_; clear n0_ n1_ n2_ n3_; (try clear hb); (try clear hb2); (try clear hk); (try clear hi); (try clear ho0); (try clear ho1); obtain ⟨Ao19, co19, eo19⟩ := Kd.R_slice HO500.out; subst eo19; obtain ⟨Ao20, co20, eo20⟩ := Kd.R_slice HO503.out; subst eo20) | ((with_reducible refine gate_callee (f := 31) rfl ?_); refine goesL_ (some 25) rfl rfl Try.func31 (by kernel_rfl) rfl #[.agg #[.slice Ao19 t498.length co19, .slice Ao20 t501.length co20], .int .i64 a1, .int .i64 a2] rfl (by (try simp only [List.map_toArray, List.map_cons, List.map_nil]); first | done | rfl | (simp only [List.length_drop, List.length_take]; rfl)) ?_; (with_reducible refine (spec_FewestBetween.calls k _ _ t498 _ _ t501 a1 a2 t504 t505 t506 _ ?side1 ?side2 ?side3 ?side4 A10.out).mono ?_); (case side1 => repeat (first | exact (Kd.R_reads' HO500.out).2.2 | (with_reducible refine Kd.C_alloc ?_ _) | (with_reducible refine Kd.C_drewN ?_ _) | (with_reducible refine Kd.C_drew ?_))); (case side2 => first | exact trivial | (exact (Kd.R_reads' HO500.out).2.1)); (case side3 => repeat (first | exact (Kd.R_reads' HO503.out).2.2 | (with_reducible refine Kd.C_alloc ?_ _) | (with_reducible refine Kd.C_drewN ?_ _) | (with_reducible refine Kd.C_drew ?_))); (case side4 => first | exact trivial | (exact (Kd.R_reads' HO503.out).2.1)); rintro e w21 ⟨rfl, hb⟩; refine ⟨_, rfl, ?_⟩; have n0_ := Aside0.mk (Kd.R_below (by (with_reducible repeat (first | apply Kd.R_alloc | apply Kd.R_drewN | apply Kd.R_drew)); exact HO500.out) hb); have n1_ := Aside0.mk (Kd.R_below (by (with_reducible repeat (first | apply Kd.R_alloc | apply Kd.R_drewN | apply Kd.R_drew)); exact HO503.out) hb); have n2_ := Aside0.mk (blk_below (g := gb496) (o := .cells #[.slice A0_0 l0_0.length c0_0, .slice A0_1 l0_1.length c0_1] 31 (0, 0)) (by (with_reducible repeat (first | refine blk_drewN ?_ _ | refine blk_drew ?_ | refine blk_alloc ?_ _)); exact BK496.out) hb); have n3_ := Aside0.mk (below_step (by repeat (first | (with_reducible first | exact HB.out | apply below_alloc | apply pw_below_drewN | apply below_drew1 | refine below_set ?_ GE496.out) | exact HB.out)) hb); clear HO500; clear HO503; clear BK496; clear HB; have HO500 := n0_; have HO503 := n1_; have BK496 := n2_; have HB := n3_; clear n0_ n1_ n2_ n3_; (try clear hb); (try clear hb2); (try clear hk); (try clear hi); have hcz22_0 : w21.cell? ⟨gb496, 0, none⟩ = some (.slice A0_0 l0_0.length c0_0) := (blk_cell BK496.out 0).trans rfl; have hcz22_1 : w21.cell? ⟨gb496, 1, none⟩ = some (.slice A0_1 l0_1.length c0_1) := (blk_cell BK496.out 1).trans rfl; have hfz22_0 := blk_frozen BK496.out 0; have hfz22_1 := blk_frozen BK496.out 1) | ((with_reducible refine gate_callee (f := 22) rfl ?_); refine goesL_ (some 30) rfl rfl Try.func22 (by kernel_rfl) rfl #[.agg #[.slice A0_0 l0_0.length c0_0, .slice A0_1 l0_1.length c0_1]] rfl (by (try simp only [List.map_toArray, List.map_cons, List.map_nil]); first | done | rfl | (simp only [List.length_drop, List.length_take]; rfl)) ?_; (with_reducible refine (laws_toFlow.calls k _ _ l0_0 _ _ l0_1 t507 t510 _ ?side1 ?side2 ?side3 ?side4 A11.out).mono ?_); (case side1 => repeat (first | exact (Kd.C_below HR0_0.out HB.out) | (with_reducible refine Kd.C_alloc ?_ _) | (with_reducible refine Kd.C_drewN ?_ _) | (with_reducible refine Kd.C_drew ?_))); (case side2 => first | exact trivial | (exact HC0_0.out)); (case side3 => repeat (first | exact (Kd.C_below HR0_1.out HB.out) | (with_reducible refine Kd.C_alloc ?_ _) | (with_reducible refine Kd.C_drewN ?_ _) | (with_reducible refine Kd.C_drew ?_))); (case side4 => first | exact trivial | (exact HC0_1.out)); rintro e w23 ⟨v508, v511, rfl, ho0, ho1, hb⟩; refine ⟨_, rfl, ?_⟩; have n0_ := Aside0.mk (Kd.R_elder' (by (with_reducible repeat (first | apply Kd.R_alloc | apply Kd.R_drewN | apply Kd.R_drew)); exact HO500.out) (Kd.R_base ho0) hb); have n1_ := Aside0.mk (Kd.R_elder' (by (with_reducible repeat (first | apply Kd.R_alloc | apply Kd.R_drewN | apply Kd.R_drew)); exact HO503.out) (Kd.R_base ho1) hb); have n2_ := Aside0.mk (Kd.R_lower (Kd.R_new' ho0 (Kd.R_lt (by (with_reducible repeat (first | apply Kd.R_alloc | apply Kd.R_drewN | apply Kd.R_drew)); exact HO500.out))) (below_size (by repeat (first | (with_reducible first | exact HB.out | apply below_alloc | apply pw_below_drewN | apply below_drew1 | refine below_set ?_ GE496.out) | exact HB.out)))); have n3_ := Aside0.mk (Kd.R_lower (Kd.R_new' ho1 (Kd.R_lt (by (with_reducible repeat (first | apply Kd.R_alloc | apply Kd.R_drewN | apply Kd.R_drew)); exact HO503.out))) (below_size (by repeat (first | (with_reducible first | exact HB.out | apply below_alloc | apply pw_below_drewN | apply below_drew1 | refine below_set ?_ GE496.out) | exact HB.out)))); have n4_ := Aside0.mk (blk_below (g := gb496) (o := .cells #[.slice A0_0 l0_0.length c0_0, .slice A0_1 l0_1.length c0_1] 31 (0, 0)) (by (with_reducible repeat (first | refine blk_drewN ?_ _ | refine blk_drew ?_ | refine blk_alloc ?_ _)); exact BK496.out) hb); have n5_ := Aside0.mk (below_step (by repeat (first | (with_reducible first | exact HB.out | apply below_alloc | apply pw_below_drewN | apply below_drew1 | refine below_set ?_ GE496.out) | exact HB.out)) hb); clear HO500; clear HO503; clear BK496; clear HB; have HO500 := n0_; have HO503 := n1_; have HO509 := n2_; have HO512 := n3_; have BK496 := n4_; have HB := n5_; clear n0_ n1_ n2_ n3_ n4_ n5_; (try clear hb); (try clear hb2); (try clear hk); (try clear hi); (try clear ho0); (try clear ho1)) | ((with_reducible refine gate_dst (N := 11) rfl ?_); refine box_event ?hg (N := 11) ?hd (cs := #[.slice none 0 0, .slice none 0 0]) (t := 36) ?hr ?_; (case hd => rfl); (case hg => rfl); (case hr => first | (go_simp; done) | (go_simp; rfl)); intro gb513 hg w24 hbox hb; have n0_ := Aside0.mk (Kd.R_below (by (with_reducible repeat (first | apply Kd.R_alloc | apply Kd.R_drewN | apply Kd.R_drew)); exact HO500.out) hb); have n1_ := Aside0.mk (Kd.R_below (by (with_reducible repeat (first | apply Kd.R_alloc | apply Kd.R_drewN | apply Kd.R_drew)); exact HO503.out) hb); have n2_ := Aside0.mk (Kd.R_below (by (with_reducible repeat (first | apply Kd.R_alloc | apply Kd.R_drewN | apply Kd.R_drew)); exact HO509.out) hb); have n3_ := Aside0.mk (Kd.R_below (by (with_reducible repeat (first | apply Kd.R_alloc | apply Kd.R_drewN | apply Kd.R_drew)); exact HO512.out) hb); have n4_ := Aside0.mk (blk_below (g := gb496) (o := .cells #[.slice A0_0 l0_0.length c0_0, .slice A0_1 l0_1.length c0_1] 31 (0, 0)) (by (with_reducible repeat (first | refine blk_drewN ?_ _ | refine blk_drew ?_ | refine blk_alloc ?_ _)); exact BK496.out) hb); have n5_ := Aside0.mk (below_step (by repeat (first | (with_reducible first | exact HB.out | apply below_alloc | apply pw_below_drewN | apply below_drew1 | refine below_set ?_ GE496.out) | exact HB.out)) hb); have n6_ := Aside0.mk (hbox); have n7_ := Aside0.mk ((by rw [hg]; exact (below_size (by repeat (first | (with_reducible first | exact HB.out | apply below_alloc | apply pw_below_drewN | apply below_drew1 | refine below_set ?_ GE496.out) | exact HB.out))) : w.heap.size ≤ gb513)); have n8_ := Aside0.mk ((by rw [hg]; exact (below_size (by repeat (first | (with_reducible first | exact HB.out | apply below_alloc | apply pw_below_drewN | apply below_drew1 | refine below_set ?_ GE496.out) | exact HB.out))) : w.heap.size ≤ gb513)); have n9_ := Aside0.mk ((by rw [hg]; exact Nat.ne_of_lt (blk_lt (g := gb496) (o := .cells #[.slice A0_0 l0_0.length c0_0, .slice A0_1 l0_1.length c0_1] 31 (0, 0)) (by (with_reducible repeat (first | refine blk_drewN ?_ _ | refine blk_drew ?_ | refine blk_alloc ?_ _)); exact BK496.out)) : gb496 ≠ gb513)); have n10_ := Aside0.mk ((by rw [hg]; exact Nat.ne_of_gt (blk_lt (g := gb496) (o := .cells #[.slice A0_0 l0_0.length c0_0, .slice A0_1 l0_1.length c0_1] 31 (0, 0)) (by (with_reducible repeat (first | refine blk_drewN ?_ _ | refine blk_drew ?_ | refine blk_alloc ?_ _)); exact BK496.out)) : gb513 ≠ gb496)); clear HO500; clear HO503; clear HO509; clear HO512; clear BK496; clear HB; have HO500 := n0_; have HO503 := n1_; have HO509 := n2_; have HO512 := n3_; have BK496 := n4_; have HB := n5_; have BK513 := n6_; have GW513 := n7_; have GE513 := n8_; have NB496_513 := n9_; have NB513_496 := n10_; clear n0_ n1_ n2_ n3_ n4_ n5_ n6_ n7_ n8_ n9_ n10_; clear hb hbox hg; obtain ⟨Ao25, co25, eo25⟩ := Kd.R_slice HO509.out; subst eo25; have hnb26 := NB513_496.out; have hnc26 := NB496_513.out; have hcz27_0 : w24.cell? ⟨gb513, 0, none⟩ = some (.slice none 0 0) := (blk_cell BK513.out 0).trans rfl; have hcz27_1 : w24.cell? ⟨gb513, 1, none⟩ = some (.slice none 0 0) := (blk_cell BK513.out 1).trans rfl; have hfz27_0 := blk_frozen BK513.out 0; have hfz27_1 := blk_frozen BK513.out 1; obtain ⟨Ao28, co28, eo28⟩ := Kd.R_slice HO512.out; subst eo28) | ((with_reducible refine gate_callee (f := 32) rfl ?_); refine goesL_ (some 35) rfl rfl Try.func32 (by kernel_rfl) rfl #[.agg #[.slice Ao25 t507.length co25, .slice Ao28 t510.length co28], .int .i64 a1, .int .i64 a2] rfl (by (try simp only [List.map_toArray, List.map_cons, List.map_nil]); first | done | rfl | (simp only [List.length_drop, List.length_take]; rfl)) ?_; (with_reducible refine (impl_FewestBetween.calls k _ _ t507 _ _ t510 a1 a2 t514 t515 t516 _ ?side1 ?side2 ?side3 ?side4 A12.out).mono ?_); (case side1 => refine (Kd.R_reads' (e := 2) (base := w.heap.size) (ok := fun k_ => (True ∧ some k_ ≠ (.slice Ao19 t498.length co19 : Value).ownBlock)) (n := t507.length) (c := co25) ?_).2.2; exact (by (with_reducible repeat (first | apply Kd.R_alloc | apply Kd.R_drewN | apply Kd.R_drew)); exact (Kd.R_mono (Kd.R_far (p := ⟨gb513, 1, none⟩) (Kd.R_far (p := ⟨gb513, 0, none⟩) (Kd.R_types HO509.out BK513.out (by decide)) (fun _ hk => hk.2) (.slice Ao25 t507.length co25)) (fun _ hk => hk.2) (.slice Ao28 t510.length co28)) (fun _ h_ => h_.1)))); (case side2 => first | exact trivial | (exact (Kd.R_reads' HO509.out).2.1)); (case side3 => refine (Kd.R_reads' (e := 55) (base := w.heap.size) (ok := fun k_ => (True ∧ some k_ ≠ (.slice Ao20 t501.length co20 : Value).ownBlock)) (n := t510.length) (c := co28) ?_).2.2; exact (by (with_reducible repeat (first | apply Kd.R_alloc | apply Kd.R_drewN | apply Kd.R_drew)); exact (Kd.R_mono (Kd.R_far (p := ⟨gb513, 1, none⟩) (Kd.R_far (p := ⟨gb513, 0, none⟩) (Kd.R_types HO512.out BK513.out (by decide)) (fun _ hk => hk.2) (.slice Ao25 t507.length co25)) (fun _ hk => hk.2) (.slice Ao28 t510.length co28)) (fun _ h_ => h_.1)))); (case side4 => first | exact trivial | (exact (Kd.R_reads' HO512.out).2.1)); rintro e w29 ⟨rfl, hb⟩; refine ⟨_, rfl, ?_⟩; have n0_ := Aside0.mk (Kd.R_below (by (with_reducible repeat (first | apply Kd.R_alloc | apply Kd.R_drewN | apply Kd.R_drew)); exact (Kd.R_mono (Kd.R_far (p := ⟨gb513, 1, none⟩) (Kd.R_far (p := ⟨gb513, 0, none⟩) (Kd.R_types HO500.out BK513.out (by decide)) (fun _ hk => hk.2) (.slice Ao25 t507.length co25)) (fun _ hk => hk.2) (.slice Ao28 t510.length co28)) (fun _ h_ => h_.1))) hb); have n1_ := Aside0.mk (Kd.R_below (by (with_reducible repeat (first | apply Kd.R_alloc | apply Kd.R_drewN | apply Kd.R_drew)); exact (Kd.R_mono (Kd.R_far (p := ⟨gb513, 1, none⟩) (Kd.R_far (p := ⟨gb513, 0, none⟩) (Kd.R_types HO503.out BK513.out (by decide)) (fun _ hk => hk.2) (.slice Ao25 t507.length co25)) (fun _ hk => hk.2) (.slice Ao28 t510.length co28)) (fun _ h_ => h_.1))) hb); have n2_ := Aside0.mk (Kd.R_below (by (with_reducible repeat (first | apply Kd.R_alloc | apply Kd.R_drewN | apply Kd.R_drew)); exact (Kd.R_mono (Kd.R_far (p := ⟨gb513, 1, none⟩) (Kd.R_far (p := ⟨gb513, 0, none⟩) (Kd.R_types HO509.out BK513.out (by decide)) (fun _ hk => hk.2) (.slice Ao25 t507.length co25)) (fun _ hk => hk.2) (.slice Ao28 t510.length co28)) (fun _ h_ => h_.1))) hb); have n3_ := Aside0.mk (Kd.R_below (by (with_reducible repeat (first | apply Kd.R_alloc | apply Kd.R_drewN | apply Kd.R_drew)); exact (Kd.R_mono (Kd.R_far (p := ⟨gb513, 1, none⟩) (Kd.R_far (p := ⟨gb513, 0, none⟩) (Kd.R_types HO512.out BK513.out (by decide)) (fun _ hk => hk.2) (.slice Ao25 t507.length co25)) (fun _ hk => hk.2) (.slice Ao28 t510.length co28)) (fun _ h_ => h_.1))) hb); have n4_ := Aside0.mk (blk_below (g := gb496) (o := .cells #[.slice A0_0 l0_0.length c0_0, .slice A0_1 l0_1.length c0_1] 31 (0, 0)) (by (with_reducible repeat (first | refine blk_drewN ?_ _ | refine blk_drew ?_ | refine blk_alloc ?_ _)); refine blk_far ?_ NB496_513.out _; (with_reducible repeat (first | refine blk_drewN ?_ _ | refine blk_drew ?_ | refine blk_alloc ?_ _)); refine blk_far ?_ NB496_513.out _; (with_reducible repeat (first | refine blk_drewN ?_ _ | refine blk_drew ?_ | refine blk_alloc ?_ _)); exact BK496.out) hb); have n5_ := Aside0.mk (blk_below (g := gb513) (o := .cells #[.slice Ao25 t507.length co25, .slice Ao28 t510.length co28] 36 (0, 0)) (by (with_reducible repeat (first | refine blk_drewN ?_ _ | refine blk_drew ?_ | refine blk_alloc ?_ _)); refine blk_put (cs := #[.slice Ao25 t507.length co25, .slice none 0 0]) ?_ 1 _ rfl; (with_reducible repeat (first | refine blk_drewN ?_ _ | refine blk_drew ?_ | refine blk_alloc ?_ _)); refine blk_put (cs := #[.slice none 0 0, .slice none 0 0]) ?_ 0 _ rfl; (with_reducible repeat (first | refine blk_drewN ?_ _ | refine blk_drew ?_ | refine blk_alloc ?_ _)); exact BK513.out) hb); have n6_ := Aside0.mk (below_step (by repeat (first | (with_reducible first | exact HB.out | apply below_alloc | apply pw_below_drewN | apply below_drew1 | refine below_set ?_ GE496.out | refine below_set ?_ GE513.out) | exact HB.out)) hb); clear HO500; clear HO503; clear HO509; clear HO512; clear BK496; clear BK513; clear HB; have HO500 := n0_; have HO503 := n1_; have HO509 := n2_; have HO512 := n3_; have BK496 := n4_; have BK513 := n5_; have HB := n6_; clear n0_ n1_ n2_ n3_ n4_ n5_ n6_; (try clear hb); (try clear hb2); (try clear hk); (try clear hi)))
    (try simp only [Act.put, List.setIfInBounds_toArray, List.set_cons_zero, List.set_cons_succ])
    go_cut [51] (fun v51 wc => ∃ (kq : Nat) (x51_12 : Bool), v51 = .bool x51_12 ∧ Aside0 (laws_FnExactFewestBetween.j0 kq x51_12 l0_0 l0_1 t507 t510 = some r) ∧ Aside0 (kq ≤ k) ∧ Aside0 (Kd.R (Kd.int .i64) 2 wc w.heap.size (fun _ => True) (.slice Ao25 t507.length co25) t507) ∧ Aside0 (Kd.R k55 55 wc w.heap.size (fun _ => True) (.slice Ao28 t510.length co28) t510) ∧ Aside0 (wc.heap[gb496]? = some (.cells #[(.slice A0_0 l0_0.length c0_0), (.slice A0_1 l0_1.length c0_1)] 31 (0, 0))) ∧ Aside0 (wc.heap[gb513]? = some (.cells #[(.slice Ao25 t507.length co25), (.slice Ao28 t510.length co28)] 36 (0, 0))) ∧ Aside0 (Below w.heap.size w wc))
    case first =>
      have H := HC13.out
      clear HC13
      by_cases c30 : t514 = t504
      · rw [if_pos c30] at H
        have c30b0 : (t514 == t504) = true := beq_iff_eq.mpr c30
        have c30b1 : (t514 != t504) = false := bne_eq_false_iff_eq.mpr c30
        clear c30
        (first | rw [c30b0] | (simp only [i64_w, i32_w]; rw [c30b0]) | skip)
        by_cases c31 : t515 = t505
        · rw [if_pos c31] at H
          have c31b0 : (t515 == t505) = true := beq_iff_eq.mpr c31
          have c31b1 : (t515 != t505) = false := bne_eq_false_iff_eq.mpr c31
          clear c31
          have H' := Aside0.mk H
          clear H
          go_wp2
          go_meet
          case rel => exact ⟨_, ((t516 != t506)), (by first | rfl | (simp; done) | (simp [*]; done)), H', ⟨by first | omega | exact Nat.le_refl _⟩, ⟨by (with_reducible repeat (first | apply Kd.R_alloc | apply Kd.R_drewN | apply Kd.R_drew)); exact Kd.R_mono HO509.out (fun _ hk => trivial)⟩, ⟨by (with_reducible repeat (first | apply Kd.R_alloc | apply Kd.R_drewN | apply Kd.R_drew)); exact Kd.R_mono HO512.out (fun _ hk => trivial)⟩, ⟨by (with_reducible repeat (first | refine blk_drewN ?_ _ | refine blk_drew ?_ | refine blk_alloc ?_ _)); exact BK496.out⟩, ⟨by (with_reducible repeat (first | refine blk_drewN ?_ _ | refine blk_drew ?_ | refine blk_alloc ?_ _)); exact BK513.out⟩, ⟨by repeat (first | (with_reducible first | exact HB.out | apply below_alloc | apply pw_below_drewN | apply below_drew1 | refine below_set ?_ GE496.out | refine below_set ?_ GE513.out) | exact HB.out)⟩⟩
        · rw [if_neg c31] at H
          have c31b0 : (t515 == t505) = false := beq_eq_false_iff_ne.mpr c31
          have c31b1 : (t515 != t505) = true := bne_iff_ne.mpr c31
          have H' := Aside0.mk H
          clear H
          go_wp2
          go_meet
          case rel => exact ⟨_, (true), (by first | rfl | (simp; done) | (simp [*]; done)), H', ⟨by first | omega | exact Nat.le_refl _⟩, ⟨by (with_reducible repeat (first | apply Kd.R_alloc | apply Kd.R_drewN | apply Kd.R_drew)); exact Kd.R_mono HO509.out (fun _ hk => trivial)⟩, ⟨by (with_reducible repeat (first | apply Kd.R_alloc | apply Kd.R_drewN | apply Kd.R_drew)); exact Kd.R_mono HO512.out (fun _ hk => trivial)⟩, ⟨by (with_reducible repeat (first | refine blk_drewN ?_ _ | refine blk_drew ?_ | refine blk_alloc ?_ _)); exact BK496.out⟩, ⟨by (with_reducible repeat (first | refine blk_drewN ?_ _ | refine blk_drew ?_ | refine blk_alloc ?_ _)); exact BK513.out⟩, ⟨by repeat (first | (with_reducible first | exact HB.out | apply below_alloc | apply pw_below_drewN | apply below_drew1 | refine below_set ?_ GE496.out | refine below_set ?_ GE513.out) | exact HB.out)⟩⟩
      · rw [if_neg c30] at H
        have c30b0 : (t514 == t504) = false := beq_eq_false_iff_ne.mpr c30
        have c30b1 : (t514 != t504) = true := bne_iff_ne.mpr c30
        (first | rw [c30b0] | (simp only [i64_w, i32_w]; rw [c30b0]) | skip)
        have H' := Aside0.mk H
        clear H
        go_wp2
        go_meet
        case rel => exact ⟨_, (true), (by first | rfl | (simp; done) | (simp [*]; done)), H', ⟨by first | omega | exact Nat.le_refl _⟩, ⟨by (with_reducible repeat (first | apply Kd.R_alloc | apply Kd.R_drewN | apply Kd.R_drew)); exact Kd.R_mono HO509.out (fun _ hk => trivial)⟩, ⟨by (with_reducible repeat (first | apply Kd.R_alloc | apply Kd.R_drewN | apply Kd.R_drew)); exact Kd.R_mono HO512.out (fun _ hk => trivial)⟩, ⟨by (with_reducible repeat (first | refine blk_drewN ?_ _ | refine blk_drew ?_ | refine blk_alloc ?_ _)); exact BK496.out⟩, ⟨by (with_reducible repeat (first | refine blk_drewN ?_ _ | refine blk_drew ?_ | refine blk_alloc ?_ _)); exact BK513.out⟩, ⟨by repeat (first | (with_reducible first | exact HB.out | apply below_alloc | apply pw_below_drewN | apply below_drew1 | refine below_set ?_ GE496.out | refine below_set ?_ GE513.out) | exact HB.out)⟩⟩
    case rest =>
      clear HC13
      try clear c2
      try clear p2
      try clear c3
      try clear c5
      try clear c5b0
      try clear c8
      try clear c20
      try clear c22
      try clear c26
      try clear c30
      try clear c30b0
      try clear c30b1
      try clear c31
      try clear c31b0
      try clear c31b1
      try clear hcz15_0
      try clear hcz15_1
      try clear hcz17_0
      try clear hcz17_1
      try clear hcz22_0
      try clear hcz22_1
      try clear hcz27_0
      try clear hcz27_1
      try clear hcz7_0
      try clear hcz7_1
      try clear hfz15_0
      try clear hfz15_1
      try clear hfz17_0
      try clear hfz17_1
      try clear hfz22_0
      try clear hfz22_1
      try clear hfz27_0
      try clear hfz27_1
      try clear hfz7_0
      try clear hfz7_1
      obtain ⟨kq, x51_12, rfl, HA, HJ12, HO_514000, HO_514001, BK496, BK513, HB⟩ := hcut
      cases kq with
      | zero => exact absurd HA.out (by simp [laws_FnExactFewestBetween.j0])
      | succ kj12 =>
        have H := HA.out
        clear HA
        simp only [laws_FnExactFewestBetween.j0] at H
        by_cases c32 : x51_12 = true
        · subst c32
          have H1 : (some false) = some r := by rw [if_pos rfl] at H; exact H
          clear H
          have H := H1
          clear H1
          obtain rfl := Option.some.inj H
          go_wp2
          go_ret
          exact ⟨by first | rfl | (simp [errW_none, errW_some] <;> rfl) | (simp [*, errW_none, errW_some] <;> rfl), by repeat (first | (with_reducible first | exact HB.out | apply below_alloc | apply pw_below_drewN | apply below_drew1 | refine below_set ?_ GE496.out | refine below_set ?_ GE513.out) | exact HB.out)⟩
        · replace c32 := Bool.eq_false_iff.mpr c32
          subst c32
          have H1 : ((laws_toFlow.f kj12 l0_0 l0_1).bind fun bt517 => ((laws_eqFlow.f kj12 t507 t510 bt517.1 bt517.2).bind fun t523 => (if t523 = true then (some true) else (some false)))) = some r := by rw [if_neg (show ¬ (false = true) by decide)] at H; exact H
          clear H
          have H := H1
          clear H1
          replace H := Option.bind_eq_some_iff.mp H
          obtain ⟨⟨t517, t520⟩, A330, H⟩ := H
          replace H : ((laws_eqFlow.f kj12 t507 t510 t517 t520).bind fun t523 => (if t523 = true then (some true) else (some false))) = some r := H
          have A33 := Aside0.mk A330
          clear A330
          replace H := Option.bind_eq_some_iff.mp H
          obtain ⟨t523, A340, H⟩ := H
          replace H : (if t523 = true then (some true) else (some false)) = some r := H
          have A34 := Aside0.mk A340
          clear A340
          by_cases c35 : t523 = true
          · subst c35
            have H1 : (some true) = some r := by rw [if_pos rfl] at H; exact H
            clear H
            have H := H1
            clear H1
            obtain rfl := Option.some.inj H
            try go_wp2
            have n0_ := Aside0.mk (Kd.R_drew HO_514000.out)
            have n1_ := Aside0.mk (Kd.R_drew HO_514001.out)
            have n2_ := Aside0.mk (blk_drew BK496.out)
            have n3_ := Aside0.mk (blk_drew BK513.out)
            have n4_ := Aside0.mk (below_drew1 HB.out)
            clear HO_514000
            clear HO_514001
            clear BK496
            clear BK513
            clear HB
            have HO_514000 := n0_
            have HO_514001 := n1_
            have BK496 := n2_
            have BK513 := n3_
            have HB := n4_
            clear n0_ n1_ n2_ n3_ n4_
            refine start_ (n := 5) (S := fun w' => w'.cell? ⟨gb513, 0, none⟩ = some (.slice Ao25 t507.length co25) ∧ w'.cell? ⟨gb513, 1, none⟩ = some (.slice Ao28 t510.length co28) ∧ w'.cell? ⟨gb496, 0, none⟩ = some (.slice A0_0 l0_0.length c0_0) ∧ w'.cell? ⟨gb496, 1, none⟩ = some (.slice A0_1 l0_1.length c0_1)) (ds := []) #[false, false, false, false, false] (by kernel_rfl) rfl rfl ⟨(blk_cell BK513.out 0).trans rfl, (blk_cell BK513.out 1).trans rfl, (blk_cell BK496.out 0).trans rfl, (blk_cell BK496.out 1).trans rfl⟩ (fun hHeld => ?_)
            generalize wc.drew = w36 at HO_514000 HO_514001 BK496 BK513 HB hHeld ⊢
            refine take_ (i := 0) (N := some 52) (v := ?_) (a' := ?_) #[true, false, false, false, false] rfl rfl (by kernel_rfl) (fun _ _ _ h => h) (Or.inl ⟨by rfl, ?_⟩) hHeld ?_ ?_
            rotate_left
            · rintro w' ⟨s0, s1, s2, s3⟩
              go_simp
              with_reducible rfl
            rotate_left
            · simp only [Act.put, List.setIfInBounds_toArray, List.set_cons_zero, List.set_cons_succ, i64_w, i32_w]
              rfl
            refine take_ (i := 1) (N := some 53) (v := ?_) (a' := ?_) #[true, true, false, false, false] rfl rfl (by kernel_rfl) (fun _ _ _ h => h) (Or.inl ⟨by rfl, ?_⟩) hHeld ?_ ?_
            rotate_left
            · rintro w' ⟨s0, s1, s2, s3⟩
              go_simp
              with_reducible rfl
            rotate_left
            · simp only [Act.put, List.setIfInBounds_toArray, List.set_cons_zero, List.set_cons_succ, i64_w, i32_w]
              rfl
            refine one_ (i := 2) (N := some 54) #[true, true, true, false, false] rfl rfl (by kernel_rfl) (by decide) (fun K hK => ?_)
            refine goes_ Try.func22 (by kernel_rfl) rfl #[.agg #[.slice A0_0 l0_0.length c0_0, .slice A0_1 l0_1.length c0_1]] (by rfl) rfl rfl (by (try simp only [List.map_toArray, List.map_cons, List.map_nil]); first | done | rfl | (simp only [List.length_drop, List.length_take]; rfl)) ?_
            with_reducible refine (laws_toFlow.calls kj12 _ _ l0_0 _ _ l0_1 t517 t520 _ ?side1 ?side2 ?side3 ?side4 A33.out).mono ?_
            (case side1 => repeat (first | exact (Kd.C_below HR0_0.out HB.out) | (with_reducible refine Kd.C_alloc ?_ _) | (with_reducible refine Kd.C_drewN ?_ _) | (with_reducible refine Kd.C_drew ?_)))
            (case side2 => first | exact trivial | (exact HC0_0.out))
            (case side3 => repeat (first | exact (Kd.C_below HR0_1.out HB.out) | (with_reducible refine Kd.C_alloc ?_ _) | (with_reducible refine Kd.C_drewN ?_ _) | (with_reducible refine Kd.C_drew ?_)))
            (case side4 => first | exact trivial | (exact HC0_1.out))
            rintro e w37 ⟨v518, v521, rfl, ho0, ho1, hb⟩
            refine ⟨_, rfl, ?_⟩
            have n0_ := Aside0.mk (Kd.R_elder' (by (with_reducible repeat (first | apply Kd.R_alloc | apply Kd.R_drewN | apply Kd.R_drew)); exact HO_514000.out) (Kd.R_base ho0) hb)
            have n1_ := Aside0.mk (Kd.R_elder' (by (with_reducible repeat (first | apply Kd.R_alloc | apply Kd.R_drewN | apply Kd.R_drew)); exact HO_514001.out) (Kd.R_base ho1) hb)
            have n2_ := Aside0.mk (Kd.R_lower (Kd.R_new' ho0 (Kd.R_lt (by (with_reducible repeat (first | apply Kd.R_alloc | apply Kd.R_drewN | apply Kd.R_drew)); exact HO_514000.out))) (below_size (by repeat (first | (with_reducible first | exact HB.out | apply below_alloc | apply pw_below_drewN | apply below_drew1 | refine below_set ?_ GE496.out | refine below_set ?_ GE513.out) | exact HB.out))))
            have n3_ := Aside0.mk (Kd.R_lower (Kd.R_new' ho1 (Kd.R_lt (by (with_reducible repeat (first | apply Kd.R_alloc | apply Kd.R_drewN | apply Kd.R_drew)); exact HO_514001.out))) (below_size (by repeat (first | (with_reducible first | exact HB.out | apply below_alloc | apply pw_below_drewN | apply below_drew1 | refine below_set ?_ GE496.out | refine below_set ?_ GE513.out) | exact HB.out))))
            have n4_ := Aside0.mk (blk_below (g := gb496) (o := .cells #[.slice A0_0 l0_0.length c0_0, .slice A0_1 l0_1.length c0_1] 31 (0, 0)) (by (with_reducible repeat (first | refine blk_drewN ?_ _ | refine blk_drew ?_ | refine blk_alloc ?_ _)); exact BK496.out) hb)
            have n5_ := Aside0.mk (blk_below (g := gb513) (o := .cells #[.slice Ao25 t507.length co25, .slice Ao28 t510.length co28] 36 (0, 0)) (by (with_reducible repeat (first | refine blk_drewN ?_ _ | refine blk_drew ?_ | refine blk_alloc ?_ _)); exact BK513.out) hb)
            have n6_ := Aside0.mk (below_step (by repeat (first | (with_reducible first | exact HB.out | apply below_alloc | apply pw_below_drewN | apply below_drew1 | refine below_set ?_ GE496.out | refine below_set ?_ GE513.out) | exact HB.out)) hb)
            clear HO_514000
            clear HO_514001
            clear BK496
            clear BK513
            clear HB
            have HO_514000 := n0_
            have HO_514001 := n1_
            have HO519 := n2_
            have HO522 := n3_
            have BK496 := n4_
            have BK513 := n5_
            have HB := n6_
            clear n0_ n1_ n2_ n3_ n4_ n5_ n6_
            (try clear hb)
            (try clear hb2)
            (try clear hk)
            (try clear hi)
            (try clear ho0)
            (try clear ho1)
            obtain ⟨Ao38, co38, eo38⟩ := Kd.R_slice HO519.out
            (first | subst eo38 | (injection eo38 with f1_ f2_ f3_; have f4_ := f1_.symm; have f5_ := f3_.symm; clear f1_ f2_ f3_; subst f4_; subst f5_))
            obtain ⟨Ao39, co39, eo39⟩ := Kd.R_slice HO522.out
            (first | subst eo39 | (injection eo39 with f1_ f2_ f3_; have f4_ := f1_.symm; have f5_ := f3_.symm; clear f1_ f2_ f3_; subst f4_; subst f5_))
            refine hK.out _ _ ⟨(blk_cell BK513.out 0).trans rfl, (blk_cell BK513.out 1).trans rfl, (blk_cell BK496.out 0).trans rfl, (blk_cell BK496.out 1).trans rfl⟩ (fun hHeld => ?_)
            clear hK K
            refine norm_ (a' := ?_) ?_ ?_
            rotate_left
            · show Act.put _ (some 54) _ = _
              simp only [Act.put, List.setIfInBounds_toArray, List.set_cons_zero, List.set_cons_succ, i64_w, i32_w]
              rfl
            refine one_ (i := 3) (N := some 55) #[true, true, true, true, false] rfl rfl (by kernel_rfl) (by decide) (fun K hK => ?_)
            refine goes_ Try.func24 (by kernel_rfl) rfl #[.agg #[.slice Ao25 t507.length co25, .slice Ao28 t510.length co28], .agg #[.slice Ao38 t517.length co38, .slice Ao39 t520.length co39]] (by rfl) rfl rfl (by (try simp only [List.map_toArray, List.map_cons, List.map_nil]); first | done | rfl | (simp only [List.length_drop, List.length_take]; rfl)) ?_
            with_reducible refine (laws_eqFlow.calls kj12 _ _ t507 _ _ t510 _ _ t517 _ _ t520 true _ ?side1 ?side2 ?side3 ?side4 ?side5 ?side6 ?side7 ?side8 A34.out).mono ?_
            (case side1 => repeat (first | exact (Kd.R_reads' HO_514000.out).2.2 | (with_reducible refine Kd.C_alloc ?_ _) | (with_reducible refine Kd.C_drewN ?_ _) | (with_reducible refine Kd.C_drew ?_)))
            (case side2 => first | exact trivial | (exact (Kd.R_reads' HO_514000.out).2.1))
            (case side3 => repeat (first | exact (Kd.R_reads' HO_514001.out).2.2 | (with_reducible refine Kd.C_alloc ?_ _) | (with_reducible refine Kd.C_drewN ?_ _) | (with_reducible refine Kd.C_drew ?_)))
            (case side4 => first | exact trivial | (exact (Kd.R_reads' HO_514001.out).2.1))
            (case side5 => repeat (first | exact (Kd.R_reads' HO519.out).2.2 | (with_reducible refine Kd.C_alloc ?_ _) | (with_reducible refine Kd.C_drewN ?_ _) | (with_reducible refine Kd.C_drew ?_)))
            (case side6 => first | exact trivial | (exact (Kd.R_reads' HO519.out).2.1))
            (case side7 => repeat (first | exact (Kd.R_reads' HO522.out).2.2 | (with_reducible refine Kd.C_alloc ?_ _) | (with_reducible refine Kd.C_drewN ?_ _) | (with_reducible refine Kd.C_drew ?_)))
            (case side8 => first | exact trivial | (exact (Kd.R_reads' HO522.out).2.1))
            rintro e w40 ⟨rfl, hb⟩
            refine ⟨_, rfl, ?_⟩
            have n0_ := Aside0.mk (Kd.R_below (by (with_reducible repeat (first | apply Kd.R_alloc | apply Kd.R_drewN | apply Kd.R_drew)); exact HO_514000.out) hb)
            have n1_ := Aside0.mk (Kd.R_below (by (with_reducible repeat (first | apply Kd.R_alloc | apply Kd.R_drewN | apply Kd.R_drew)); exact HO_514001.out) hb)
            have n2_ := Aside0.mk (Kd.R_below (by (with_reducible repeat (first | apply Kd.R_alloc | apply Kd.R_drewN | apply Kd.R_drew)); exact HO519.out) hb)
            have n3_ := Aside0.mk (Kd.R_below (by (with_reducible repeat (first | apply Kd.R_alloc | apply Kd.R_drewN | apply Kd.R_drew)); exact HO522.out) hb)
            have n4_ := Aside0.mk (blk_below (g := gb496) (o := .cells #[.slice A0_0 l0_0.length c0_0, .slice A0_1 l0_1.length c0_1] 31 (0, 0)) (by (with_reducible repeat (first | refine blk_drewN ?_ _ | refine blk_drew ?_ | refine blk_alloc ?_ _)); exact BK496.out) hb)
            have n5_ := Aside0.mk (blk_below (g := gb513) (o := .cells #[.slice Ao25 t507.length co25, .slice Ao28 t510.length co28] 36 (0, 0)) (by (with_reducible repeat (first | refine blk_drewN ?_ _ | refine blk_drew ?_ | refine blk_alloc ?_ _)); exact BK513.out) hb)
            have n6_ := Aside0.mk (below_step (by repeat (first | (with_reducible first | exact HB.out | apply below_alloc | apply pw_below_drewN | apply below_drew1 | refine below_set ?_ GE496.out | refine below_set ?_ GE513.out) | exact HB.out)) hb)
            clear HO_514000
            clear HO_514001
            clear HO519
            clear HO522
            clear BK496
            clear BK513
            clear HB
            have HO_514000 := n0_
            have HO_514001 := n1_
            have HO519 := n2_
            have HO522 := n3_
            have BK496 := n4_
            have BK513 := n5_
            have HB := n6_
            clear n0_ n1_ n2_ n3_ n4_ n5_ n6_
            (try clear hb)
            (try clear hb2)
            (try clear hk)
            (try clear hi)
            refine hK.out _ _ ⟨(blk_cell BK513.out 0).trans rfl, (blk_cell BK513.out 1).trans rfl, (blk_cell BK496.out 0).trans rfl, (blk_cell BK496.out 1).trans rfl⟩ (fun hHeld => ?_)
            clear hK K
            refine norm_ (a' := ?_) ?_ ?_
            rotate_left
            · show Act.put _ (some 55) _ = _
              simp only [Act.put, List.setIfInBounds_toArray, List.set_cons_zero, List.set_cons_succ, i64_w, i32_w]
              rfl
            refine pure_ (i := 4) (N := some 56) (v := ?_) (a' := ?_) #[true, true, true, true, true] rfl rfl (by kernel_rfl) (fun _ _ _ h => h) (Or.inl ⟨by rfl, ?_⟩) ?_ ?_
            rotate_left
            · intro w'
              go_simp
              with_reducible rfl
            rotate_left
            · simp only [Act.put, List.setIfInBounds_toArray, List.set_cons_zero, List.set_cons_succ, i64_w, i32_w]
              rfl
            refine done_ (by kernel_rfl) ?_
            try go_wp2
            go_ret
            exact ⟨by first | rfl | (simp [errW_none, errW_some] <;> rfl) | (simp [*, errW_none, errW_some] <;> rfl), by repeat (first | (with_reducible first | exact HB.out | apply below_alloc | apply pw_below_drewN | apply below_drew1 | refine below_set ?_ GE496.out | refine below_set ?_ GE513.out) | exact HB.out)⟩
          · replace c35 := Bool.eq_false_iff.mpr c35
            subst c35
            have H1 : (some false) = some r := by rw [if_neg (show ¬ (false = true) by decide)] at H; exact H
            clear H
            have H := H1
            clear H1
            obtain rfl := Option.some.inj H
            try go_wp2
            have n0_ := Aside0.mk (Kd.R_drew HO_514000.out)
            have n1_ := Aside0.mk (Kd.R_drew HO_514001.out)
            have n2_ := Aside0.mk (blk_drew BK496.out)
            have n3_ := Aside0.mk (blk_drew BK513.out)
            have n4_ := Aside0.mk (below_drew1 HB.out)
            clear HO_514000
            clear HO_514001
            clear BK496
            clear BK513
            clear HB
            have HO_514000 := n0_
            have HO_514001 := n1_
            have BK496 := n2_
            have BK513 := n3_
            have HB := n4_
            clear n0_ n1_ n2_ n3_ n4_
            refine start_ (n := 5) (S := fun w' => w'.cell? ⟨gb513, 0, none⟩ = some (.slice Ao25 t507.length co25) ∧ w'.cell? ⟨gb513, 1, none⟩ = some (.slice Ao28 t510.length co28) ∧ w'.cell? ⟨gb496, 0, none⟩ = some (.slice A0_0 l0_0.length c0_0) ∧ w'.cell? ⟨gb496, 1, none⟩ = some (.slice A0_1 l0_1.length c0_1)) (ds := []) #[false, false, false, false, false] (by kernel_rfl) rfl rfl ⟨(blk_cell BK513.out 0).trans rfl, (blk_cell BK513.out 1).trans rfl, (blk_cell BK496.out 0).trans rfl, (blk_cell BK496.out 1).trans rfl⟩ (fun hHeld => ?_)
            generalize wc.drew = w41 at HO_514000 HO_514001 BK496 BK513 HB hHeld ⊢
            refine take_ (i := 0) (N := some 52) (v := ?_) (a' := ?_) #[true, false, false, false, false] rfl rfl (by kernel_rfl) (fun _ _ _ h => h) (Or.inl ⟨by rfl, ?_⟩) hHeld ?_ ?_
            rotate_left
            · rintro w' ⟨s0, s1, s2, s3⟩
              go_simp
              with_reducible rfl
            rotate_left
            · simp only [Act.put, List.setIfInBounds_toArray, List.set_cons_zero, List.set_cons_succ, i64_w, i32_w]
              rfl
            refine take_ (i := 1) (N := some 53) (v := ?_) (a' := ?_) #[true, true, false, false, false] rfl rfl (by kernel_rfl) (fun _ _ _ h => h) (Or.inl ⟨by rfl, ?_⟩) hHeld ?_ ?_
            rotate_left
            · rintro w' ⟨s0, s1, s2, s3⟩
              go_simp
              with_reducible rfl
            rotate_left
            · simp only [Act.put, List.setIfInBounds_toArray, List.set_cons_zero, List.set_cons_succ, i64_w, i32_w]
              rfl
            refine one_ (i := 2) (N := some 54) #[true, true, true, false, false] rfl rfl (by kernel_rfl) (by decide) (fun K hK => ?_)
            refine goes_ Try.func22 (by kernel_rfl) rfl #[.agg #[.slice A0_0 l0_0.length c0_0, .slice A0_1 l0_1.length c0_1]] (by rfl) rfl rfl (by (try simp only [List.map_toArray, List.map_cons, List.map_nil]); first | done | rfl | (simp only [List.length_drop, List.length_take]; rfl)) ?_
            with_reducible refine (laws_toFlow.calls kj12 _ _ l0_0 _ _ l0_1 t517 t520 _ ?side1 ?side2 ?side3 ?side4 A33.out).mono ?_
            (case side1 => repeat (first | exact (Kd.C_below HR0_0.out HB.out) | (with_reducible refine Kd.C_alloc ?_ _) | (with_reducible refine Kd.C_drewN ?_ _) | (with_reducible refine Kd.C_drew ?_)))
            (case side2 => first | exact trivial | (exact HC0_0.out))
            (case side3 => repeat (first | exact (Kd.C_below HR0_1.out HB.out) | (with_reducible refine Kd.C_alloc ?_ _) | (with_reducible refine Kd.C_drewN ?_ _) | (with_reducible refine Kd.C_drew ?_)))
            (case side4 => first | exact trivial | (exact HC0_1.out))
            rintro e w42 ⟨v518, v521, rfl, ho0, ho1, hb⟩
            refine ⟨_, rfl, ?_⟩
            have n0_ := Aside0.mk (Kd.R_elder' (by (with_reducible repeat (first | apply Kd.R_alloc | apply Kd.R_drewN | apply Kd.R_drew)); exact HO_514000.out) (Kd.R_base ho0) hb)
            have n1_ := Aside0.mk (Kd.R_elder' (by (with_reducible repeat (first | apply Kd.R_alloc | apply Kd.R_drewN | apply Kd.R_drew)); exact HO_514001.out) (Kd.R_base ho1) hb)
            have n2_ := Aside0.mk (Kd.R_lower (Kd.R_new' ho0 (Kd.R_lt (by (with_reducible repeat (first | apply Kd.R_alloc | apply Kd.R_drewN | apply Kd.R_drew)); exact HO_514000.out))) (below_size (by repeat (first | (with_reducible first | exact HB.out | apply below_alloc | apply pw_below_drewN | apply below_drew1 | refine below_set ?_ GE496.out | refine below_set ?_ GE513.out) | exact HB.out))))
            have n3_ := Aside0.mk (Kd.R_lower (Kd.R_new' ho1 (Kd.R_lt (by (with_reducible repeat (first | apply Kd.R_alloc | apply Kd.R_drewN | apply Kd.R_drew)); exact HO_514001.out))) (below_size (by repeat (first | (with_reducible first | exact HB.out | apply below_alloc | apply pw_below_drewN | apply below_drew1 | refine below_set ?_ GE496.out | refine below_set ?_ GE513.out) | exact HB.out))))
            have n4_ := Aside0.mk (blk_below (g := gb496) (o := .cells #[.slice A0_0 l0_0.length c0_0, .slice A0_1 l0_1.length c0_1] 31 (0, 0)) (by (with_reducible repeat (first | refine blk_drewN ?_ _ | refine blk_drew ?_ | refine blk_alloc ?_ _)); exact BK496.out) hb)
            have n5_ := Aside0.mk (blk_below (g := gb513) (o := .cells #[.slice Ao25 t507.length co25, .slice Ao28 t510.length co28] 36 (0, 0)) (by (with_reducible repeat (first | refine blk_drewN ?_ _ | refine blk_drew ?_ | refine blk_alloc ?_ _)); exact BK513.out) hb)
            have n6_ := Aside0.mk (below_step (by repeat (first | (with_reducible first | exact HB.out | apply below_alloc | apply pw_below_drewN | apply below_drew1 | refine below_set ?_ GE496.out | refine below_set ?_ GE513.out) | exact HB.out)) hb)
            clear HO_514000
            clear HO_514001
            clear BK496
            clear BK513
            clear HB
            have HO_514000 := n0_
            have HO_514001 := n1_
            have HO519 := n2_
            have HO522 := n3_
            have BK496 := n4_
            have BK513 := n5_
            have HB := n6_
            clear n0_ n1_ n2_ n3_ n4_ n5_ n6_
            (try clear hb)
            (try clear hb2)
            (try clear hk)
            (try clear hi)
            (try clear ho0)
            (try clear ho1)
            obtain ⟨Ao43, co43, eo43⟩ := Kd.R_slice HO519.out
            (first | subst eo43 | (injection eo43 with f1_ f2_ f3_; have f4_ := f1_.symm; have f5_ := f3_.symm; clear f1_ f2_ f3_; subst f4_; subst f5_))
            obtain ⟨Ao44, co44, eo44⟩ := Kd.R_slice HO522.out
            (first | subst eo44 | (injection eo44 with f1_ f2_ f3_; have f4_ := f1_.symm; have f5_ := f3_.symm; clear f1_ f2_ f3_; subst f4_; subst f5_))
            refine hK.out _ _ ⟨(blk_cell BK513.out 0).trans rfl, (blk_cell BK513.out 1).trans rfl, (blk_cell BK496.out 0).trans rfl, (blk_cell BK496.out 1).trans rfl⟩ (fun hHeld => ?_)
            clear hK K
            refine norm_ (a' := ?_) ?_ ?_
            rotate_left
            · show Act.put _ (some 54) _ = _
              simp only [Act.put, List.setIfInBounds_toArray, List.set_cons_zero, List.set_cons_succ, i64_w, i32_w]
              rfl
            refine one_ (i := 3) (N := some 55) #[true, true, true, true, false] rfl rfl (by kernel_rfl) (by decide) (fun K hK => ?_)
            refine goes_ Try.func24 (by kernel_rfl) rfl #[.agg #[.slice Ao25 t507.length co25, .slice Ao28 t510.length co28], .agg #[.slice Ao43 t517.length co43, .slice Ao44 t520.length co44]] (by rfl) rfl rfl (by (try simp only [List.map_toArray, List.map_cons, List.map_nil]); first | done | rfl | (simp only [List.length_drop, List.length_take]; rfl)) ?_
            with_reducible refine (laws_eqFlow.calls kj12 _ _ t507 _ _ t510 _ _ t517 _ _ t520 false _ ?side1 ?side2 ?side3 ?side4 ?side5 ?side6 ?side7 ?side8 A34.out).mono ?_
            (case side1 => repeat (first | exact (Kd.R_reads' HO_514000.out).2.2 | (with_reducible refine Kd.C_alloc ?_ _) | (with_reducible refine Kd.C_drewN ?_ _) | (with_reducible refine Kd.C_drew ?_)))
            (case side2 => first | exact trivial | (exact (Kd.R_reads' HO_514000.out).2.1))
            (case side3 => repeat (first | exact (Kd.R_reads' HO_514001.out).2.2 | (with_reducible refine Kd.C_alloc ?_ _) | (with_reducible refine Kd.C_drewN ?_ _) | (with_reducible refine Kd.C_drew ?_)))
            (case side4 => first | exact trivial | (exact (Kd.R_reads' HO_514001.out).2.1))
            (case side5 => repeat (first | exact (Kd.R_reads' HO519.out).2.2 | (with_reducible refine Kd.C_alloc ?_ _) | (with_reducible refine Kd.C_drewN ?_ _) | (with_reducible refine Kd.C_drew ?_)))
            (case side6 => first | exact trivial | (exact (Kd.R_reads' HO519.out).2.1))
            (case side7 => repeat (first | exact (Kd.R_reads' HO522.out).2.2 | (with_reducible refine Kd.C_alloc ?_ _) | (with_reducible refine Kd.C_drewN ?_ _) | (with_reducible refine Kd.C_drew ?_)))
            (case side8 => first | exact trivial | (exact (Kd.R_reads' HO522.out).2.1))
            rintro e w45 ⟨rfl, hb⟩
            refine ⟨_, rfl, ?_⟩
            have n0_ := Aside0.mk (Kd.R_below (by (with_reducible repeat (first | apply Kd.R_alloc | apply Kd.R_drewN | apply Kd.R_drew)); exact HO_514000.out) hb)
            have n1_ := Aside0.mk (Kd.R_below (by (with_reducible repeat (first | apply Kd.R_alloc | apply Kd.R_drewN | apply Kd.R_drew)); exact HO_514001.out) hb)
            have n2_ := Aside0.mk (Kd.R_below (by (with_reducible repeat (first | apply Kd.R_alloc | apply Kd.R_drewN | apply Kd.R_drew)); exact HO519.out) hb)
            have n3_ := Aside0.mk (Kd.R_below (by (with_reducible repeat (first | apply Kd.R_alloc | apply Kd.R_drewN | apply Kd.R_drew)); exact HO522.out) hb)
            have n4_ := Aside0.mk (blk_below (g := gb496) (o := .cells #[.slice A0_0 l0_0.length c0_0, .slice A0_1 l0_1.length c0_1] 31 (0, 0)) (by (with_reducible repeat (first | refine blk_drewN ?_ _ | refine blk_drew ?_ | refine blk_alloc ?_ _)); exact BK496.out) hb)
            have n5_ := Aside0.mk (blk_below (g := gb513) (o := .cells #[.slice Ao25 t507.length co25, .slice Ao28 t510.length co28] 36 (0, 0)) (by (with_reducible repeat (first | refine blk_drewN ?_ _ | refine blk_drew ?_ | refine blk_alloc ?_ _)); exact BK513.out) hb)
            have n6_ := Aside0.mk (below_step (by repeat (first | (with_reducible first | exact HB.out | apply below_alloc | apply pw_below_drewN | apply below_drew1 | refine below_set ?_ GE496.out | refine below_set ?_ GE513.out) | exact HB.out)) hb)
            clear HO_514000
            clear HO_514001
            clear HO519
            clear HO522
            clear BK496
            clear BK513
            clear HB
            have HO_514000 := n0_
            have HO_514001 := n1_
            have HO519 := n2_
            have HO522 := n3_
            have BK496 := n4_
            have BK513 := n5_
            have HB := n6_
            clear n0_ n1_ n2_ n3_ n4_ n5_ n6_
            (try clear hb)
            (try clear hb2)
            (try clear hk)
            (try clear hi)
            refine hK.out _ _ ⟨(blk_cell BK513.out 0).trans rfl, (blk_cell BK513.out 1).trans rfl, (blk_cell BK496.out 0).trans rfl, (blk_cell BK496.out 1).trans rfl⟩ (fun hHeld => ?_)
            clear hK K
            refine norm_ (a' := ?_) ?_ ?_
            rotate_left
            · show Act.put _ (some 55) _ = _
              simp only [Act.put, List.setIfInBounds_toArray, List.set_cons_zero, List.set_cons_succ, i64_w, i32_w]
              rfl
            refine pure_ (i := 4) (N := some 56) (v := ?_) (a' := ?_) #[true, true, true, true, true] rfl rfl (by kernel_rfl) (fun _ _ _ h => h) (Or.inl ⟨by rfl, ?_⟩) ?_ ?_
            rotate_left
            · intro w'
              go_simp
              with_reducible rfl
            rotate_left
            · simp only [Act.put, List.setIfInBounds_toArray, List.set_cons_zero, List.set_cons_succ, i64_w, i32_w]
              rfl
            refine done_ (by kernel_rfl) ?_
            try go_wp2
            go_ret
            exact ⟨by first | rfl | (simp [errW_none, errW_some] <;> rfl) | (simp [*, errW_none, errW_some] <;> rfl), by repeat (first | (with_reducible first | exact HB.out | apply below_alloc | apply pw_below_drewN | apply below_drew1 | refine below_set ?_ GE496.out | refine below_set ?_ GE513.out) | exact HB.out)⟩
end Go.Proofs.Ytojpibpjieanhaa.X
end
section
/- Rows of whole numbers and of wires that come in as a law's argument, opened to lists. Conditions: as each lemma says. -/
namespace Go.Proofs.Ytojpibpjieanhaa.X
open Go.RowKit Go.Proofs.YtojpibpjieanhaaW.PrintWords Go.Proofs.YtojpibpjieanhaaW.PrintLast Go.Proofs.YtojpibpjieanhaaW.PrintMore
open Go.ChangeShapes Go.WideShapes Go.Deep
set_option linter.unusedVariables false
set_option linter.unusedSimpArgs false
section
variable {H : Type} {enc : TypeId × Value → H} {P : Program} {w : World} {base : Nat} {spare : Nat → Bool} {held : Bool}
theorem open_slice_fields {t e : TypeId} {fs : Array Field} {fuel : Nat} {cs : List Value} {x : DataW H × List MemPlace} (ht : P.underlying t = some (.slice e)) (he : P.underlying e = some (.struct fs))
    (hone : oneCellFields P fs = true) (hC : P.cellsOf e = fs.size) (h : DataW.trod enc P w base spare held fuel t cs = some x) :
    (cs = [.slice none 0 0] ∧ x = (.nil, [])) ∨
    ∃ (a : Addr) (len cap m : Nat), cs = [.slice (some a) len cap] ∧ base ≤ a.block ∧ len ≤ cap ∧ cap ≤ maxLen ∧ m = (if spare a.block then cap else len) ∧
      ∀ i, i < m → ∃ (n : Nat), ∀ (j : Nat) (f : Field), fs[j]? = some f → ∃ (v : Value) (y : DataW H × List MemPlace), w.cell? (a.add (i * fs.size + j)) = some v ∧ DataW.trod enc P w base spare held n f.type [v] = some y := by
  rcases open_slice ht h with h0 | ⟨a, len, cap, m, n, D, Pl, hcs, hb, hl, hm, hmm, hx, hi⟩
  · exact .inl h0
  · refine .inr ⟨a, len, cap, m, hcs, hb, hl, hm, hmm, fun i him => ?_⟩
    obtain ⟨cs', hc, ht'⟩ := hi i him
    rw [hC] at hc
    obtain ⟨ys, n', hn', hy, hlen, hyl, hf⟩ := DataW.trod_struct he ht'
    obtain ⟨_, hcl, hat⟩ := World.cells?_some hc
    refine ⟨n', fun j f hj => ?_⟩
    obtain ⟨ho, hk⟩ := hone_of hone j f hj
    have hjl : j < fs.size := (Array.getElem?_eq_some_iff.1 hj).1
    have hcell := hat j hjl
    have hv : cs'[j]? = some (cs'[j]'(by omega)) := List.getElem?_eq_getElem (by omega)
    have h1 := hf j f hj
    rw [ho, hk] at h1
    have hone' : (cs'.drop j).take 1 = [cs'[j]'(by omega)] := by
      rw [List.drop_eq_getElem_cons (by omega)]
      rfl
    rw [hone'] at h1
    have hys : ys[j]? = some (ys[j]'(by omega)) := List.getElem?_eq_getElem (by omega)
    refine ⟨_, _, ?_, h1.trans hys⟩
    rw [← Go.Deep.add_add, hcell, hv]
end
theorem ints_C {w : World} {a : Addr} {l : List Int} (hm : l.length ≤ 9223372036854775807) (h : ∀ i, i < l.length → w.cell? (a.add i) = some (.int .i64 (l.getD i 0))) : Kd.C (Kd.int .i64) w (some a) l.length l := by
  refine ⟨rfl, hm, fun _ => ⟨_, rfl, fun j p hj => ⟨[.int .i64 p], rfl, rfl, fun i u hu => ?_⟩⟩⟩
  obtain ⟨hl, hp⟩ := List.getElem?_eq_some_iff.1 hj
  have h0 : i = 0 := by
    rcases i with _ | i
    · rfl
    · simp at hu
  subst h0
  have hu' : Value.int .i64 p = u := by simpa using hu
  have hc := h j hl
  rw [List.getD_eq_getElem?_getD, hj] at hc
  have e : a.add (j * (Kd.int .i64).sz + 0) = a.add j := by
    show a.add (j * 1 + 0) = a.add j
    rw [Nat.mul_one, Nat.add_zero]
  rw [e, ← hu']
  exact hc
theorem wires_C {w : World} {a : Addr} {l : List S96} (hm : l.length ≤ 9223372036854775807) (h : ∀ i, i < l.length → w.cell? (a.add (i * 3 + 0)) = some (.int .i64 (l.getD i z96).f0) ∧ w.cell? (a.add (i * 3 + 1)) = some (.int .i64 (l.getD i z96).f1) ∧ w.cell? (a.add (i * 3 + 2)) = some (.int .i64 (l.getD i z96).f2)) : Kd.C k96 w (some a) l.length l := by
  refine ⟨rfl, hm, fun _ => ⟨_, rfl, fun j p hj => ⟨[.int .i64 p.f0, .int .i64 p.f1, .int .i64 p.f2], rfl, k96_mk w p, fun i u hu => ?_⟩⟩⟩
  obtain ⟨hl, hp⟩ := List.getElem?_eq_some_iff.1 hj
  have hc := h j hl
  rw [List.getD_eq_getElem?_getD, hj] at hc
  show w.cell? (a.add (j * 3 + i)) = some u
  rcases i with _ | _ | _ | i
  · have hu' : Value.int .i64 p.f0 = u := by simpa using hu
    rw [← hu']; exact hc.1
  · have hu' : Value.int .i64 p.f1 = u := by simpa using hu
    rw [← hu']; exact hc.2.1
  · have hu' : Value.int .i64 p.f2 = u := by simpa using hu
    rw [← hu']; exact hc.2.2
  · simp at hu
section
variable {H : Type} {enc : TypeId × Value → H} {w : World}
theorem open_row_ints {t e : TypeId} {fuel : Nat} {c : Value} {x : DataW H × List MemPlace} (ht : Try.prog.underlying t = some (.slice e)) (he : Try.prog.underlying e = some (.int .i64)) (hc : Try.prog.cellsOf e = 1) (h : DataW.trod enc Try.prog w 0 (fun _ => true) true fuel t [c] = some x) :
    ∃ (A : Option Addr) (cap : Nat) (l : List Int), c = .slice A l.length cap ∧ Kd.C (Kd.int .i64) w A l.length l ∧ l.length ≤ cap ∧ l.length ≤ 9223372036854775807 ∧ ∀ n ∈ l, (Lit.int .i64 n).wf = true := by
  rcases open_ints ht he hc h with ⟨hcs, _⟩ | ⟨a, len, cap, zs, hcs, _, hl, hm, hz, _, hcell, hwz⟩
  · obtain rfl : c = .slice none 0 0 := by simpa using hcs
    exact ⟨none, 0, [], rfl, Kd.C_nil _ _, Nat.le_refl _, by simp, by simp⟩
  · obtain rfl : c = .slice (some a) len cap := by simpa using hcs
    simp only [if_true] at hz
    unfold maxLen at hm
    have hlen : (zs.take len).length = len := by simp; omega
    refine ⟨some a, cap, zs.take len, by rw [hlen], ints_C (by rw [hlen]; omega) (fun i hi => ?_), by rw [hlen]; exact hl, by rw [hlen]; omega, fun n hn => hwz n (List.mem_of_mem_take hn)⟩
    rw [hlen] at hi
    rw [hcell i (by omega)]
    have e : zs.getD i 0 = (zs.take len).getD i 0 := by rw [List.getD_eq_getElem?_getD, List.getD_eq_getElem?_getD, List.getElem?_take_of_lt hi]
    rw [e]
theorem open_row_wires {t e : TypeId} {f0 f1 f2 : Field} {fuel : Nat} {c : Value} {x : DataW H × List MemPlace} (ht : Try.prog.underlying t = some (.slice e)) (he : Try.prog.underlying e = some (.struct #[f0, f1, f2])) (hone : oneCellFields Try.prog #[f0, f1, f2] = true) (hC : Try.prog.cellsOf e = 3)
    (h0 : Try.prog.underlying f0.type = some (.int .i64)) (h1 : Try.prog.underlying f1.type = some (.int .i64)) (h2 : Try.prog.underlying f2.type = some (.int .i64)) (h : DataW.trod enc Try.prog w 0 (fun _ => true) true fuel t [c] = some x) :
    ∃ (A : Option Addr) (cap : Nat) (l : List S96), c = .slice A l.length cap ∧ Kd.C k96 w A l.length l ∧ l.length ≤ cap ∧ l.length ≤ 9223372036854775807 := by
  rcases open_slice_fields ht he hone hC h with ⟨hcs, _⟩ | ⟨a, len, cap, m, hcs, _, hl, hm, hmm, hi⟩
  · obtain rfl : c = .slice none 0 0 := by simpa using hcs
    exact ⟨none, 0, [], rfl, Kd.C_nil _ _, Nat.le_refl _, by simp⟩
  · obtain rfl : c = .slice (some a) len cap := by simpa using hcs
    simp only [if_true] at hmm
    unfold maxLen at hm
    have key : ∀ i, i < len → ∃ s : S96, w.cell? (a.add (i * 3 + 0)) = some (.int .i64 s.f0) ∧ w.cell? (a.add (i * 3 + 1)) = some (.int .i64 s.f1) ∧ w.cell? (a.add (i * 3 + 2)) = some (.int .i64 s.f2) := by
      intro i hil
      obtain ⟨n, hf⟩ := hi i (by omega)
      obtain ⟨v0, y0, c0, t0⟩ := hf 0 f0 rfl
      obtain ⟨v1, y1, c1, t1⟩ := hf 1 f1 rfl
      obtain ⟨v2, y2, c2, t2⟩ := hf 2 f2 rfl
      obtain ⟨a0, e0, _, _⟩ := DataW.trod_int h0 t0
      obtain ⟨a1, e1, _, _⟩ := DataW.trod_int h1 t1
      obtain ⟨a2, e2, _, _⟩ := DataW.trod_int h2 t2
      simp at e0 e1 e2
      subst e0 e1 e2
      exact ⟨⟨a0, a1, a2⟩, c0, c1, c2⟩
    let g : Nat → S96 := fun i => open Classical in if hi : i < len then Classical.choose (key i hi) else z96
    have hg : ∀ i (hi : i < len), w.cell? (a.add (i * 3 + 0)) = some (.int .i64 (g i).f0) ∧ w.cell? (a.add (i * 3 + 1)) = some (.int .i64 (g i).f1) ∧ w.cell? (a.add (i * 3 + 2)) = some (.int .i64 (g i).f2) := by
      intro i hi
      have : g i = Classical.choose (key i hi) := dif_pos hi
      rw [this]
      exact Classical.choose_spec (key i hi)
    have hlen : ((List.range len).map g).length = len := by simp
    refine ⟨some a, cap, (List.range len).map g, by rw [hlen], wires_C (by rw [hlen]; omega) (fun i hi => ?_), by rw [hlen]; exact hl, by rw [hlen]; omega⟩
    rw [hlen] at hi
    have : ((List.range len).map g).getD i z96 = g i := by simp [List.getD_eq_getElem?_getD, hi]
    rw [this]
    exact hg i hi
end
end Go.Proofs.Ytojpibpjieanhaa.X
end
section
/- The law of FewestBetween, plainly. Conditions: as each lemma says. -/
namespace Go.Proofs.Ytojpibpjieanhaa.X
open Go.RowKit Go.Proofs.YtojpibpjieanhaaW.PrintWords Go.Proofs.YtojpibpjieanhaaW.PrintLast Go.Proofs.YtojpibpjieanhaaW.PrintMore Go.Proofs.Ytojpibpjieanhaa.FlowMath Go.Proofs.Ytojpibpjieanhaa.FewMath
set_option linter.unusedVariables false
set_option linter.unusedSimpArgs false
theorem fl_of (d : List Int) (ws : List S55) (h : validB d ws = true) : Fl d ws d.length := by
  unfold validB at h
  rw [Bool.and_eq_true] at h
  obtain ⟨hn, hm, hd, hw⟩ := form_ok h.1
  refine ⟨rfl, hn.1, hn.2, hm, hw, fun v => ?_, fun v hv => ?_⟩
  · unfold dl
    rw [List.getD_eq_getElem?_getD]
    rcases Nat.lt_or_ge v d.length with hv | hv
    · rw [List.getElem?_eq_getElem hv]; exact hd _ (List.getElem_mem hv)
    · rw [List.getElem?_eq_none hv]; simp
  · have := h.2
    rw [@decide_eq_true _ (Classical.propDecidable _) ⟨v, hv⟩] at this
    simp at this
theorem few_same (k : Nat) (d : List Int) (ws : List S55) (n : Nat) (h : Fl d ws n) (a b : Nat) (ha : a < n) (hb : b < n) (hk : 1000 < k) :
    ∃ F S M, spec_l08Far.f k d ws (a : Int) = some (F, S) ∧ F.length = n ∧ S.length = n ∧ impl_Flow_allBetween.f k d ws = some (rowsS n M) ∧ (if dl F b < 0 then ((0 : Int), (0 : Int), false) else (dl F b, dl S b, true)) = ((M a b).r, (M a b).d, (M a b).f) := by
  obtain ⟨F, S, e1, hF, hS, b1, s1, f1⟩ := spec_few h a ha k hk
  obtain ⟨M, e2, b2, s2, n2, f2⟩ := impl_few h k (by omega)
  refine ⟨F, S, M, e1, hF, hS, e2, ?_⟩
  have sM : (M a b).f = true → ∃ m, T (Back (Wi ws)) (dl d) b m a (FewMath.key (M a b)) := s2 (a, b)
  have fM : ∀ m x, T (Back (Wi ws)) (dl d) b m a x → hit (M a b) x := fun m x hx => f2 m (a, b) x hx
  have sS : (lab F S b).f = true → ∃ m, T (Wi ws) (dl d) a m b (FewMath.key (lab F S b)) := s1 b
  have fS : ∀ m x, T (Wi ws) (dl d) a m b x → hit (lab F S b) x := fun m x hx => f1 m b x hx
  have bM : Bd 9000 (M a b) := b2 (a, b)
  have bS := b1 b
  by_cases hneg : dl F b < 0
  · rw [if_pos hneg]
    have hno : (lab F S b).f = false := by
      show decide (_ ∧ 0 ≤ dl F b) = false
      simp; omega
    have hf : (M a b).f = false := by
      cases hc : (M a b).f with
      | false => rfl
      | true =>
        obtain ⟨m, hm⟩ := sM hc
        have := fS _ _ hm.rev
        rw [this.1] at hno; exact hno
    have hz : M a b = ⟨0, 0, false⟩ := n2 (a, b) hf
    rw [hz]
  · rw [if_neg hneg]
    have hyes : (lab F S b).f = true := by
      show decide (_ ∧ 0 ≤ dl F b) = true
      simp; omega
    obtain ⟨m, hm⟩ := sS hyes
    have h1 := fM _ _ hm.rev
    obtain ⟨m', hm'⟩ := sM h1.1
    have h2 := fS _ _ hm'.rev
    have q1 := bM h1.1
    have q2 := bS hyes
    have k1 := h1.2
    have k2 := h2.2
    have q2' : 0 ≤ dl F b ∧ dl F b ≤ 20 * (9000 : Nat) ∧ 0 ≤ dl S b ∧ dl S b ≤ 100 * (9000 : Nat) := q2
    have k1' : 1000000 * (M a b).r - (M a b).d ≤ 1000000 * dl F b - dl S b := k1
    have k2' : 1000000 * dl F b - dl S b ≤ 1000000 * (M a b).r - (M a b).d := k2
    have er : dl F b = (M a b).r := by omega
    have ed : dl S b = (M a b).d := by omega
    rw [er, ed, h1.1]
theorem fewest_same (k : Nat) (l0 : List Int) (ws : List S55) (a b : Int) (h0 : l0.length ≤ 4000000) (h1 : ws.length ≤ 4000000) (hk : 3000 < k) : ∃ r : Int × Int × Bool, spec_FewestBetween.f k l0 ws a b = some r ∧ impl_FewestBetween.f k l0 ws a b = some r := by
  unfold spec_FewestBetween.f impl_FewestBetween.f spec_l08Vertex.f
  rw [spec_is k l0 ws (by omega) (by omega) (by omega), impl_valid k l0 ws (by omega), Option.bind_some, Option.bind_some, Option.bind_some]
  cases hv : validB l0 ws with
  | false => exact ⟨_, rfl, rfl⟩
  | true =>
    have hfl := fl_of l0 ws hv
    have hn := hfl.n8
    have hn1 := hfl.n1
    simp only [if_true]
    rw [w64 (by omega) (by omega), l00In_w, l00In_w, within_w, within_w]
    simp only [Option.bind_some]
    by_cases ha : 0 ≤ a ∧ a ≤ (l0.length : Int) - 1
    · have e1 : inB a 0 ((l0.length : Int) - 1) = true := by unfold inB; simp; omega
      have e1' : (decide (0 ≤ a) && decide (a ≤ (l0.length : Int) - 1)) = true := by simp; omega
      rw [e1, e1']
      simp only [if_true]
      by_cases hb : 0 ≤ b ∧ b ≤ (l0.length : Int) - 1
      · have e2 : inB b 0 ((l0.length : Int) - 1) = true := by unfold inB; simp; omega
        have e2' : (decide (0 ≤ b) && decide (b ≤ (l0.length : Int) - 1)) = true := by simp; omega
        rw [e2, e2']
        simp only [if_true]
        obtain ⟨A, rfl⟩ := Int.eq_ofNat_of_zero_le ha.1
        obtain ⟨B, rfl⟩ := Int.eq_ofNat_of_zero_le hb.1
        obtain ⟨F, S, M, g1, g2, g3, g4, g5⟩ := few_same k l0 ws l0.length hfl A B (by omega) (by omega) (by omega)
        refine ⟨((M A B).r, (M A B).d, (M A B).f), ?_, ?_⟩
        · rw [g1, Option.bind_some]
          simp only
          rw [if_pos ⟨by omega, by omega, by omega⟩, ← g5]
          have r1 : rd F (B : Int) = dl F B := rd_dl F B
          have r2 : rd S (B : Int) = dl S B := rd_dl S B
          rw [r1, r2]
          split <;> rfl
        · rw [g4, Option.bind_some]
          have hrow : rd_L5 (rowsS l0.length M) (A : Int) = rowS l0.length M A := by
            unfold rd_L5
            rw [Int.toNat_natCast, List.getD_eq_getElem?_getD, rowsS_get _ _ _ (by omega)]; rfl
          have hcell : rd_T77 (rowS l0.length M A) (B : Int) = toS (M A B) := by
            unfold rd_T77
            rw [Int.toNat_natCast, List.getD_eq_getElem?_getD, rowS_get _ _ _ _ (by omega)]; rfl
          have hl1 : (rowsS l0.length M).length = l0.length := by simp [rowsS]
          have hl2 : (rowS l0.length M A).length = l0.length := by simp [rowS]
          rw [if_pos (by omega), hl1, if_pos (by omega), if_pos (by omega), hrow, hl2, if_pos (by omega), hcell]
          rfl
      · have e2 : inB b 0 ((l0.length : Int) - 1) = false := by unfold inB; simp; omega
        have e2' : (decide (0 ≤ b) && decide (b ≤ (l0.length : Int) - 1)) = false := by simp; omega
        rw [e2, e2']
        exact ⟨_, rfl, rfl⟩
    · have e1 : inB a 0 ((l0.length : Int) - 1) = false := by unfold inB; simp; omega
      have e1' : (decide (0 ≤ a) && decide (a ≤ (l0.length : Int) - 1)) = false := by simp; omega
      rw [e1, e1']
      exact ⟨_, rfl, rfl⟩
theorem FnExactFewestBetween_pure (l0 : List Int) (l1 : List S96) (a b : Int) (h0 : l0.length ≤ 9223372036854775807) (w0 : ∀ n ∈ l0, (Lit.int .i64 n).wf = true) (h1 : l1.length ≤ 9223372036854775807) (wa : (Lit.int .i64 a).wf = true) (wb : (Lit.int .i64 b).wf = true) : ∃ k, laws_FnExactFewestBetween.f k l0 l1 a b = some true := by
  obtain ⟨k, hk⟩ : ∃ k : Nat, 9000000 < k := ⟨9000001, by omega⟩
  refine ⟨k + 1, ?_⟩
  obtain ⟨t, ht, hts⟩ := sz_eq l0 l1 h0 h1
  unfold laws_FnExactFewestBetween.f
  rw [ht, Option.bind_some]
  by_cases ht0 : t < 0
  · rw [if_pos ht0]
  · obtain ⟨z0, z1⟩ := hts ht0
    obtain ⟨r, hs, hi⟩ := fewest_same (k + 1) l0 (l1.map toW) a b (by omega) (by simp; omega) (by omega)
    rw [if_neg ht0, toFlow_eq (k + 1) l0 l1 (by omega) (by omega) (by omega)]
    simp only [Option.bind_some]
    rw [hs, hi]
    simp only [Option.bind_some, if_true]
    rw [laws_FnExactFewestBetween.j0, if_neg (by cases r.2.2 <;> decide), toFlow_eq k l0 l1 (by omega) (by omega) (by omega)]
    simp only [Option.bind_some]
    rw [eqFlow_refl k l0 (l1.map toW) (by omega) (by simp; omega) (by omega)]
    simp
end Go.Proofs.Ytojpibpjieanhaa.X
end
