/- My own texts of this seat and its words, merged: XT17, XIsV. Conditions: as each lemma says. -/
import Derived.Test.YtalkmhnlgfncmaaDoorH23
import Derived.Test.YtalkmhnlgfncmaaDoorH25
section
namespace Go.Proofs.YtalkmhnlgfncmaaDoor.X
open Go.RowKit Go.Proofs.YtalkmhnlgfncmaaDoorW.PrintWords Go.Proofs.YtalkmhnlgfncmaaDoorW.PrintLast Go.Proofs.YtalkmhnlgfncmaaDoorW.PrintMore
set_option linter.unusedVariables false
set_option linter.unusedSimpArgs false
set_option maxHeartbeats 8000000 in
set_option maxRecDepth 100000 in
theorem spec_l08Text.callT (k : Nat) (g : Nat) (s0_0 : List Int) (s0_1 : List (S43)) (r : ByteArray) (w0 w : World) (hI : IsT25 w0 w g s0_0 s0_1) (hB : Below w0.heap.size w0 w) (h : spec_l08Text.f k s0_0 s0_1 = some r) :
    Calls Tryd.prog 17 #[.pointer (some ⟨g, 0, none⟩)] w fun e w' => e = .returned (.string r) ∧ IsT25 w0 w' g s0_0 s0_1 ∧ Below w0.heap.size w0 w' ∧ KeepBut w w' g none := by
  have hu43 := Tryd.underlying43
  have HI0 := Aside0.mk hI
  have HK := Aside0.mk (KeepBut.refl w g none)
  have HL := Aside0.mk hB.size
  clear hI
  have HW0 := Aside0.mk hB.size
  have HB := Aside0.mk hB
  clear hB
  have H : (spec_l08Text.l0 k (⟨#[]⟩ : ByteArray) 0 s0_0 s0_1) = some r := h
  clear h
  have H' := Aside0.mk H
  clear H
  go_enter Tryd.func17, Tryd.ntmps17
  go_wp2
  go_loopg [3, 4] k (fun kq v3 v4 w' => ∃ (x3_1 : ByteArray) (x4_1 : Int), v3 = .string x3_1 ∧ v4 = .int .i64 x4_1 ∧ Aside0 (spec_l08Text.l0 kq x3_1 x4_1 s0_0 s0_1 = some r) ∧ Aside0 (kq ≤ k) ∧ Aside0 (IsT25 w0 w' g s0_0 s0_1) ∧ Aside0 (KeepBut w w' g none) ∧ Aside0 (Below w0.heap.size w0 w'))
  case atStart => exact ⟨((⟨#[]⟩ : ByteArray)), (0), (by first | rfl | (simp; done) | (simp [*]; done)), (by first | rfl | (simp; done) | (simp [*]; done)), H', ⟨Nat.le_refl _⟩, ⟨by repeat (first | (with_reducible first | exact HI0.out | apply IsT25.alloc | apply IsT25.drewN | apply IsT25.drew) | exact HI0.out)⟩, ⟨by repeat (first | (with_reducible first | exact HK.out | apply KeepBut.set_ | apply keep_drewN | apply keep_drew | apply keep_alloc) | exact HK.out)⟩, ⟨by repeat (first | (with_reducible first | exact HB.out | apply below_alloc | apply pw_below_drewN | apply below_drew1 | refine below_set ?_ (IsT25.ge HI0.out)) | exact HB.out)⟩⟩
  case round =>
    clear H'
    try clear c1
    obtain ⟨x3_1, x4_1, rfl, rfl, HA, HK1, HI0, HK, HB⟩ := hrel
    cases gk with
    | zero => exact absurd HA.out (by simp [spec_l08Text.l0])
    | succ k1 =>
      have H := HA.out
      clear HA
      simp only [spec_l08Text.l0] at H
      by_cases c2 : x4_1 < (s0_0.length : Int)
      · rw [if_pos c2] at H
        have c2b0 : decide (x4_1 < (s0_0.length : Int)) = true := decide_eq_true c2
        clear c2
        by_cases c3 : x4_1 > 0
        · rw [if_pos c3] at H
          have c3b0 : decide (0 < x4_1) = true := decide_eq_true c3
          clear c3
          by_cases c4 : x3_1.size + 1 ≤ 9223372036854775807
          · rw [if_pos c4] at H
            have c4b0 := eq_true c4
            have c4b1 : decide (x3_1.size + 1 ≤ 9223372036854775807) = true := decide_eq_true c4
            try have c4b2 : (9223372036854775807 < x3_1.size + 1) = False := eq_false (Nat.not_lt.2 c4)
            by_cases c5 : 0 ≤ x4_1
            · rw [if_pos c5] at H
              have c5b0 : decide (0 ≤ x4_1) = true := decide_eq_true c5
              clear c5
              replace H := Option.bind_eq_some_iff.mp H
              obtain ⟨t185, A60, H⟩ := H
              replace H : (if (x3_1 ++ (⟨#[44]⟩ : ByteArray)).size + t185.size ≤ 9223372036854775807 then (spec_l08Text.l0 k1 ((x3_1 ++ (⟨#[44]⟩ : ByteArray)) ++ t185) (wrap64 (x4_1 + 1)) s0_0 s0_1) else (none)) = some r := H
              have A6 := Aside0.mk A60
              clear A60
              by_cases c7 : (x3_1 ++ (⟨#[44]⟩ : ByteArray)).size + t185.size ≤ 9223372036854775807
              · rw [if_pos c7] at H
                have c7b0 := eq_true c7
                have c7b1 : decide ((x3_1 ++ (⟨#[44]⟩ : ByteArray)).size + t185.size ≤ 9223372036854775807) = true := decide_eq_true c7
                try have c7b2 : (9223372036854775807 < (x3_1 ++ (⟨#[44]⟩ : ByteArray)).size + t185.size) = False := eq_false (Nat.not_lt.2 c7)
                have c7b3 : (9223372036854775807 < x3_1.size + 1 + t185.size) = False := eq_false (by have h := c7; simp only [ByteArray.size_append] at h; exact Nat.not_lt.2 h)
                have H' := Aside0.mk H
                clear H
                obtain ⟨ASz8_0, cSz8_0, ASz8_1, cSz8_1, HGz8, hgz8, HSz8_0, HSz8_1⟩ := HI0.out
                have hcz8_0 := cellS25_0 HGz8
                have hcz8_1 := cellS25_1 HGz8
                clear HGz8 hgz8
                have p184 : 0 ≤ (x4_1 : Int) := of_decide_eq_true (by first | (with_reducible assumption) | assumption)
                have q184 : x4_1 < (s0_0.length : Int) := of_decide_eq_true (by first | (with_reducible assumption) | assumption)
                obtain ⟨ad184, e184, hx184_0⟩ := Kd.at_int HSz8_0 x4_1 p184 q184
                cases e184
                replace hx184_0 := pw_cell_below HB.out hx184_0
                replace p184 := eq_true p184
                replace q184 := eq_true q184
                go_wp2_with (first | ((with_reducible refine gate_callee (f := 38) rfl ?_); refine goesL_ (some 28) rfl rfl Tryd.func38 (by kernel_rfl) rfl #[.int .i64 (rd s0_0 x4_1)] rfl (by (try simp only [List.map_toArray, List.map_cons, List.map_nil]); first | done | rfl | (simp only [List.length_drop, List.length_take]; rfl)) ?_; (with_reducible refine (spec_l01Dec.calls k1 (rd s0_0 x4_1) t185 _ A6.out).mono ?_); rintro e w9 ⟨rfl, hb⟩; refine ⟨_, rfl, ?_⟩; have n0_ := Aside0.mk (IsT25.below (by repeat (first | (with_reducible first | exact HI0.out | apply IsT25.alloc | apply IsT25.drewN | apply IsT25.drew) | exact HI0.out)) hb); have n1_ := Aside0.mk (KeepBut.trans (by repeat (first | (with_reducible first | exact HK.out | apply KeepBut.set_ | apply keep_drewN | apply keep_drew | apply keep_alloc) | exact HK.out)) (KeepBut.of_below hb g none) (.inl rfl)); have n2_ := Aside0.mk (below_step (by repeat (first | (with_reducible first | exact HB.out | apply below_alloc | apply pw_below_drewN | apply below_drew1 | refine below_set ?_ (IsT25.ge HI0.out)) | exact HB.out)) hb); clear HI0; clear HK; clear HB; have HI0 := n0_; have HK := n1_; have HB := n2_; clear n0_ n1_ n2_; (try clear hb); (try clear hb2); (try clear hk); (try clear hi)))
                go_roundg k1
                case measure => have := HK1.out; omega
                case rel => exact ⟨((x3_1 ++ (⟨#[44]⟩ : ByteArray)) ++ t185), (wrap64 (x4_1 + 1)), (by first | rfl | (simp; done) | (simp [*]; done)), (by first | rfl | (simp; done) | (simp [*]; done)), H', ⟨by have := HK1.out; omega⟩, ⟨by repeat (first | (with_reducible first | exact HI0.out | apply IsT25.alloc | apply IsT25.drewN | apply IsT25.drew) | exact HI0.out)⟩, ⟨by repeat (first | (with_reducible first | exact HK.out | apply KeepBut.set_ | apply keep_drewN | apply keep_drew | apply keep_alloc) | exact HK.out)⟩, ⟨by repeat (first | (with_reducible first | exact HB.out | apply below_alloc | apply pw_below_drewN | apply below_drew1 | refine below_set ?_ (IsT25.ge HI0.out)) | exact HB.out)⟩⟩
              · rw [if_neg c7] at H
                exact absurd H (by simp)
            · rw [if_neg c5] at H
              exact absurd H (by simp)
          · rw [if_neg c4] at H
            exact absurd H (by simp)
        · rw [if_neg c3] at H
          have c3b0 : decide (0 < x4_1) = false := decide_eq_false c3
          clear c3
          by_cases c10 : 0 ≤ x4_1
          · rw [if_pos c10] at H
            have c10b0 : decide (0 ≤ x4_1) = true := decide_eq_true c10
            clear c10
            replace H := Option.bind_eq_some_iff.mp H
            obtain ⟨t187, A110, H⟩ := H
            replace H : (if x3_1.size + t187.size ≤ 9223372036854775807 then (spec_l08Text.l0 k1 (x3_1 ++ t187) (wrap64 (x4_1 + 1)) s0_0 s0_1) else (none)) = some r := H
            have A11 := Aside0.mk A110
            clear A110
            by_cases c12 : x3_1.size + t187.size ≤ 9223372036854775807
            · rw [if_pos c12] at H
              have c12b0 := eq_true c12
              have c12b1 : decide (x3_1.size + t187.size ≤ 9223372036854775807) = true := decide_eq_true c12
              try have c12b2 : (9223372036854775807 < x3_1.size + t187.size) = False := eq_false (Nat.not_lt.2 c12)
              have H' := Aside0.mk H
              clear H
              obtain ⟨ASz13_0, cSz13_0, ASz13_1, cSz13_1, HGz13, hgz13, HSz13_0, HSz13_1⟩ := HI0.out
              have hcz13_0 := cellS25_0 HGz13
              have hcz13_1 := cellS25_1 HGz13
              clear HGz13 hgz13
              have p186 : 0 ≤ (x4_1 : Int) := of_decide_eq_true (by first | (with_reducible assumption) | assumption)
              have q186 : x4_1 < (s0_0.length : Int) := of_decide_eq_true (by first | (with_reducible assumption) | assumption)
              obtain ⟨ad186, e186, hx186_0⟩ := Kd.at_int HSz13_0 x4_1 p186 q186
              cases e186
              replace hx186_0 := pw_cell_below HB.out hx186_0
              replace p186 := eq_true p186
              replace q186 := eq_true q186
              go_wp2_with (first | ((with_reducible refine gate_callee (f := 38) rfl ?_); refine goesL_ (some 28) rfl rfl Tryd.func38 (by kernel_rfl) rfl #[.int .i64 (rd s0_0 x4_1)] rfl (by (try simp only [List.map_toArray, List.map_cons, List.map_nil]); first | done | rfl | (simp only [List.length_drop, List.length_take]; rfl)) ?_; (with_reducible refine (spec_l01Dec.calls k1 (rd s0_0 x4_1) t187 _ A11.out).mono ?_); rintro e w14 ⟨rfl, hb⟩; refine ⟨_, rfl, ?_⟩; have n0_ := Aside0.mk (IsT25.below (by repeat (first | (with_reducible first | exact HI0.out | apply IsT25.alloc | apply IsT25.drewN | apply IsT25.drew) | exact HI0.out)) hb); have n1_ := Aside0.mk (KeepBut.trans (by repeat (first | (with_reducible first | exact HK.out | apply KeepBut.set_ | apply keep_drewN | apply keep_drew | apply keep_alloc) | exact HK.out)) (KeepBut.of_below hb g none) (.inl rfl)); have n2_ := Aside0.mk (below_step (by repeat (first | (with_reducible first | exact HB.out | apply below_alloc | apply pw_below_drewN | apply below_drew1 | refine below_set ?_ (IsT25.ge HI0.out)) | exact HB.out)) hb); clear HI0; clear HK; clear HB; have HI0 := n0_; have HK := n1_; have HB := n2_; clear n0_ n1_ n2_; (try clear hb); (try clear hb2); (try clear hk); (try clear hi)))
              go_roundg k1
              case measure => have := HK1.out; omega
              case rel => exact ⟨(x3_1 ++ t187), (wrap64 (x4_1 + 1)), (by first | rfl | (simp; done) | (simp [*]; done)), (by first | rfl | (simp; done) | (simp [*]; done)), H', ⟨by have := HK1.out; omega⟩, ⟨by repeat (first | (with_reducible first | exact HI0.out | apply IsT25.alloc | apply IsT25.drewN | apply IsT25.drew) | exact HI0.out)⟩, ⟨by repeat (first | (with_reducible first | exact HK.out | apply KeepBut.set_ | apply keep_drewN | apply keep_drew | apply keep_alloc) | exact HK.out)⟩, ⟨by repeat (first | (with_reducible first | exact HB.out | apply below_alloc | apply pw_below_drewN | apply below_drew1 | refine below_set ?_ (IsT25.ge HI0.out)) | exact HB.out)⟩⟩
            · rw [if_neg c12] at H
              exact absurd H (by simp)
          · rw [if_neg c10] at H
            exact absurd H (by simp)
      · rw [if_neg c2] at H
        have c2b0 : decide (x4_1 < (s0_0.length : Int)) = false := decide_eq_false c2
        clear c2
        by_cases c15 : x3_1.size + 1 ≤ 9223372036854775807
        · rw [if_pos c15] at H
          have c15b0 := eq_true c15
          have c15b1 : decide (x3_1.size + 1 ≤ 9223372036854775807) = true := decide_eq_true c15
          try have c15b2 : (9223372036854775807 < x3_1.size + 1) = False := eq_false (Nat.not_lt.2 c15)
          have H' := Aside0.mk H
          clear H
          obtain ⟨ASz16_0, cSz16_0, ASz16_1, cSz16_1, HGz16, hgz16, HSz16_0, HSz16_1⟩ := HI0.out
          have hcz16_0 := cellS25_0 HGz16
          have hcz16_1 := cellS25_1 HGz16
          clear HGz16 hgz16
          go_wp2
          go_loopg [3, 5] k1 (fun kq v3 v5 w' => ∃ (x3_2 : ByteArray) (x5_2 : Int), v3 = .string x3_2 ∧ v5 = .int .i64 x5_2 ∧ Aside0 (spec_l08Text.l1 kq x3_2 x5_2 s0_0 s0_1 = some r) ∧ Aside0 (kq ≤ k1) ∧ Aside0 (IsT25 w0 w' g s0_0 s0_1) ∧ Aside0 (KeepBut w w' g none) ∧ Aside0 (Below w0.heap.size w0 w'))
          case atStart => exact ⟨(x3_1 ++ (⟨#[47]⟩ : ByteArray)), (0), (by first | rfl | (simp; done) | (simp [*]; done)), (by first | rfl | (simp; done) | (simp [*]; done)), H', ⟨Nat.le_refl _⟩, ⟨by repeat (first | (with_reducible first | exact HI0.out | apply IsT25.alloc | apply IsT25.drewN | apply IsT25.drew) | exact HI0.out)⟩, ⟨by repeat (first | (with_reducible first | exact HK.out | apply KeepBut.set_ | apply keep_drewN | apply keep_drew | apply keep_alloc) | exact HK.out)⟩, ⟨by repeat (first | (with_reducible first | exact HB.out | apply below_alloc | apply pw_below_drewN | apply below_drew1 | refine below_set ?_ (IsT25.ge HI0.out)) | exact HB.out)⟩⟩
          case round =>
            clear H'
            try clear c1
            try clear p1
            try clear q1
            try clear hx1
            try clear c2
            try clear c2b0
            try clear p2
            try clear c3
            try clear c3b0
            try clear c4
            try clear c4b0
            try clear c4b1
            try clear c4b2
            try clear c5
            try clear c5b0
            try clear p6
            try clear c7
            try clear c7b0
            try clear c7b1
            try clear c7b2
            try clear c10
            try clear c10b0
            try clear c12
            try clear c12b0
            try clear c12b1
            try clear c12b2
            try clear c15
            try clear c15b0
            try clear c15b1
            try clear c15b2
            try clear hcz13_0
            try clear hcz13_1
            try clear hcz16_0
            try clear hcz16_1
            try clear hcz8_0
            try clear hcz8_1
            try clear hx184_0
            try clear hx186_0
            try clear p184
            try clear p186
            try clear q184
            try clear q186
            obtain ⟨x3_2, x5_2, rfl, rfl, HA, HK2, HI0, HK, HB⟩ := hrel
            cases gk with
            | zero => exact absurd HA.out (by simp [spec_l08Text.l1])
            | succ k2 =>
              have H := HA.out
              clear HA
              simp only [spec_l08Text.l1] at H
              by_cases c17 : x5_2 < (s0_1.length : Int)
              · rw [if_pos c17] at H
                have c17b0 : decide (x5_2 < (s0_1.length : Int)) = true := decide_eq_true c17
                clear c17
                by_cases c18 : 0 ≤ x5_2
                · rw [if_pos c18] at H
                  have c18b0 : decide (0 ≤ x5_2) = true := decide_eq_true c18
                  clear c18
                  by_cases c19 : x5_2 > 0
                  · rw [if_pos c19] at H
                    have c19b0 : decide (0 < x5_2) = true := decide_eq_true c19
                    clear c19
                    by_cases c20 : x3_2.size + 1 ≤ 9223372036854775807
                    · rw [if_pos c20] at H
                      have c20b0 := eq_true c20
                      have c20b1 : decide (x3_2.size + 1 ≤ 9223372036854775807) = true := decide_eq_true c20
                      try have c20b2 : (9223372036854775807 < x3_2.size + 1) = False := eq_false (Nat.not_lt.2 c20)
                      replace H := Option.bind_eq_some_iff.mp H
                      obtain ⟨t190, A210, H⟩ := H
                      replace H : (if t190.size + 1 ≤ 9223372036854775807 then ((spec_l01Dec.f k2 ((rd_T43 s0_1 x5_2).f1)).bind fun t191 => (if (t190 ++ (⟨#[46]⟩ : ByteArray)).size + t191.size ≤ 9223372036854775807 then (if ((t190 ++ (⟨#[46]⟩ : ByteArray)) ++ t191).size + 1 ≤ 9223372036854775807 then ((spec_l01Dec.f k2 ((rd_T43 s0_1 x5_2).f2)).bind fun t192 => (if (((t190 ++ (⟨#[46]⟩ : ByteArray)) ++ t191) ++ (⟨#[46]⟩ : ByteArray)).size + t192.size ≤ 9223372036854775807 then (if (x3_2 ++ (⟨#[44]⟩ : ByteArray)).size + ((((t190 ++ (⟨#[46]⟩ : ByteArray)) ++ t191) ++ (⟨#[46]⟩ : ByteArray)) ++ t192).size ≤ 9223372036854775807 then (spec_l08Text.l1 k2 ((x3_2 ++ (⟨#[44]⟩ : ByteArray)) ++ ((((t190 ++ (⟨#[46]⟩ : ByteArray)) ++ t191) ++ (⟨#[46]⟩ : ByteArray)) ++ t192)) (wrap64 (x5_2 + 1)) s0_0 s0_1) else (none)) else (none))) else (none)) else (none))) else (none)) = some r := H
                      have A21 := Aside0.mk A210
                      clear A210
                      by_cases c22 : t190.size + 1 ≤ 9223372036854775807
                      · rw [if_pos c22] at H
                        have c22b0 := eq_true c22
                        have c22b1 : decide (t190.size + 1 ≤ 9223372036854775807) = true := decide_eq_true c22
                        try have c22b2 : (9223372036854775807 < t190.size + 1) = False := eq_false (Nat.not_lt.2 c22)
                        replace H := Option.bind_eq_some_iff.mp H
                        obtain ⟨t191, A230, H⟩ := H
                        replace H : (if (t190 ++ (⟨#[46]⟩ : ByteArray)).size + t191.size ≤ 9223372036854775807 then (if ((t190 ++ (⟨#[46]⟩ : ByteArray)) ++ t191).size + 1 ≤ 9223372036854775807 then ((spec_l01Dec.f k2 ((rd_T43 s0_1 x5_2).f2)).bind fun t192 => (if (((t190 ++ (⟨#[46]⟩ : ByteArray)) ++ t191) ++ (⟨#[46]⟩ : ByteArray)).size + t192.size ≤ 9223372036854775807 then (if (x3_2 ++ (⟨#[44]⟩ : ByteArray)).size + ((((t190 ++ (⟨#[46]⟩ : ByteArray)) ++ t191) ++ (⟨#[46]⟩ : ByteArray)) ++ t192).size ≤ 9223372036854775807 then (spec_l08Text.l1 k2 ((x3_2 ++ (⟨#[44]⟩ : ByteArray)) ++ ((((t190 ++ (⟨#[46]⟩ : ByteArray)) ++ t191) ++ (⟨#[46]⟩ : ByteArray)) ++ t192)) (wrap64 (x5_2 + 1)) s0_0 s0_1) else (none)) else (none))) else (none)) else (none)) = some r := H
                        have A23 := Aside0.mk A230
                        clear A230
                        by_cases c24 : (t190 ++ (⟨#[46]⟩ : ByteArray)).size + t191.size ≤ 9223372036854775807
                        · rw [if_pos c24] at H
                          have c24b0 := eq_true c24
                          have c24b1 : decide ((t190 ++ (⟨#[46]⟩ : ByteArray)).size + t191.size ≤ 9223372036854775807) = true := decide_eq_true c24
                          try have c24b2 : (9223372036854775807 < (t190 ++ (⟨#[46]⟩ : ByteArray)).size + t191.size) = False := eq_false (Nat.not_lt.2 c24)
                          have c24b3 : (9223372036854775807 < t190.size + 1 + t191.size) = False := eq_false (by have h := c24; simp only [ByteArray.size_append] at h; exact Nat.not_lt.2 h)
                          by_cases c25 : ((t190 ++ (⟨#[46]⟩ : ByteArray)) ++ t191).size + 1 ≤ 9223372036854775807
                          · rw [if_pos c25] at H
                            have c25b0 := eq_true c25
                            have c25b1 : decide (((t190 ++ (⟨#[46]⟩ : ByteArray)) ++ t191).size + 1 ≤ 9223372036854775807) = true := decide_eq_true c25
                            try have c25b2 : (9223372036854775807 < ((t190 ++ (⟨#[46]⟩ : ByteArray)) ++ t191).size + 1) = False := eq_false (Nat.not_lt.2 c25)
                            have c25b3 : (9223372036854775807 < t190.size + 1 + t191.size + 1) = False := eq_false (by have h := c25; simp only [ByteArray.size_append] at h; exact Nat.not_lt.2 h)
                            replace H := Option.bind_eq_some_iff.mp H
                            obtain ⟨t192, A260, H⟩ := H
                            replace H : (if (((t190 ++ (⟨#[46]⟩ : ByteArray)) ++ t191) ++ (⟨#[46]⟩ : ByteArray)).size + t192.size ≤ 9223372036854775807 then (if (x3_2 ++ (⟨#[44]⟩ : ByteArray)).size + ((((t190 ++ (⟨#[46]⟩ : ByteArray)) ++ t191) ++ (⟨#[46]⟩ : ByteArray)) ++ t192).size ≤ 9223372036854775807 then (spec_l08Text.l1 k2 ((x3_2 ++ (⟨#[44]⟩ : ByteArray)) ++ ((((t190 ++ (⟨#[46]⟩ : ByteArray)) ++ t191) ++ (⟨#[46]⟩ : ByteArray)) ++ t192)) (wrap64 (x5_2 + 1)) s0_0 s0_1) else (none)) else (none)) = some r := H
                            have A26 := Aside0.mk A260
                            clear A260
                            by_cases c27 : (((t190 ++ (⟨#[46]⟩ : ByteArray)) ++ t191) ++ (⟨#[46]⟩ : ByteArray)).size + t192.size ≤ 9223372036854775807
                            · rw [if_pos c27] at H
                              have c27b0 := eq_true c27
                              have c27b1 : decide ((((t190 ++ (⟨#[46]⟩ : ByteArray)) ++ t191) ++ (⟨#[46]⟩ : ByteArray)).size + t192.size ≤ 9223372036854775807) = true := decide_eq_true c27
                              try have c27b2 : (9223372036854775807 < (((t190 ++ (⟨#[46]⟩ : ByteArray)) ++ t191) ++ (⟨#[46]⟩ : ByteArray)).size + t192.size) = False := eq_false (Nat.not_lt.2 c27)
                              have c27b3 : (9223372036854775807 < t190.size + 1 + t191.size + 1 + t192.size) = False := eq_false (by have h := c27; simp only [ByteArray.size_append] at h; exact Nat.not_lt.2 h)
                              by_cases c28 : (x3_2 ++ (⟨#[44]⟩ : ByteArray)).size + ((((t190 ++ (⟨#[46]⟩ : ByteArray)) ++ t191) ++ (⟨#[46]⟩ : ByteArray)) ++ t192).size ≤ 9223372036854775807
                              · rw [if_pos c28] at H
                                have c28b0 := eq_true c28
                                have c28b1 : decide ((x3_2 ++ (⟨#[44]⟩ : ByteArray)).size + ((((t190 ++ (⟨#[46]⟩ : ByteArray)) ++ t191) ++ (⟨#[46]⟩ : ByteArray)) ++ t192).size ≤ 9223372036854775807) = true := decide_eq_true c28
                                try have c28b2 : (9223372036854775807 < (x3_2 ++ (⟨#[44]⟩ : ByteArray)).size + ((((t190 ++ (⟨#[46]⟩ : ByteArray)) ++ t191) ++ (⟨#[46]⟩ : ByteArray)) ++ t192).size) = False := eq_false (Nat.not_lt.2 c28)
                                have c28b3 : (9223372036854775807 < x3_2.size + 1 + (t190.size + 1 + t191.size + 1 + t192.size)) = False := eq_false (by have h := c28; simp only [ByteArray.size_append] at h; exact Nat.not_lt.2 h)
                                have H' := Aside0.mk H
                                clear H
                                obtain ⟨ASz29_0, cSz29_0, ASz29_1, cSz29_1, HGz29, hgz29, HSz29_0, HSz29_1⟩ := HI0.out
                                have hcz29_0 := cellS25_0 HGz29
                                have hcz29_1 := cellS25_1 HGz29
                                clear HGz29 hgz29
                                have p188 : 0 ≤ (x5_2 : Int) := of_decide_eq_true (by first | (with_reducible assumption) | assumption)
                                have q188 : x5_2 < (s0_1.length : Int) := of_decide_eq_true (by first | (with_reducible assumption) | assumption)
                                obtain ⟨ad188, e188, hx188_0, hx188_1, hx188_2⟩ := at_T43 HSz29_1 x5_2 p188 q188
                                cases e188
                                replace hx188_0 := pw_cell_below HB.out hx188_0
                                replace hx188_1 := pw_cell_below HB.out hx188_1
                                replace hx188_2 := pw_cell_below HB.out hx188_2
                                replace p188 := eq_true p188
                                replace q188 := eq_true q188
                                try go_wp2_with (first | ((with_reducible refine gate_dst (N := 6) rfl ?_); refine box_event ?hg (N := 6) ?hd (cs := #[.int .i64 0, .int .i64 0, .int .i64 0]) (t := 43) ?hr ?_; (case hd => rfl); (case hg => rfl); (case hr => first | (go_simp; done) | (go_simp; rfl)); intro gb189 hg w30 hbox hb; have n0_ := Aside0.mk (IsT25.below (by repeat (first | (with_reducible first | exact HI0.out | apply IsT25.alloc | apply IsT25.drewN | apply IsT25.drew) | exact HI0.out)) hb); have n1_ := Aside0.mk (KeepBut.trans (by repeat (first | (with_reducible first | exact HK.out | apply KeepBut.set_ | apply keep_drewN | apply keep_drew | apply keep_alloc) | exact HK.out)) (KeepBut.of_below hb g none) (.inl rfl)); have n2_ := Aside0.mk (below_step (by repeat (first | (with_reducible first | exact HB.out | apply below_alloc | apply pw_below_drewN | apply below_drew1 | refine below_set ?_ (IsT25.ge HI0.out)) | exact HB.out)) hb); have n3_ := Aside0.mk (hbox); have n4_ := Aside0.mk ((by rw [hg]; exact (keep_size (w := w) (g := g) (row := none) (by repeat (first | (with_reducible first | exact HK.out | apply KeepBut.set_ | apply keep_drewN | apply keep_drew | apply keep_alloc) | exact HK.out))) : w.heap.size ≤ gb189)); have n5_ := Aside0.mk ((Nat.le_trans HW0.out (by rw [hg]; exact (keep_size (w := w) (g := g) (row := none) (by repeat (first | (with_reducible first | exact HK.out | apply KeepBut.set_ | apply keep_drewN | apply keep_drew | apply keep_alloc) | exact HK.out))) : w.heap.size ≤ gb189) : w0.heap.size ≤ gb189)); have n6_ := Aside0.mk ((by rw [hg]; exact Nat.ne_of_lt (IsT25.lt (show IsT25 w0 _ g s0_0 s0_1 from by repeat (first | (with_reducible first | exact HI0.out | apply IsT25.alloc | apply IsT25.drewN | apply IsT25.drew) | exact HI0.out))) : g ≠ gb189)); have n7_ := Aside0.mk ((by rw [hg]; exact Nat.ne_of_gt (IsT25.lt (show IsT25 w0 _ g s0_0 s0_1 from by repeat (first | (with_reducible first | exact HI0.out | apply IsT25.alloc | apply IsT25.drewN | apply IsT25.drew) | exact HI0.out))) : gb189 ≠ g)); clear HI0; clear HK; clear HB; have HI0 := n0_; have HK := n1_; have HB := n2_; have BK189 := n3_; have GW189 := n4_; have GE189 := n5_; have NB0_189 := n6_; have NB189_0 := n7_; clear n0_ n1_ n2_ n3_ n4_ n5_ n6_ n7_; clear hb hbox hg; have hnb31 := NB189_0.out; have hnc31 := NB0_189.out; have hcz32_0 : w30.cell? ⟨gb189, 0, none⟩ = some (.int .i64 0) := (blk_cell BK189.out 0).trans rfl; have hcz32_1 : w30.cell? ⟨gb189, 1, none⟩ = some (.int .i64 0) := (blk_cell BK189.out 1).trans rfl; have hcz32_2 : w30.cell? ⟨gb189, 2, none⟩ = some (.int .i64 0) := (blk_cell BK189.out 2).trans rfl; have hfz32_0 := blk_frozen BK189.out 0; have hfz32_1 := blk_frozen BK189.out 1; have hfz32_2 := blk_frozen BK189.out 2))
                                have n0_ : Aside0 ((((w30.setCell ⟨gb189, 0, none⟩ (.int .i64 ((rd_T43 s0_1 x5_2).f0))).setCell ⟨gb189, 1, none⟩ (.int .i64 ((rd_T43 s0_1 x5_2).f1))).setCell ⟨gb189, 2, none⟩ (.int .i64 ((rd_T43 s0_1 x5_2).f2))).heap[gb189]? = some (.cells #[.int .i64 ((rd_T43 s0_1 x5_2).f0), .int .i64 ((rd_T43 s0_1 x5_2).f1), .int .i64 ((rd_T43 s0_1 x5_2).f2)] 43 (0, 0))) := ⟨by (with_reducible repeat (first | refine blk_drewN ?_ _ | refine blk_drew ?_ | refine blk_alloc ?_ _)); refine blk_put (cs := #[.int .i64 ((rd_T43 s0_1 x5_2).f0), .int .i64 ((rd_T43 s0_1 x5_2).f1), .int .i64 0]) ?_ 2 _ rfl; (with_reducible repeat (first | refine blk_drewN ?_ _ | refine blk_drew ?_ | refine blk_alloc ?_ _)); refine blk_put (cs := #[.int .i64 ((rd_T43 s0_1 x5_2).f0), .int .i64 0, .int .i64 0]) ?_ 1 _ rfl; (with_reducible repeat (first | refine blk_drewN ?_ _ | refine blk_drew ?_ | refine blk_alloc ?_ _)); refine blk_put (cs := #[.int .i64 0, .int .i64 0, .int .i64 0]) ?_ 0 _ rfl; (with_reducible repeat (first | refine blk_drewN ?_ _ | refine blk_drew ?_ | refine blk_alloc ?_ _)); exact BK189.out⟩
                                have n1_ : Aside0 (IsT25 w0 (((w30.setCell ⟨gb189, 0, none⟩ (.int .i64 ((rd_T43 s0_1 x5_2).f0))).setCell ⟨gb189, 1, none⟩ (.int .i64 ((rd_T43 s0_1 x5_2).f1))).setCell ⟨gb189, 2, none⟩ (.int .i64 ((rd_T43 s0_1 x5_2).f2))) g s0_0 s0_1) := ⟨by repeat (first | (with_reducible first | exact HI0.out | apply IsT25.alloc | apply IsT25.drewN | apply IsT25.drew | refine IsT25.far ?_ NB0_189.out _) | exact HI0.out)⟩
                                have n2_ : Aside0 (KeepBut w (((w30.setCell ⟨gb189, 0, none⟩ (.int .i64 ((rd_T43 s0_1 x5_2).f0))).setCell ⟨gb189, 1, none⟩ (.int .i64 ((rd_T43 s0_1 x5_2).f1))).setCell ⟨gb189, 2, none⟩ (.int .i64 ((rd_T43 s0_1 x5_2).f2))) g none) := ⟨by repeat (first | (with_reducible first | exact HK.out | apply KeepBut.set_ | apply keep_drewN | apply keep_drew | apply keep_alloc | refine keep_far ?_ GW189.out _) | exact HK.out)⟩
                                have n3_ : Aside0 (Below w0.heap.size w0 (((w30.setCell ⟨gb189, 0, none⟩ (.int .i64 ((rd_T43 s0_1 x5_2).f0))).setCell ⟨gb189, 1, none⟩ (.int .i64 ((rd_T43 s0_1 x5_2).f1))).setCell ⟨gb189, 2, none⟩ (.int .i64 ((rd_T43 s0_1 x5_2).f2)))) := ⟨by repeat (first | (with_reducible first | exact HB.out | apply below_alloc | apply pw_below_drewN | apply below_drew1 | refine below_set ?_ (IsT25.ge HI0.out) | refine below_set ?_ GE189.out) | exact HB.out)⟩
                                (try clear BK189)
                                (try clear HI0)
                                (try clear HK)
                                (try clear HB)
                                generalize (((w30.setCell ⟨gb189, 0, none⟩ (.int .i64 ((rd_T43 s0_1 x5_2).f0))).setCell ⟨gb189, 1, none⟩ (.int .i64 ((rd_T43 s0_1 x5_2).f1))).setCell ⟨gb189, 2, none⟩ (.int .i64 ((rd_T43 s0_1 x5_2).f2))) = w33 at n0_ n1_ n2_ n3_ ⊢
                                have BK189 := n0_
                                have HI0 := n1_
                                have HK := n2_
                                have HB := n3_
                                clear n0_ n1_ n2_ n3_
                                have n0_ := Aside0.mk (blk_drew BK189.out)
                                have n1_ := Aside0.mk (IsT25.drew HI0.out)
                                have n2_ := Aside0.mk (keep_drew HK.out)
                                have n3_ := Aside0.mk (below_drew1 HB.out)
                                clear BK189
                                clear HI0
                                clear HK
                                clear HB
                                have BK189 := n0_
                                have HI0 := n1_
                                have HK := n2_
                                have HB := n3_
                                clear n0_ n1_ n2_ n3_
                                refine start_ (n := 16) (S := fun w' => w'.cell? ⟨gb189, 0, none⟩ = some (.int .i64 ((rd_T43 s0_1 x5_2).f0)) ∧ w'.cell? ⟨gb189, 1, none⟩ = some (.int .i64 ((rd_T43 s0_1 x5_2).f1)) ∧ w'.cell? ⟨gb189, 2, none⟩ = some (.int .i64 ((rd_T43 s0_1 x5_2).f2))) (ds := []) #[false, false, false, false, false, false, false, false, false, false, false, false, false, false, false, false] (by kernel_rfl) rfl rfl ⟨(blk_cell BK189.out 0).trans rfl, (blk_cell BK189.out 1).trans rfl, (blk_cell BK189.out 2).trans rfl⟩ (fun hHeld => ?_); refine with_tabW spec_l08Text.tab15 spec_l08Text.bits15 (fun HT_ HW_ => ?_)
                                generalize w33.drew = w34 at BK189 HI0 HK HB hHeld ⊢
                                refine pure_ (i := 0) (N := some 52) (v := ?_) (a' := ?_) #[true, false, false, false, false, false, false, false, false, false, false, false, false, false, false, false] rfl rfl (any_of HT_.out (by kernel_rfl)) (fun _ _ _ h => h) (Or.inl ⟨by rfl, ?_⟩) ?_ ?_
                                rotate_left
                                · intro w'
                                  go_simp
                                  with_reducible rfl
                                rotate_left
                                · simp only [Act.put, List.setIfInBounds_toArray, List.set_cons_zero, List.set_cons_succ, i64_w, i32_w]
                                  rfl
                                refine pure_ (i := 1) (N := some 53) (v := ?_) (a' := ?_) #[true, true, false, false, false, false, false, false, false, false, false, false, false, false, false, false] rfl rfl (any_of HT_.out (by kernel_rfl)) (fun _ _ _ h => h) (Or.inl ⟨by rfl, ?_⟩) ?_ ?_
                                rotate_left
                                · intro w'
                                  go_simp
                                  with_reducible rfl
                                rotate_left
                                · simp only [Act.put, List.setIfInBounds_toArray, List.set_cons_zero, List.set_cons_succ, i64_w, i32_w]
                                  rfl
                                refine pure_ (i := 5) (N := some 57) (v := ?_) (a' := ?_) #[true, true, false, false, false, true, false, false, false, false, false, false, false, false, false, false] rfl rfl (any_of HT_.out (by kernel_rfl)) (fun _ _ _ h => h) (Or.inl ⟨by rfl, ?_⟩) ?_ ?_
                                rotate_left
                                · intro w'
                                  go_simp
                                  with_reducible rfl
                                rotate_left
                                · simp only [Act.put, List.setIfInBounds_toArray, List.set_cons_zero, List.set_cons_succ, i64_w, i32_w]
                                  rfl
                                refine pure_ (i := 10) (N := some 62) (v := ?_) (a' := ?_) #[true, true, false, false, false, true, false, false, false, false, true, false, false, false, false, false] rfl rfl (any_of HT_.out (by kernel_rfl)) (fun _ _ _ h => h) (Or.inl ⟨by rfl, ?_⟩) ?_ ?_
                                rotate_left
                                · intro w'
                                  go_simp
                                  with_reducible rfl
                                rotate_left
                                · simp only [Act.put, List.setIfInBounds_toArray, List.set_cons_zero, List.set_cons_succ, i64_w, i32_w]
                                  rfl
                                refine take_ (i := 2) (N := some 54) (v := ?_) (a' := ?_) #[true, true, true, false, false, true, false, false, false, false, true, false, false, false, false, false] rfl rfl (take_ofW HT_.out HW_.out (by kernel_rfl)) (fun _ _ _ h => h) (Or.inl ⟨by rfl, ?_⟩) hHeld ?_ ?_
                                rotate_left
                                · rintro w' ⟨s0, s1, s2⟩
                                  go_simp
                                  with_reducible rfl
                                rotate_left
                                · simp only [Act.put, List.setIfInBounds_toArray, List.set_cons_zero, List.set_cons_succ, i64_w, i32_w]
                                  rfl
                                refine take_ (i := 6) (N := some 58) (v := ?_) (a' := ?_) #[true, true, true, false, false, true, true, false, false, false, true, false, false, false, false, false] rfl rfl (take_ofW HT_.out HW_.out (by kernel_rfl)) (fun _ _ _ h => h) (Or.inl ⟨by rfl, ?_⟩) hHeld ?_ ?_
                                rotate_left
                                · rintro w' ⟨s0, s1, s2⟩
                                  go_simp
                                  with_reducible rfl
                                rotate_left
                                · simp only [Act.put, List.setIfInBounds_toArray, List.set_cons_zero, List.set_cons_succ, i64_w, i32_w]
                                  rfl
                                refine take_ (i := 11) (N := some 63) (v := ?_) (a' := ?_) #[true, true, true, false, false, true, true, false, false, false, true, true, false, false, false, false] rfl rfl (take_ofW HT_.out HW_.out (by kernel_rfl)) (fun _ _ _ h => h) (Or.inl ⟨by rfl, ?_⟩) hHeld ?_ ?_
                                rotate_left
                                · rintro w' ⟨s0, s1, s2⟩
                                  go_simp
                                  with_reducible rfl
                                rotate_left
                                · simp only [Act.put, List.setIfInBounds_toArray, List.set_cons_zero, List.set_cons_succ, i64_w, i32_w]
                                  rfl
                                refine one_ (i := 3) (N := some 55) #[true, true, true, true, false, true, true, false, false, false, true, true, false, false, false, false] rfl rfl (one_of HT_.out (by kernel_rfl)) (by decide) (fun K hK => ?_)
                                refine goes_ Tryd.func38 (by kernel_rfl) rfl #[.int .i64 ((rd_T43 s0_1 x5_2).f0)] (by rfl) rfl rfl (by (try simp only [List.map_toArray, List.map_cons, List.map_nil]); first | done | rfl | (simp only [List.length_drop, List.length_take]; rfl)) ?_
                                with_reducible refine (spec_l01Dec.calls k2 ((rd_T43 s0_1 x5_2).f0) t190 _ A21.out).mono ?_
                                rintro e w35 ⟨rfl, hb⟩
                                refine ⟨_, rfl, ?_⟩
                                have n0_ := Aside0.mk (IsT25.below (by repeat (first | (with_reducible first | exact HI0.out | apply IsT25.alloc | apply IsT25.drewN | apply IsT25.drew | refine IsT25.far ?_ NB0_189.out _) | exact HI0.out)) hb)
                                have n1_ := Aside0.mk (blk_below (g := gb189) (o := .cells #[.int .i64 ((rd_T43 s0_1 x5_2).f0), .int .i64 ((rd_T43 s0_1 x5_2).f1), .int .i64 ((rd_T43 s0_1 x5_2).f2)] 43 (0, 0)) (by (with_reducible repeat (first | refine blk_drewN ?_ _ | refine blk_drew ?_ | refine blk_alloc ?_ _)); exact BK189.out) hb)
                                have n2_ := Aside0.mk (KeepBut.trans (by repeat (first | (with_reducible first | exact HK.out | apply KeepBut.set_ | apply keep_drewN | apply keep_drew | apply keep_alloc | refine keep_far ?_ GW189.out _) | exact HK.out)) (KeepBut.of_below hb g none) (.inl rfl))
                                have n3_ := Aside0.mk (below_step (by repeat (first | (with_reducible first | exact HB.out | apply below_alloc | apply pw_below_drewN | apply below_drew1 | refine below_set ?_ (IsT25.ge HI0.out) | refine below_set ?_ GE189.out) | exact HB.out)) hb)
                                clear HI0
                                clear BK189
                                clear HK
                                clear HB
                                have HI0 := n0_
                                have BK189 := n1_
                                have HK := n2_
                                have HB := n3_
                                clear n0_ n1_ n2_ n3_
                                (try clear hb)
                                (try clear hb2)
                                (try clear hk)
                                (try clear hi)
                                refine hK.out _ _ ⟨(blk_cell BK189.out 0).trans rfl, (blk_cell BK189.out 1).trans rfl, (blk_cell BK189.out 2).trans rfl⟩ (fun hHeld => ?_)
                                clear hK K
                                refine norm_ (a' := ?_) ?_ ?_
                                rotate_left
                                · show Act.put _ (some 55) _ = _
                                  simp only [Act.put, List.setIfInBounds_toArray, List.set_cons_zero, List.set_cons_succ, i64_w, i32_w]
                                  rfl
                                refine pure_ (i := 4) (N := some 56) (v := ?_) (a' := ?_) #[true, true, true, true, true, true, true, false, false, false, true, true, false, false, false, false] rfl rfl (any_of HT_.out (by kernel_rfl)) (fun _ _ _ h => h) (Or.inl ⟨by rfl, ?_⟩) ?_ ?_
                                rotate_left
                                · intro w'
                                  go_simp
                                  with_reducible rfl
                                rotate_left
                                · simp only [Act.put, List.setIfInBounds_toArray, List.set_cons_zero, List.set_cons_succ, i64_w, i32_w]
                                  rfl
                                refine one_ (i := 7) (N := some 59) #[true, true, true, true, true, true, true, true, false, false, true, true, false, false, false, false] rfl rfl (one_of HT_.out (by kernel_rfl)) (by decide) (fun K hK => ?_)
                                refine goes_ Tryd.func38 (by kernel_rfl) rfl #[.int .i64 ((rd_T43 s0_1 x5_2).f1)] (by rfl) rfl rfl (by (try simp only [List.map_toArray, List.map_cons, List.map_nil]); first | done | rfl | (simp only [List.length_drop, List.length_take]; rfl)) ?_
                                with_reducible refine (spec_l01Dec.calls k2 ((rd_T43 s0_1 x5_2).f1) t191 _ A23.out).mono ?_
                                rintro e w36 ⟨rfl, hb⟩
                                refine ⟨_, rfl, ?_⟩
                                have n0_ := Aside0.mk (IsT25.below (by repeat (first | (with_reducible first | exact HI0.out | apply IsT25.alloc | apply IsT25.drewN | apply IsT25.drew | refine IsT25.far ?_ NB0_189.out _) | exact HI0.out)) hb)
                                have n1_ := Aside0.mk (blk_below (g := gb189) (o := .cells #[.int .i64 ((rd_T43 s0_1 x5_2).f0), .int .i64 ((rd_T43 s0_1 x5_2).f1), .int .i64 ((rd_T43 s0_1 x5_2).f2)] 43 (0, 0)) (by (with_reducible repeat (first | refine blk_drewN ?_ _ | refine blk_drew ?_ | refine blk_alloc ?_ _)); exact BK189.out) hb)
                                have n2_ := Aside0.mk (KeepBut.trans (by repeat (first | (with_reducible first | exact HK.out | apply KeepBut.set_ | apply keep_drewN | apply keep_drew | apply keep_alloc | refine keep_far ?_ GW189.out _) | exact HK.out)) (KeepBut.of_below hb g none) (.inl rfl))
                                have n3_ := Aside0.mk (below_step (by repeat (first | (with_reducible first | exact HB.out | apply below_alloc | apply pw_below_drewN | apply below_drew1 | refine below_set ?_ (IsT25.ge HI0.out) | refine below_set ?_ GE189.out) | exact HB.out)) hb)
                                clear HI0
                                clear BK189
                                clear HK
                                clear HB
                                have HI0 := n0_
                                have BK189 := n1_
                                have HK := n2_
                                have HB := n3_
                                clear n0_ n1_ n2_ n3_
                                (try clear hb)
                                (try clear hb2)
                                (try clear hk)
                                (try clear hi)
                                refine hK.out _ _ ⟨(blk_cell BK189.out 0).trans rfl, (blk_cell BK189.out 1).trans rfl, (blk_cell BK189.out 2).trans rfl⟩ (fun hHeld => ?_)
                                clear hK K
                                refine norm_ (a' := ?_) ?_ ?_
                                rotate_left
                                · show Act.put _ (some 59) _ = _
                                  simp only [Act.put, List.setIfInBounds_toArray, List.set_cons_zero, List.set_cons_succ, i64_w, i32_w]
                                  rfl
                                refine pure_ (i := 8) (N := some 60) (v := ?_) (a' := ?_) #[true, true, true, true, true, true, true, true, true, false, true, true, false, false, false, false] rfl rfl (any_of HT_.out (by kernel_rfl)) (fun _ _ _ h => h) (Or.inl ⟨by rfl, ?_⟩) ?_ ?_
                                rotate_left
                                · intro w'
                                  go_simp
                                  with_reducible rfl
                                rotate_left
                                · simp only [Act.put, List.setIfInBounds_toArray, List.set_cons_zero, List.set_cons_succ, i64_w, i32_w]
                                  rfl
                                refine pure_ (i := 9) (N := some 61) (v := ?_) (a' := ?_) #[true, true, true, true, true, true, true, true, true, true, true, true, false, false, false, false] rfl rfl (any_of HT_.out (by kernel_rfl)) (fun _ _ _ h => h) (Or.inl ⟨by rfl, ?_⟩) ?_ ?_
                                rotate_left
                                · intro w'
                                  go_simp
                                  with_reducible rfl
                                rotate_left
                                · simp only [Act.put, List.setIfInBounds_toArray, List.set_cons_zero, List.set_cons_succ, i64_w, i32_w]
                                  rfl
                                refine one_ (i := 12) (N := some 64) #[true, true, true, true, true, true, true, true, true, true, true, true, true, false, false, false] rfl rfl (one_of HT_.out (by kernel_rfl)) (by decide) (fun K hK => ?_)
                                refine goes_ Tryd.func38 (by kernel_rfl) rfl #[.int .i64 ((rd_T43 s0_1 x5_2).f2)] (by rfl) rfl rfl (by (try simp only [List.map_toArray, List.map_cons, List.map_nil]); first | done | rfl | (simp only [List.length_drop, List.length_take]; rfl)) ?_
                                with_reducible refine (spec_l01Dec.calls k2 ((rd_T43 s0_1 x5_2).f2) t192 _ A26.out).mono ?_
                                rintro e w37 ⟨rfl, hb⟩
                                refine ⟨_, rfl, ?_⟩
                                have n0_ := Aside0.mk (IsT25.below (by repeat (first | (with_reducible first | exact HI0.out | apply IsT25.alloc | apply IsT25.drewN | apply IsT25.drew | refine IsT25.far ?_ NB0_189.out _) | exact HI0.out)) hb)
                                have n1_ := Aside0.mk (blk_below (g := gb189) (o := .cells #[.int .i64 ((rd_T43 s0_1 x5_2).f0), .int .i64 ((rd_T43 s0_1 x5_2).f1), .int .i64 ((rd_T43 s0_1 x5_2).f2)] 43 (0, 0)) (by (with_reducible repeat (first | refine blk_drewN ?_ _ | refine blk_drew ?_ | refine blk_alloc ?_ _)); exact BK189.out) hb)
                                have n2_ := Aside0.mk (KeepBut.trans (by repeat (first | (with_reducible first | exact HK.out | apply KeepBut.set_ | apply keep_drewN | apply keep_drew | apply keep_alloc | refine keep_far ?_ GW189.out _) | exact HK.out)) (KeepBut.of_below hb g none) (.inl rfl))
                                have n3_ := Aside0.mk (below_step (by repeat (first | (with_reducible first | exact HB.out | apply below_alloc | apply pw_below_drewN | apply below_drew1 | refine below_set ?_ (IsT25.ge HI0.out) | refine below_set ?_ GE189.out) | exact HB.out)) hb)
                                clear HI0
                                clear BK189
                                clear HK
                                clear HB
                                have HI0 := n0_
                                have BK189 := n1_
                                have HK := n2_
                                have HB := n3_
                                clear n0_ n1_ n2_ n3_
                                (try clear hb)
                                (try clear hb2)
                                (try clear hk)
                                (try clear hi)
                                refine hK.out _ _ ⟨(blk_cell BK189.out 0).trans rfl, (blk_cell BK189.out 1).trans rfl, (blk_cell BK189.out 2).trans rfl⟩ (fun hHeld => ?_)
                                clear hK K
                                refine norm_ (a' := ?_) ?_ ?_
                                rotate_left
                                · show Act.put _ (some 64) _ = _
                                  simp only [Act.put, List.setIfInBounds_toArray, List.set_cons_zero, List.set_cons_succ, i64_w, i32_w]
                                  rfl
                                refine pure_ (i := 13) (N := some 65) (v := ?_) (a' := ?_) #[true, true, true, true, true, true, true, true, true, true, true, true, true, true, false, false] rfl rfl (any_of HT_.out (by kernel_rfl)) (fun _ _ _ h => h) (Or.inl ⟨by rfl, ?_⟩) ?_ ?_
                                rotate_left
                                · intro w'
                                  go_simp
                                  with_reducible rfl
                                rotate_left
                                · simp only [Act.put, List.setIfInBounds_toArray, List.set_cons_zero, List.set_cons_succ, i64_w, i32_w]
                                  rfl
                                refine pure_ (i := 14) (N := some 66) (v := ?_) (a' := ?_) #[true, true, true, true, true, true, true, true, true, true, true, true, true, true, true, false] rfl rfl (any_of HT_.out (by kernel_rfl)) (fun _ _ _ h => h) (Or.inl ⟨by rfl, ?_⟩) ?_ ?_
                                rotate_left
                                · intro w'
                                  go_simp
                                  with_reducible rfl
                                rotate_left
                                · simp only [Act.put, List.setIfInBounds_toArray, List.set_cons_zero, List.set_cons_succ, i64_w, i32_w]
                                  rfl
                                refine pure_ (i := 15) (N := some 3) (v := ?_) (a' := ?_) #[true, true, true, true, true, true, true, true, true, true, true, true, true, true, true, true] rfl rfl (any_of HT_.out (by kernel_rfl)) (fun _ _ _ h => h) (Or.inl ⟨by rfl, ?_⟩) ?_ ?_
                                rotate_left
                                · intro w'
                                  go_simp
                                  with_reducible rfl
                                rotate_left
                                · simp only [Act.put, List.setIfInBounds_toArray, List.set_cons_zero, List.set_cons_succ, i64_w, i32_w]
                                  rfl
                                refine done_ (done_of HT_.out (by kernel_rfl)) ?_
                                try go_wp2
                                go_roundg k2
                                case measure => have := HK1.out; have := HK2.out; omega
                                case rel => exact ⟨((x3_2 ++ (⟨#[44]⟩ : ByteArray)) ++ ((((t190 ++ (⟨#[46]⟩ : ByteArray)) ++ t191) ++ (⟨#[46]⟩ : ByteArray)) ++ t192)), (wrap64 (x5_2 + 1)), (by first | rfl | (simp; done) | (simp [*]; done)), (by first | rfl | (simp; done) | (simp [*]; done)), H', ⟨by have := HK1.out; have := HK2.out; omega⟩, ⟨by repeat (first | (with_reducible first | exact HI0.out | apply IsT25.alloc | apply IsT25.drewN | apply IsT25.drew | refine IsT25.far ?_ NB0_189.out _) | exact HI0.out)⟩, ⟨by repeat (first | (with_reducible first | exact HK.out | apply KeepBut.set_ | apply keep_drewN | apply keep_drew | apply keep_alloc | refine keep_far ?_ GW189.out _) | exact HK.out)⟩, ⟨by repeat (first | (with_reducible first | exact HB.out | apply below_alloc | apply pw_below_drewN | apply below_drew1 | refine below_set ?_ (IsT25.ge HI0.out) | refine below_set ?_ GE189.out) | exact HB.out)⟩⟩
                              · rw [if_neg c28] at H
                                exact absurd H (by simp)
                            · rw [if_neg c27] at H
                              exact absurd H (by simp)
                          · rw [if_neg c25] at H
                            exact absurd H (by simp)
                        · rw [if_neg c24] at H
                          exact absurd H (by simp)
                      · rw [if_neg c22] at H
                        exact absurd H (by simp)
                    · rw [if_neg c20] at H
                      exact absurd H (by simp)
                  · rw [if_neg c19] at H
                    have c19b0 : decide (0 < x5_2) = false := decide_eq_false c19
                    clear c19
                    replace H := Option.bind_eq_some_iff.mp H
                    obtain ⟨t193, A380, H⟩ := H
                    replace H : (if t193.size + 1 ≤ 9223372036854775807 then ((spec_l01Dec.f k2 ((rd_T43 s0_1 x5_2).f1)).bind fun t194 => (if (t193 ++ (⟨#[46]⟩ : ByteArray)).size + t194.size ≤ 9223372036854775807 then (if ((t193 ++ (⟨#[46]⟩ : ByteArray)) ++ t194).size + 1 ≤ 9223372036854775807 then ((spec_l01Dec.f k2 ((rd_T43 s0_1 x5_2).f2)).bind fun t195 => (if (((t193 ++ (⟨#[46]⟩ : ByteArray)) ++ t194) ++ (⟨#[46]⟩ : ByteArray)).size + t195.size ≤ 9223372036854775807 then (if x3_2.size + ((((t193 ++ (⟨#[46]⟩ : ByteArray)) ++ t194) ++ (⟨#[46]⟩ : ByteArray)) ++ t195).size ≤ 9223372036854775807 then (spec_l08Text.l1 k2 (x3_2 ++ ((((t193 ++ (⟨#[46]⟩ : ByteArray)) ++ t194) ++ (⟨#[46]⟩ : ByteArray)) ++ t195)) (wrap64 (x5_2 + 1)) s0_0 s0_1) else (none)) else (none))) else (none)) else (none))) else (none)) = some r := H
                    have A38 := Aside0.mk A380
                    clear A380
                    by_cases c39 : t193.size + 1 ≤ 9223372036854775807
                    · rw [if_pos c39] at H
                      have c39b0 := eq_true c39
                      have c39b1 : decide (t193.size + 1 ≤ 9223372036854775807) = true := decide_eq_true c39
                      try have c39b2 : (9223372036854775807 < t193.size + 1) = False := eq_false (Nat.not_lt.2 c39)
                      replace H := Option.bind_eq_some_iff.mp H
                      obtain ⟨t194, A400, H⟩ := H
                      replace H : (if (t193 ++ (⟨#[46]⟩ : ByteArray)).size + t194.size ≤ 9223372036854775807 then (if ((t193 ++ (⟨#[46]⟩ : ByteArray)) ++ t194).size + 1 ≤ 9223372036854775807 then ((spec_l01Dec.f k2 ((rd_T43 s0_1 x5_2).f2)).bind fun t195 => (if (((t193 ++ (⟨#[46]⟩ : ByteArray)) ++ t194) ++ (⟨#[46]⟩ : ByteArray)).size + t195.size ≤ 9223372036854775807 then (if x3_2.size + ((((t193 ++ (⟨#[46]⟩ : ByteArray)) ++ t194) ++ (⟨#[46]⟩ : ByteArray)) ++ t195).size ≤ 9223372036854775807 then (spec_l08Text.l1 k2 (x3_2 ++ ((((t193 ++ (⟨#[46]⟩ : ByteArray)) ++ t194) ++ (⟨#[46]⟩ : ByteArray)) ++ t195)) (wrap64 (x5_2 + 1)) s0_0 s0_1) else (none)) else (none))) else (none)) else (none)) = some r := H
                      have A40 := Aside0.mk A400
                      clear A400
                      by_cases c41 : (t193 ++ (⟨#[46]⟩ : ByteArray)).size + t194.size ≤ 9223372036854775807
                      · rw [if_pos c41] at H
                        have c41b0 := eq_true c41
                        have c41b1 : decide ((t193 ++ (⟨#[46]⟩ : ByteArray)).size + t194.size ≤ 9223372036854775807) = true := decide_eq_true c41
                        try have c41b2 : (9223372036854775807 < (t193 ++ (⟨#[46]⟩ : ByteArray)).size + t194.size) = False := eq_false (Nat.not_lt.2 c41)
                        have c41b3 : (9223372036854775807 < t193.size + 1 + t194.size) = False := eq_false (by have h := c41; simp only [ByteArray.size_append] at h; exact Nat.not_lt.2 h)
                        by_cases c42 : ((t193 ++ (⟨#[46]⟩ : ByteArray)) ++ t194).size + 1 ≤ 9223372036854775807
                        · rw [if_pos c42] at H
                          have c42b0 := eq_true c42
                          have c42b1 : decide (((t193 ++ (⟨#[46]⟩ : ByteArray)) ++ t194).size + 1 ≤ 9223372036854775807) = true := decide_eq_true c42
                          try have c42b2 : (9223372036854775807 < ((t193 ++ (⟨#[46]⟩ : ByteArray)) ++ t194).size + 1) = False := eq_false (Nat.not_lt.2 c42)
                          have c42b3 : (9223372036854775807 < t193.size + 1 + t194.size + 1) = False := eq_false (by have h := c42; simp only [ByteArray.size_append] at h; exact Nat.not_lt.2 h)
                          replace H := Option.bind_eq_some_iff.mp H
                          obtain ⟨t195, A430, H⟩ := H
                          replace H : (if (((t193 ++ (⟨#[46]⟩ : ByteArray)) ++ t194) ++ (⟨#[46]⟩ : ByteArray)).size + t195.size ≤ 9223372036854775807 then (if x3_2.size + ((((t193 ++ (⟨#[46]⟩ : ByteArray)) ++ t194) ++ (⟨#[46]⟩ : ByteArray)) ++ t195).size ≤ 9223372036854775807 then (spec_l08Text.l1 k2 (x3_2 ++ ((((t193 ++ (⟨#[46]⟩ : ByteArray)) ++ t194) ++ (⟨#[46]⟩ : ByteArray)) ++ t195)) (wrap64 (x5_2 + 1)) s0_0 s0_1) else (none)) else (none)) = some r := H
                          have A43 := Aside0.mk A430
                          clear A430
                          by_cases c44 : (((t193 ++ (⟨#[46]⟩ : ByteArray)) ++ t194) ++ (⟨#[46]⟩ : ByteArray)).size + t195.size ≤ 9223372036854775807
                          · rw [if_pos c44] at H
                            have c44b0 := eq_true c44
                            have c44b1 : decide ((((t193 ++ (⟨#[46]⟩ : ByteArray)) ++ t194) ++ (⟨#[46]⟩ : ByteArray)).size + t195.size ≤ 9223372036854775807) = true := decide_eq_true c44
                            try have c44b2 : (9223372036854775807 < (((t193 ++ (⟨#[46]⟩ : ByteArray)) ++ t194) ++ (⟨#[46]⟩ : ByteArray)).size + t195.size) = False := eq_false (Nat.not_lt.2 c44)
                            have c44b3 : (9223372036854775807 < t193.size + 1 + t194.size + 1 + t195.size) = False := eq_false (by have h := c44; simp only [ByteArray.size_append] at h; exact Nat.not_lt.2 h)
                            by_cases c45 : x3_2.size + ((((t193 ++ (⟨#[46]⟩ : ByteArray)) ++ t194) ++ (⟨#[46]⟩ : ByteArray)) ++ t195).size ≤ 9223372036854775807
                            · rw [if_pos c45] at H
                              have c45b0 := eq_true c45
                              have c45b1 : decide (x3_2.size + ((((t193 ++ (⟨#[46]⟩ : ByteArray)) ++ t194) ++ (⟨#[46]⟩ : ByteArray)) ++ t195).size ≤ 9223372036854775807) = true := decide_eq_true c45
                              try have c45b2 : (9223372036854775807 < x3_2.size + ((((t193 ++ (⟨#[46]⟩ : ByteArray)) ++ t194) ++ (⟨#[46]⟩ : ByteArray)) ++ t195).size) = False := eq_false (Nat.not_lt.2 c45)
                              have c45b3 : (9223372036854775807 < x3_2.size + (t193.size + 1 + t194.size + 1 + t195.size)) = False := eq_false (by have h := c45; simp only [ByteArray.size_append] at h; exact Nat.not_lt.2 h)
                              have H' := Aside0.mk H
                              clear H
                              obtain ⟨ASz46_0, cSz46_0, ASz46_1, cSz46_1, HGz46, hgz46, HSz46_0, HSz46_1⟩ := HI0.out
                              have hcz46_0 := cellS25_0 HGz46
                              have hcz46_1 := cellS25_1 HGz46
                              clear HGz46 hgz46
                              have p188 : 0 ≤ (x5_2 : Int) := of_decide_eq_true (by first | (with_reducible assumption) | assumption)
                              have q188 : x5_2 < (s0_1.length : Int) := of_decide_eq_true (by first | (with_reducible assumption) | assumption)
                              obtain ⟨ad188, e188, hx188_0, hx188_1, hx188_2⟩ := at_T43 HSz46_1 x5_2 p188 q188
                              cases e188
                              replace hx188_0 := pw_cell_below HB.out hx188_0
                              replace hx188_1 := pw_cell_below HB.out hx188_1
                              replace hx188_2 := pw_cell_below HB.out hx188_2
                              replace p188 := eq_true p188
                              replace q188 := eq_true q188
                              try go_wp2_with (first | ((with_reducible refine gate_dst (N := 6) rfl ?_); refine box_event ?hg (N := 6) ?hd (cs := #[.int .i64 0, .int .i64 0, .int .i64 0]) (t := 43) ?hr ?_; (case hd => rfl); (case hg => rfl); (case hr => first | (go_simp; done) | (go_simp; rfl)); intro gb189 hg w47 hbox hb; have n0_ := Aside0.mk (IsT25.below (by repeat (first | (with_reducible first | exact HI0.out | apply IsT25.alloc | apply IsT25.drewN | apply IsT25.drew) | exact HI0.out)) hb); have n1_ := Aside0.mk (KeepBut.trans (by repeat (first | (with_reducible first | exact HK.out | apply KeepBut.set_ | apply keep_drewN | apply keep_drew | apply keep_alloc) | exact HK.out)) (KeepBut.of_below hb g none) (.inl rfl)); have n2_ := Aside0.mk (below_step (by repeat (first | (with_reducible first | exact HB.out | apply below_alloc | apply pw_below_drewN | apply below_drew1 | refine below_set ?_ (IsT25.ge HI0.out)) | exact HB.out)) hb); have n3_ := Aside0.mk (hbox); have n4_ := Aside0.mk ((by rw [hg]; exact (keep_size (w := w) (g := g) (row := none) (by repeat (first | (with_reducible first | exact HK.out | apply KeepBut.set_ | apply keep_drewN | apply keep_drew | apply keep_alloc) | exact HK.out))) : w.heap.size ≤ gb189)); have n5_ := Aside0.mk ((Nat.le_trans HW0.out (by rw [hg]; exact (keep_size (w := w) (g := g) (row := none) (by repeat (first | (with_reducible first | exact HK.out | apply KeepBut.set_ | apply keep_drewN | apply keep_drew | apply keep_alloc) | exact HK.out))) : w.heap.size ≤ gb189) : w0.heap.size ≤ gb189)); have n6_ := Aside0.mk ((by rw [hg]; exact Nat.ne_of_lt (IsT25.lt (show IsT25 w0 _ g s0_0 s0_1 from by repeat (first | (with_reducible first | exact HI0.out | apply IsT25.alloc | apply IsT25.drewN | apply IsT25.drew) | exact HI0.out))) : g ≠ gb189)); have n7_ := Aside0.mk ((by rw [hg]; exact Nat.ne_of_gt (IsT25.lt (show IsT25 w0 _ g s0_0 s0_1 from by repeat (first | (with_reducible first | exact HI0.out | apply IsT25.alloc | apply IsT25.drewN | apply IsT25.drew) | exact HI0.out))) : gb189 ≠ g)); clear HI0; clear HK; clear HB; have HI0 := n0_; have HK := n1_; have HB := n2_; have BK189 := n3_; have GW189 := n4_; have GE189 := n5_; have NB0_189 := n6_; have NB189_0 := n7_; clear n0_ n1_ n2_ n3_ n4_ n5_ n6_ n7_; clear hb hbox hg; have hnb48 := NB189_0.out; have hnc48 := NB0_189.out; have hcz49_0 : w47.cell? ⟨gb189, 0, none⟩ = some (.int .i64 0) := (blk_cell BK189.out 0).trans rfl; have hcz49_1 : w47.cell? ⟨gb189, 1, none⟩ = some (.int .i64 0) := (blk_cell BK189.out 1).trans rfl; have hcz49_2 : w47.cell? ⟨gb189, 2, none⟩ = some (.int .i64 0) := (blk_cell BK189.out 2).trans rfl; have hfz49_0 := blk_frozen BK189.out 0; have hfz49_1 := blk_frozen BK189.out 1; have hfz49_2 := blk_frozen BK189.out 2))
                              have n0_ : Aside0 ((((w47.setCell ⟨gb189, 0, none⟩ (.int .i64 ((rd_T43 s0_1 x5_2).f0))).setCell ⟨gb189, 1, none⟩ (.int .i64 ((rd_T43 s0_1 x5_2).f1))).setCell ⟨gb189, 2, none⟩ (.int .i64 ((rd_T43 s0_1 x5_2).f2))).heap[gb189]? = some (.cells #[.int .i64 ((rd_T43 s0_1 x5_2).f0), .int .i64 ((rd_T43 s0_1 x5_2).f1), .int .i64 ((rd_T43 s0_1 x5_2).f2)] 43 (0, 0))) := ⟨by (with_reducible repeat (first | refine blk_drewN ?_ _ | refine blk_drew ?_ | refine blk_alloc ?_ _)); refine blk_put (cs := #[.int .i64 ((rd_T43 s0_1 x5_2).f0), .int .i64 ((rd_T43 s0_1 x5_2).f1), .int .i64 0]) ?_ 2 _ rfl; (with_reducible repeat (first | refine blk_drewN ?_ _ | refine blk_drew ?_ | refine blk_alloc ?_ _)); refine blk_put (cs := #[.int .i64 ((rd_T43 s0_1 x5_2).f0), .int .i64 0, .int .i64 0]) ?_ 1 _ rfl; (with_reducible repeat (first | refine blk_drewN ?_ _ | refine blk_drew ?_ | refine blk_alloc ?_ _)); refine blk_put (cs := #[.int .i64 0, .int .i64 0, .int .i64 0]) ?_ 0 _ rfl; (with_reducible repeat (first | refine blk_drewN ?_ _ | refine blk_drew ?_ | refine blk_alloc ?_ _)); exact BK189.out⟩
                              have n1_ : Aside0 (IsT25 w0 (((w47.setCell ⟨gb189, 0, none⟩ (.int .i64 ((rd_T43 s0_1 x5_2).f0))).setCell ⟨gb189, 1, none⟩ (.int .i64 ((rd_T43 s0_1 x5_2).f1))).setCell ⟨gb189, 2, none⟩ (.int .i64 ((rd_T43 s0_1 x5_2).f2))) g s0_0 s0_1) := ⟨by repeat (first | (with_reducible first | exact HI0.out | apply IsT25.alloc | apply IsT25.drewN | apply IsT25.drew | refine IsT25.far ?_ NB0_189.out _) | exact HI0.out)⟩
                              have n2_ : Aside0 (KeepBut w (((w47.setCell ⟨gb189, 0, none⟩ (.int .i64 ((rd_T43 s0_1 x5_2).f0))).setCell ⟨gb189, 1, none⟩ (.int .i64 ((rd_T43 s0_1 x5_2).f1))).setCell ⟨gb189, 2, none⟩ (.int .i64 ((rd_T43 s0_1 x5_2).f2))) g none) := ⟨by repeat (first | (with_reducible first | exact HK.out | apply KeepBut.set_ | apply keep_drewN | apply keep_drew | apply keep_alloc | refine keep_far ?_ GW189.out _) | exact HK.out)⟩
                              have n3_ : Aside0 (Below w0.heap.size w0 (((w47.setCell ⟨gb189, 0, none⟩ (.int .i64 ((rd_T43 s0_1 x5_2).f0))).setCell ⟨gb189, 1, none⟩ (.int .i64 ((rd_T43 s0_1 x5_2).f1))).setCell ⟨gb189, 2, none⟩ (.int .i64 ((rd_T43 s0_1 x5_2).f2)))) := ⟨by repeat (first | (with_reducible first | exact HB.out | apply below_alloc | apply pw_below_drewN | apply below_drew1 | refine below_set ?_ (IsT25.ge HI0.out) | refine below_set ?_ GE189.out) | exact HB.out)⟩
                              (try clear BK189)
                              (try clear HI0)
                              (try clear HK)
                              (try clear HB)
                              generalize (((w47.setCell ⟨gb189, 0, none⟩ (.int .i64 ((rd_T43 s0_1 x5_2).f0))).setCell ⟨gb189, 1, none⟩ (.int .i64 ((rd_T43 s0_1 x5_2).f1))).setCell ⟨gb189, 2, none⟩ (.int .i64 ((rd_T43 s0_1 x5_2).f2))) = w50 at n0_ n1_ n2_ n3_ ⊢
                              have BK189 := n0_
                              have HI0 := n1_
                              have HK := n2_
                              have HB := n3_
                              clear n0_ n1_ n2_ n3_
                              have n0_ := Aside0.mk (blk_drew BK189.out)
                              have n1_ := Aside0.mk (IsT25.drew HI0.out)
                              have n2_ := Aside0.mk (keep_drew HK.out)
                              have n3_ := Aside0.mk (below_drew1 HB.out)
                              clear BK189
                              clear HI0
                              clear HK
                              clear HB
                              have BK189 := n0_
                              have HI0 := n1_
                              have HK := n2_
                              have HB := n3_
                              clear n0_ n1_ n2_ n3_
                              refine start_ (n := 16) (S := fun w' => w'.cell? ⟨gb189, 0, none⟩ = some (.int .i64 ((rd_T43 s0_1 x5_2).f0)) ∧ w'.cell? ⟨gb189, 1, none⟩ = some (.int .i64 ((rd_T43 s0_1 x5_2).f1)) ∧ w'.cell? ⟨gb189, 2, none⟩ = some (.int .i64 ((rd_T43 s0_1 x5_2).f2))) (ds := []) #[false, false, false, false, false, false, false, false, false, false, false, false, false, false, false, false] (by kernel_rfl) rfl rfl ⟨(blk_cell BK189.out 0).trans rfl, (blk_cell BK189.out 1).trans rfl, (blk_cell BK189.out 2).trans rfl⟩ (fun hHeld => ?_); refine with_tabW spec_l08Text.tab15 spec_l08Text.bits15 (fun HT_ HW_ => ?_)
                              generalize w50.drew = w51 at BK189 HI0 HK HB hHeld ⊢
                              refine pure_ (i := 0) (N := some 52) (v := ?_) (a' := ?_) #[true, false, false, false, false, false, false, false, false, false, false, false, false, false, false, false] rfl rfl (any_of HT_.out (by kernel_rfl)) (fun _ _ _ h => h) (Or.inl ⟨by rfl, ?_⟩) ?_ ?_
                              rotate_left
                              · intro w'
                                go_simp
                                with_reducible rfl
                              rotate_left
                              · simp only [Act.put, List.setIfInBounds_toArray, List.set_cons_zero, List.set_cons_succ, i64_w, i32_w]
                                rfl
                              refine pure_ (i := 1) (N := some 53) (v := ?_) (a' := ?_) #[true, true, false, false, false, false, false, false, false, false, false, false, false, false, false, false] rfl rfl (any_of HT_.out (by kernel_rfl)) (fun _ _ _ h => h) (Or.inl ⟨by rfl, ?_⟩) ?_ ?_
                              rotate_left
                              · intro w'
                                go_simp
                                with_reducible rfl
                              rotate_left
                              · simp only [Act.put, List.setIfInBounds_toArray, List.set_cons_zero, List.set_cons_succ, i64_w, i32_w]
                                rfl
                              refine pure_ (i := 5) (N := some 57) (v := ?_) (a' := ?_) #[true, true, false, false, false, true, false, false, false, false, false, false, false, false, false, false] rfl rfl (any_of HT_.out (by kernel_rfl)) (fun _ _ _ h => h) (Or.inl ⟨by rfl, ?_⟩) ?_ ?_
                              rotate_left
                              · intro w'
                                go_simp
                                with_reducible rfl
                              rotate_left
                              · simp only [Act.put, List.setIfInBounds_toArray, List.set_cons_zero, List.set_cons_succ, i64_w, i32_w]
                                rfl
                              refine pure_ (i := 10) (N := some 62) (v := ?_) (a' := ?_) #[true, true, false, false, false, true, false, false, false, false, true, false, false, false, false, false] rfl rfl (any_of HT_.out (by kernel_rfl)) (fun _ _ _ h => h) (Or.inl ⟨by rfl, ?_⟩) ?_ ?_
                              rotate_left
                              · intro w'
                                go_simp
                                with_reducible rfl
                              rotate_left
                              · simp only [Act.put, List.setIfInBounds_toArray, List.set_cons_zero, List.set_cons_succ, i64_w, i32_w]
                                rfl
                              refine take_ (i := 2) (N := some 54) (v := ?_) (a' := ?_) #[true, true, true, false, false, true, false, false, false, false, true, false, false, false, false, false] rfl rfl (take_ofW HT_.out HW_.out (by kernel_rfl)) (fun _ _ _ h => h) (Or.inl ⟨by rfl, ?_⟩) hHeld ?_ ?_
                              rotate_left
                              · rintro w' ⟨s0, s1, s2⟩
                                go_simp
                                with_reducible rfl
                              rotate_left
                              · simp only [Act.put, List.setIfInBounds_toArray, List.set_cons_zero, List.set_cons_succ, i64_w, i32_w]
                                rfl
                              refine take_ (i := 6) (N := some 58) (v := ?_) (a' := ?_) #[true, true, true, false, false, true, true, false, false, false, true, false, false, false, false, false] rfl rfl (take_ofW HT_.out HW_.out (by kernel_rfl)) (fun _ _ _ h => h) (Or.inl ⟨by rfl, ?_⟩) hHeld ?_ ?_
                              rotate_left
                              · rintro w' ⟨s0, s1, s2⟩
                                go_simp
                                with_reducible rfl
                              rotate_left
                              · simp only [Act.put, List.setIfInBounds_toArray, List.set_cons_zero, List.set_cons_succ, i64_w, i32_w]
                                rfl
                              refine take_ (i := 11) (N := some 63) (v := ?_) (a' := ?_) #[true, true, true, false, false, true, true, false, false, false, true, true, false, false, false, false] rfl rfl (take_ofW HT_.out HW_.out (by kernel_rfl)) (fun _ _ _ h => h) (Or.inl ⟨by rfl, ?_⟩) hHeld ?_ ?_
                              rotate_left
                              · rintro w' ⟨s0, s1, s2⟩
                                go_simp
                                with_reducible rfl
                              rotate_left
                              · simp only [Act.put, List.setIfInBounds_toArray, List.set_cons_zero, List.set_cons_succ, i64_w, i32_w]
                                rfl
                              refine one_ (i := 3) (N := some 55) #[true, true, true, true, false, true, true, false, false, false, true, true, false, false, false, false] rfl rfl (one_of HT_.out (by kernel_rfl)) (by decide) (fun K hK => ?_)
                              refine goes_ Tryd.func38 (by kernel_rfl) rfl #[.int .i64 ((rd_T43 s0_1 x5_2).f0)] (by rfl) rfl rfl (by (try simp only [List.map_toArray, List.map_cons, List.map_nil]); first | done | rfl | (simp only [List.length_drop, List.length_take]; rfl)) ?_
                              with_reducible refine (spec_l01Dec.calls k2 ((rd_T43 s0_1 x5_2).f0) t193 _ A38.out).mono ?_
                              rintro e w52 ⟨rfl, hb⟩
                              refine ⟨_, rfl, ?_⟩
                              have n0_ := Aside0.mk (IsT25.below (by repeat (first | (with_reducible first | exact HI0.out | apply IsT25.alloc | apply IsT25.drewN | apply IsT25.drew | refine IsT25.far ?_ NB0_189.out _) | exact HI0.out)) hb)
                              have n1_ := Aside0.mk (blk_below (g := gb189) (o := .cells #[.int .i64 ((rd_T43 s0_1 x5_2).f0), .int .i64 ((rd_T43 s0_1 x5_2).f1), .int .i64 ((rd_T43 s0_1 x5_2).f2)] 43 (0, 0)) (by (with_reducible repeat (first | refine blk_drewN ?_ _ | refine blk_drew ?_ | refine blk_alloc ?_ _)); exact BK189.out) hb)
                              have n2_ := Aside0.mk (KeepBut.trans (by repeat (first | (with_reducible first | exact HK.out | apply KeepBut.set_ | apply keep_drewN | apply keep_drew | apply keep_alloc | refine keep_far ?_ GW189.out _) | exact HK.out)) (KeepBut.of_below hb g none) (.inl rfl))
                              have n3_ := Aside0.mk (below_step (by repeat (first | (with_reducible first | exact HB.out | apply below_alloc | apply pw_below_drewN | apply below_drew1 | refine below_set ?_ (IsT25.ge HI0.out) | refine below_set ?_ GE189.out) | exact HB.out)) hb)
                              clear HI0
                              clear BK189
                              clear HK
                              clear HB
                              have HI0 := n0_
                              have BK189 := n1_
                              have HK := n2_
                              have HB := n3_
                              clear n0_ n1_ n2_ n3_
                              (try clear hb)
                              (try clear hb2)
                              (try clear hk)
                              (try clear hi)
                              refine hK.out _ _ ⟨(blk_cell BK189.out 0).trans rfl, (blk_cell BK189.out 1).trans rfl, (blk_cell BK189.out 2).trans rfl⟩ (fun hHeld => ?_)
                              clear hK K
                              refine norm_ (a' := ?_) ?_ ?_
                              rotate_left
                              · show Act.put _ (some 55) _ = _
                                simp only [Act.put, List.setIfInBounds_toArray, List.set_cons_zero, List.set_cons_succ, i64_w, i32_w]
                                rfl
                              refine pure_ (i := 4) (N := some 56) (v := ?_) (a' := ?_) #[true, true, true, true, true, true, true, false, false, false, true, true, false, false, false, false] rfl rfl (any_of HT_.out (by kernel_rfl)) (fun _ _ _ h => h) (Or.inl ⟨by rfl, ?_⟩) ?_ ?_
                              rotate_left
                              · intro w'
                                go_simp
                                with_reducible rfl
                              rotate_left
                              · simp only [Act.put, List.setIfInBounds_toArray, List.set_cons_zero, List.set_cons_succ, i64_w, i32_w]
                                rfl
                              refine one_ (i := 7) (N := some 59) #[true, true, true, true, true, true, true, true, false, false, true, true, false, false, false, false] rfl rfl (one_of HT_.out (by kernel_rfl)) (by decide) (fun K hK => ?_)
                              refine goes_ Tryd.func38 (by kernel_rfl) rfl #[.int .i64 ((rd_T43 s0_1 x5_2).f1)] (by rfl) rfl rfl (by (try simp only [List.map_toArray, List.map_cons, List.map_nil]); first | done | rfl | (simp only [List.length_drop, List.length_take]; rfl)) ?_
                              with_reducible refine (spec_l01Dec.calls k2 ((rd_T43 s0_1 x5_2).f1) t194 _ A40.out).mono ?_
                              rintro e w53 ⟨rfl, hb⟩
                              refine ⟨_, rfl, ?_⟩
                              have n0_ := Aside0.mk (IsT25.below (by repeat (first | (with_reducible first | exact HI0.out | apply IsT25.alloc | apply IsT25.drewN | apply IsT25.drew | refine IsT25.far ?_ NB0_189.out _) | exact HI0.out)) hb)
                              have n1_ := Aside0.mk (blk_below (g := gb189) (o := .cells #[.int .i64 ((rd_T43 s0_1 x5_2).f0), .int .i64 ((rd_T43 s0_1 x5_2).f1), .int .i64 ((rd_T43 s0_1 x5_2).f2)] 43 (0, 0)) (by (with_reducible repeat (first | refine blk_drewN ?_ _ | refine blk_drew ?_ | refine blk_alloc ?_ _)); exact BK189.out) hb)
                              have n2_ := Aside0.mk (KeepBut.trans (by repeat (first | (with_reducible first | exact HK.out | apply KeepBut.set_ | apply keep_drewN | apply keep_drew | apply keep_alloc | refine keep_far ?_ GW189.out _) | exact HK.out)) (KeepBut.of_below hb g none) (.inl rfl))
                              have n3_ := Aside0.mk (below_step (by repeat (first | (with_reducible first | exact HB.out | apply below_alloc | apply pw_below_drewN | apply below_drew1 | refine below_set ?_ (IsT25.ge HI0.out) | refine below_set ?_ GE189.out) | exact HB.out)) hb)
                              clear HI0
                              clear BK189
                              clear HK
                              clear HB
                              have HI0 := n0_
                              have BK189 := n1_
                              have HK := n2_
                              have HB := n3_
                              clear n0_ n1_ n2_ n3_
                              (try clear hb)
                              (try clear hb2)
                              (try clear hk)
                              (try clear hi)
                              refine hK.out _ _ ⟨(blk_cell BK189.out 0).trans rfl, (blk_cell BK189.out 1).trans rfl, (blk_cell BK189.out 2).trans rfl⟩ (fun hHeld => ?_)
                              clear hK K
                              refine norm_ (a' := ?_) ?_ ?_
                              rotate_left
                              · show Act.put _ (some 59) _ = _
                                simp only [Act.put, List.setIfInBounds_toArray, List.set_cons_zero, List.set_cons_succ, i64_w, i32_w]
                                rfl
                              refine pure_ (i := 8) (N := some 60) (v := ?_) (a' := ?_) #[true, true, true, true, true, true, true, true, true, false, true, true, false, false, false, false] rfl rfl (any_of HT_.out (by kernel_rfl)) (fun _ _ _ h => h) (Or.inl ⟨by rfl, ?_⟩) ?_ ?_
                              rotate_left
                              · intro w'
                                go_simp
                                with_reducible rfl
                              rotate_left
                              · simp only [Act.put, List.setIfInBounds_toArray, List.set_cons_zero, List.set_cons_succ, i64_w, i32_w]
                                rfl
                              refine pure_ (i := 9) (N := some 61) (v := ?_) (a' := ?_) #[true, true, true, true, true, true, true, true, true, true, true, true, false, false, false, false] rfl rfl (any_of HT_.out (by kernel_rfl)) (fun _ _ _ h => h) (Or.inl ⟨by rfl, ?_⟩) ?_ ?_
                              rotate_left
                              · intro w'
                                go_simp
                                with_reducible rfl
                              rotate_left
                              · simp only [Act.put, List.setIfInBounds_toArray, List.set_cons_zero, List.set_cons_succ, i64_w, i32_w]
                                rfl
                              refine one_ (i := 12) (N := some 64) #[true, true, true, true, true, true, true, true, true, true, true, true, true, false, false, false] rfl rfl (one_of HT_.out (by kernel_rfl)) (by decide) (fun K hK => ?_)
                              refine goes_ Tryd.func38 (by kernel_rfl) rfl #[.int .i64 ((rd_T43 s0_1 x5_2).f2)] (by rfl) rfl rfl (by (try simp only [List.map_toArray, List.map_cons, List.map_nil]); first | done | rfl | (simp only [List.length_drop, List.length_take]; rfl)) ?_
                              with_reducible refine (spec_l01Dec.calls k2 ((rd_T43 s0_1 x5_2).f2) t195 _ A43.out).mono ?_
                              rintro e w54 ⟨rfl, hb⟩
                              refine ⟨_, rfl, ?_⟩
                              have n0_ := Aside0.mk (IsT25.below (by repeat (first | (with_reducible first | exact HI0.out | apply IsT25.alloc | apply IsT25.drewN | apply IsT25.drew | refine IsT25.far ?_ NB0_189.out _) | exact HI0.out)) hb)
                              have n1_ := Aside0.mk (blk_below (g := gb189) (o := .cells #[.int .i64 ((rd_T43 s0_1 x5_2).f0), .int .i64 ((rd_T43 s0_1 x5_2).f1), .int .i64 ((rd_T43 s0_1 x5_2).f2)] 43 (0, 0)) (by (with_reducible repeat (first | refine blk_drewN ?_ _ | refine blk_drew ?_ | refine blk_alloc ?_ _)); exact BK189.out) hb)
                              have n2_ := Aside0.mk (KeepBut.trans (by repeat (first | (with_reducible first | exact HK.out | apply KeepBut.set_ | apply keep_drewN | apply keep_drew | apply keep_alloc | refine keep_far ?_ GW189.out _) | exact HK.out)) (KeepBut.of_below hb g none) (.inl rfl))
                              have n3_ := Aside0.mk (below_step (by repeat (first | (with_reducible first | exact HB.out | apply below_alloc | apply pw_below_drewN | apply below_drew1 | refine below_set ?_ (IsT25.ge HI0.out) | refine below_set ?_ GE189.out) | exact HB.out)) hb)
                              clear HI0
                              clear BK189
                              clear HK
                              clear HB
                              have HI0 := n0_
                              have BK189 := n1_
                              have HK := n2_
                              have HB := n3_
                              clear n0_ n1_ n2_ n3_
                              (try clear hb)
                              (try clear hb2)
                              (try clear hk)
                              (try clear hi)
                              refine hK.out _ _ ⟨(blk_cell BK189.out 0).trans rfl, (blk_cell BK189.out 1).trans rfl, (blk_cell BK189.out 2).trans rfl⟩ (fun hHeld => ?_)
                              clear hK K
                              refine norm_ (a' := ?_) ?_ ?_
                              rotate_left
                              · show Act.put _ (some 64) _ = _
                                simp only [Act.put, List.setIfInBounds_toArray, List.set_cons_zero, List.set_cons_succ, i64_w, i32_w]
                                rfl
                              refine pure_ (i := 13) (N := some 65) (v := ?_) (a' := ?_) #[true, true, true, true, true, true, true, true, true, true, true, true, true, true, false, false] rfl rfl (any_of HT_.out (by kernel_rfl)) (fun _ _ _ h => h) (Or.inl ⟨by rfl, ?_⟩) ?_ ?_
                              rotate_left
                              · intro w'
                                go_simp
                                with_reducible rfl
                              rotate_left
                              · simp only [Act.put, List.setIfInBounds_toArray, List.set_cons_zero, List.set_cons_succ, i64_w, i32_w]
                                rfl
                              refine pure_ (i := 14) (N := some 66) (v := ?_) (a' := ?_) #[true, true, true, true, true, true, true, true, true, true, true, true, true, true, true, false] rfl rfl (any_of HT_.out (by kernel_rfl)) (fun _ _ _ h => h) (Or.inl ⟨by rfl, ?_⟩) ?_ ?_
                              rotate_left
                              · intro w'
                                go_simp
                                with_reducible rfl
                              rotate_left
                              · simp only [Act.put, List.setIfInBounds_toArray, List.set_cons_zero, List.set_cons_succ, i64_w, i32_w]
                                rfl
                              refine pure_ (i := 15) (N := some 3) (v := ?_) (a' := ?_) #[true, true, true, true, true, true, true, true, true, true, true, true, true, true, true, true] rfl rfl (any_of HT_.out (by kernel_rfl)) (fun _ _ _ h => h) (Or.inl ⟨by rfl, ?_⟩) ?_ ?_
                              rotate_left
                              · intro w'
                                go_simp
                                with_reducible rfl
                              rotate_left
                              · simp only [Act.put, List.setIfInBounds_toArray, List.set_cons_zero, List.set_cons_succ, i64_w, i32_w]
                                rfl
                              refine done_ (done_of HT_.out (by kernel_rfl)) ?_
                              try go_wp2
                              go_roundg k2
                              case measure => have := HK1.out; have := HK2.out; omega
                              case rel => exact ⟨(x3_2 ++ ((((t193 ++ (⟨#[46]⟩ : ByteArray)) ++ t194) ++ (⟨#[46]⟩ : ByteArray)) ++ t195)), (wrap64 (x5_2 + 1)), (by first | rfl | (simp; done) | (simp [*]; done)), (by first | rfl | (simp; done) | (simp [*]; done)), H', ⟨by have := HK1.out; have := HK2.out; omega⟩, ⟨by repeat (first | (with_reducible first | exact HI0.out | apply IsT25.alloc | apply IsT25.drewN | apply IsT25.drew | refine IsT25.far ?_ NB0_189.out _) | exact HI0.out)⟩, ⟨by repeat (first | (with_reducible first | exact HK.out | apply KeepBut.set_ | apply keep_drewN | apply keep_drew | apply keep_alloc | refine keep_far ?_ GW189.out _) | exact HK.out)⟩, ⟨by repeat (first | (with_reducible first | exact HB.out | apply below_alloc | apply pw_below_drewN | apply below_drew1 | refine below_set ?_ (IsT25.ge HI0.out) | refine below_set ?_ GE189.out) | exact HB.out)⟩⟩
                            · rw [if_neg c45] at H
                              exact absurd H (by simp)
                          · rw [if_neg c44] at H
                            exact absurd H (by simp)
                        · rw [if_neg c42] at H
                          exact absurd H (by simp)
                      · rw [if_neg c41] at H
                        exact absurd H (by simp)
                    · rw [if_neg c39] at H
                      exact absurd H (by simp)
                · rw [if_neg c18] at H
                  exact absurd H (by simp)
              · rw [if_neg c17] at H
                have c17b0 : decide (x5_2 < (s0_1.length : Int)) = false := decide_eq_false c17
                clear c17
                obtain rfl := Option.some.inj H
                obtain ⟨ASz55_0, cSz55_0, ASz55_1, cSz55_1, HGz55, hgz55, HSz55_0, HSz55_1⟩ := HI0.out
                have hcz55_0 := cellS25_0 HGz55
                have hcz55_1 := cellS25_1 HGz55
                clear HGz55 hgz55
                go_wp2
                go_ret
                exact ⟨by first | rfl | (simp [errW_none, errW_some] <;> rfl) | (simp [*, errW_none, errW_some] <;> rfl), by repeat (first | (with_reducible first | exact HI0.out | apply IsT25.alloc | apply IsT25.drewN | apply IsT25.drew) | exact HI0.out), by repeat (first | (with_reducible first | exact HB.out | apply below_alloc | apply pw_below_drewN | apply below_drew1 | refine below_set ?_ (IsT25.ge HI0.out)) | exact HB.out), by repeat (first | (with_reducible first | exact HK.out | apply KeepBut.set_ | apply keep_drewN | apply keep_drew | apply keep_alloc) | exact HK.out)⟩
        · rw [if_neg c15] at H
          exact absurd H (by simp)
end Go.Proofs.YtalkmhnlgfncmaaDoor.X
end
section
namespace Go.Proofs.YtalkmhnlgfncmaaDoor.X
open Go.RowKit Go.Proofs.YtalkmhnlgfncmaaDoorW.PrintWords Go.Proofs.YtalkmhnlgfncmaaDoorW.PrintLast Go.Proofs.YtalkmhnlgfncmaaDoorW.PrintMore
set_option linter.unusedVariables false
def spec_l08IsV.f (k : Nat) (l0 : List Int) (l1 : List S43) : Option Bool := spec_l08Is.f k l0 l1
def spec_l08TextV.f (k : Nat) (l0 : List Int) (l1 : List S43) : Option ByteArray := spec_l08Text.f k l0 l1
theorem spec_l08IsV.calls (g : Nat) (k : Nat) (A0 : Option Addr) (c0 : Nat) (l0 : List Int) (A1 : Option Addr) (c1 : Nat) (l1 : List S43) (r : Bool) (w : World) (hbk : w.heap[g]? = some (.cells #[.slice A0 l0.length c0, .slice A1 l1.length c1] 25 (0, 0)))
    (hr0 : Kd.C (Kd.int .i64) w A0 l0.length l0) (hc0 : l0.length ≤ c0) (hr1 : Kd.C k43 w A1 l1.length l1) (hc1 : l1.length ≤ c1) (h : spec_l08IsV.f k l0 l1 = some r) :
    Calls Tryd.prog 16 #[.pointer (some ⟨g, 0, none⟩)] w fun e w' => e = .returned (.bool r) ∧ Below w.heap.size w w' :=
  (spec_l08Is.callT k g l0 l1 r w w ⟨A0, c0, A1, c1, hbk, trivial, hr0, hr1⟩ (Below.refl _ _) h).mono fun _ _ h => ⟨h.1, h.2.2.1⟩
theorem spec_l08TextV.calls (g : Nat) (k : Nat) (A0 : Option Addr) (c0 : Nat) (l0 : List Int) (A1 : Option Addr) (c1 : Nat) (l1 : List S43) (r : ByteArray) (w : World) (hbk : w.heap[g]? = some (.cells #[.slice A0 l0.length c0, .slice A1 l1.length c1] 25 (0, 0)))
    (hr0 : Kd.C (Kd.int .i64) w A0 l0.length l0) (hc0 : l0.length ≤ c0) (hr1 : Kd.C k43 w A1 l1.length l1) (hc1 : l1.length ≤ c1) (h : spec_l08TextV.f k l0 l1 = some r) :
    Calls Tryd.prog 17 #[.pointer (some ⟨g, 0, none⟩)] w fun e w' => e = .returned (.string r) ∧ Below w.heap.size w w' :=
  (spec_l08Text.callT k g l0 l1 r w w ⟨A0, c0, A1, c1, hbk, trivial, hr0, hr1⟩ (Below.refl _ _) h).mono fun _ _ h => ⟨h.1, h.2.2.1⟩
end Go.Proofs.YtalkmhnlgfncmaaDoor.X
end
