/- My own texts of this seat and its words, merged: XSlowR, Xp100, Xp101. Conditions: as each lemma says. -/
import Derived.Test.YtojpibpjieanhaaN21
import Derived.Test.YtojpibpjieanhaaN23
import Derived.Deep.RegionHeld3
import Derived.Deep.RegionLaw
section
namespace Go.Proofs.Ytojpibpjieanhaa.X
open Go.RowKit Go.Proofs.YtojpibpjieanhaaW.PrintWords Go.Proofs.YtojpibpjieanhaaW.PrintLast Go.Proofs.YtojpibpjieanhaaW.PrintMore
set_option linter.unusedVariables false
set_option linter.unusedSimpArgs false
def fitB (ws : List S55) (l : List Int) (v : Int) : Nat → Bool
  | 0 => ((l.length : Int) == 0)
  | j + 1 => fitB ws l v j || (((rd_T55 ws (j : Int)).f2 == 0) && (((rd_T55 ws (j : Int)).f1 == v) && ((rd_T55 ws (j : Int)).f0 == rd l ((l.length : Int) - 1))))
theorem fitB_nil (ws : List S55) (v : Int) : ∀ j, fitB ws [] v j = true
  | 0 => rfl
  | j + 1 => by rw [fitB, fitB_nil ws v j, Bool.true_or]
def slowLoop (rec : List Int → Int → Option (List Int × Bool)) (d : List Int) (ws : List S55) (l : List Int) (left : Int) : Nat → Nat → Option (List Int × Bool)
  | 0, _ => some ([], false)
  | e + 1, v => if fitB ws l (v : Int) ws.length = true then (if rd d (v : Int) > left then slowLoop rec d ws l left e (v + 1) else (rec (l ++ [(v : Int)]) (wrap64 (left - rd d (v : Int)))).bind fun q => if q.2 = true then some (q.1, true) else slowLoop rec d ws l left e (v + 1)) else slowLoop rec d ws l left e (v + 1)
def slowF (d : List Int) (ws : List S55) (size : Int) : Nat → List Int → Int → Option (List Int × Bool)
  | 0, _, _ => none
  | k + 1, l, left => if l.length ≤ 1000000 then (if (l.length : Int) = size then some (l, (left == 0)) else slowLoop (slowF d ws size k) d ws l left d.length 0) else none
theorem slowLoop_mono {r r' : List Int → Int → Option (List Int × Bool)} (h : ∀ l x, LeO (r l x) (r' l x)) (d : List Int) (ws : List S55) (l : List Int) (left : Int) : ∀ e v, LeO (slowLoop r d ws l left e v) (slowLoop r' d ws l left e v)
  | 0, _ => LeO.refl _
  | e + 1, v => by
    rw [slowLoop, slowLoop]
    split
    · split
      · exact slowLoop_mono h d ws l left e (v + 1)
      · refine LeO.bind (h _ _) (fun q => ?_)
        split
        · exact LeO.refl _
        · exact slowLoop_mono h d ws l left e (v + 1)
    · exact slowLoop_mono h d ws l left e (v + 1)
theorem slowF_mono (d : List Int) (ws : List S55) (size : Int) : ∀ (k : Nat) (l : List Int) (left : Int), LeO (slowF d ws size k l left) (slowF d ws size (k + 1) l left)
  | 0, _, _ => fun r h => by simp [slowF] at h
  | k + 1, l, left => by
    rw [slowF, show slowF d ws size (k + 1 + 1) l left = (if l.length ≤ 1000000 then (if (l.length : Int) = size then some (l, (left == 0)) else slowLoop (slowF d ws size (k + 1)) d ws l left d.length 0) else none) from rfl]
    split
    · split
      · exact LeO.refl _
      · exact slowLoop_mono (slowF_mono d ws size k) d ws l left _ _
    · exact LeO.refl _
set_option maxHeartbeats 16000000 in
set_option maxRecDepth 100000 in
theorem slow_walk (g : Nat) (l0 : List Int) (l1 : List S55) (size : Int) (w0 : World) (n m : Nat) (hn0 : n = l0.length) (hm0 : m = l1.length) (hn : n ≤ 1000000) (hm : m ≤ 1000000) : ∀ (k : Nat) (l : List Int) (left : Int) (A : Option Addr) (c : Nat) (w : World) (r1 : List Int) (r2 : Bool), IsS36 w0 w g l0 l1 → Below w0.heap.size w0 w → Kd.R (Kd.int .i64) 2 w w0.heap.size (fun _ => True) (.slice A l.length c) l → slowF l0 l1 size k l left = some (r1, r2) →
    Calls Try.prog 66 #[.pointer (some ⟨g, 0, none⟩), .slice A l.length c, .int .i64 size, .int .i64 left] w fun e w' => ∃ v : Value, e = .returned (.tuple #[v, .bool r2]) ∧ Kd.R (Kd.int .i64) 2 w' w0.heap.size (fun _ => True) v r1 ∧ Below w.heap.size w w' := by
  intro k
  induction k with
  | zero => intro l left A c w r1 r2 _ _ _ h; simp [slowF] at h
  | succ k ih =>
  intro l left A c w r1 r2 hI hB hR hF
  have HIH := Aside0.mk ih
  have HI := Aside0.mk hI
  have HB := Aside0.mk hB
  have HR := Aside0.mk hR
  have HN0 := Aside0.mk hn0
  have HM0 := Aside0.mk hm0
  rw [slowF] at hF
  by_cases hl : l.length ≤ 1000000
  case neg => rw [if_neg hl] at hF; cases hF
  rw [if_pos hl] at hF
  obtain ⟨L, hL⟩ : ∃ L, L = l.length := ⟨_, rfl⟩
  have HL := Aside0.mk hL
  rw [← hL] at hF hl HR ⊢
  obtain ⟨A0, c0, A1, c1, hg, hgg, q0, q1⟩ := HI.out
  rw [← hn0] at hg q0
  rw [← hm0] at hg q1
  have BK := Aside0.mk hg
  have HR0 := Aside0.mk q0
  have HR1 := Aside0.mk q1
  clear hn0 hm0 hg hgg q0 q1 hI hB hR hL ih
  cases hv : ((L : Int) == size) with
  | true =>
    have HE : Aside0 (l = r1 ∧ (left == 0) = r2) := ⟨by rw [if_pos (eq_of_beq hv)] at hF; injection hF with h; injection h with h3 h4; exact ⟨h3, h4⟩⟩
    clear hF
    go_enter Try.func66, Try.ntmps66
    go_wp2
    go_ret2
    obtain ⟨e1, e2⟩ := HE.out
    subst e1 e2
    exact ⟨_, rfl, HR.out, Below.refl _ _⟩
  | false =>
    have HF := Aside0.mk (show slowLoop (slowF l0 l1 size k) l0 l1 l left n 0 = some (r1, r2) by rw [if_neg (ne_of_beq_false hv)] at hF; rw [HN0.out]; exact hF)
    clear hF
    go_enter Try.func66, Try.ntmps66
    go_wp2
    go_loopg [10] n (fun kq v10 w' => ∃ i : Nat, v10 = .int .i64 i ∧ Aside0 (i + kq = n) ∧ Aside0 (slowLoop (slowF l0 l1 size k) l0 l1 l left kq i = some (r1, r2)) ∧ Aside0 (Below w.heap.size w w'))
    case atStart => exact ⟨0, by first | rfl | simp, ⟨by omega⟩, HF, ⟨Below.refl _ _⟩⟩
    case round =>
      clear HF hv
      obtain ⟨i, rfl, HE, HF, QB⟩ := hrel
      have BW := Aside0.mk (blk_below BK.out QB.out)
      have c1_0 : wr.cell? ⟨g, 0, none⟩ = some (.slice A0 n c0) := (blk_cell BW.out 0).trans rfl
      have c1_1 : wr.cell? ⟨g, 1, none⟩ = some (.slice A1 m c1) := (blk_cell BW.out 1).trans rfl
      by_cases hlt : i < n
      · cases gk with
        | zero => have := HE.out; omega
        | succ gq =>
        go_wp2
        go_loopg [12, 11] m (fun kq v12 v11 w' => ∃ j : Nat, v12 = .int .i64 j ∧ v11 = .bool (fitB l1 l (i : Int) j) ∧ Aside0 (j + kq = m) ∧ Aside0 (Below w.heap.size w w'))
        case atStart => exact ⟨0, by first | rfl | simp, by rw [fitB, ← HL.out], ⟨by omega⟩, QB⟩
        case round =>
          clear QB BW c1_0 c1_1
          obtain ⟨j, rfl, rfl, HJ, QB⟩ := hrel
          have BW := Aside0.mk (blk_below BK.out QB.out)
          have c1_0 : wr.cell? ⟨g, 0, none⟩ = some (.slice A0 n c0) := (blk_cell BW.out 0).trans rfl
          have c1_1 : wr.cell? ⟨g, 1, none⟩ = some (.slice A1 m c1) := (blk_cell BW.out 1).trans rfl
          by_cases hlj : j < m
          · cases gk with
            | zero => have := HJ.out; omega
            | succ gq2 =>
            obtain ⟨ad, hA, x0, x1, x2⟩ := at_T55 (Kd.C_below HR1.out (below_step HB.out QB.out)) (j : Int) (by omega) (by omega)
            cases hA
            rw [Int.toNat_natCast] at x0 x1 x2
            have HX : Aside0 (fitB l1 l (i : Int) (j + 1) = (fitB l1 l (i : Int) j || (((rd_T55 l1 (j : Int)).f2 == 0) && (((rd_T55 l1 (j : Int)).f1 == (i : Int)) && ((rd_T55 l1 (j : Int)).f0 == rd l ((L : Int) - 1)))))) := ⟨by rw [fitB, ← HL.out]⟩
            obtain ⟨el, hel⟩ : ∃ el, el = rd_T55 l1 (j : Int) := ⟨_, rfl⟩
            rw [← hel] at x0 x1 x2 HX
            clear hel
            obtain ⟨f0, f1', f2⟩ := el
            simp only at x0 x1 x2 HX
            obtain ⟨F, hFd⟩ : ∃ F, F = fitB l1 l (i : Int) j := ⟨_, rfl⟩
            have HNE : Aside0 (F = false → 0 < L) := ⟨fun h => by
              rw [hFd] at h
              rcases Nat.eq_zero_or_pos L with h0 | h0
              · have : l = [] := List.eq_nil_of_length_eq_zero (by rw [← HL.out]; exact h0)
                rw [this, fitB_nil] at h; exact Bool.noConfusion h
              · exact h0⟩
            rw [← hFd] at HX ⊢
            clear hFd
            have p2 : (0 ≤ (j : Int)) = True := eq_true (by omega)
            have p3 : ((j : Int) < (m : Int)) = True := eq_true (by omega)
            have wj : IntKind.i64.wrap ((j : Int) + 1) = (j : Int) + 1 := IntWalk.i64_in _ ⟨by omega, by omega⟩
            cases F with
            | true =>
              go_wp2_with ((with_reducible refine gate_dst (N := 13) rfl ?_); refine box_event ?hg (N := 13) ?hd (cs := #[.int .i64 0, .int .i64 0, .int .i64 0]) (t := 55) ?hr ?_; (case hd => rfl); (case hg => rfl); (case hr => first | (go_simp; done) | (go_simp; rfl)); intro g5 hg wn hbox hb5; have B5 := Aside0.mk hbox; have HB5 := Aside0.mk (below_set (j := 2) (v := .int .i64 f2) (below_set (j := 1) (v := .int .i64 f1') (below_set (j := 0) (v := .int .i64 f0) hb5 (show wr.heap.size ≤ g5 by rw [hg]; exact Nat.le_refl _)) (show wr.heap.size ≤ g5 by rw [hg]; exact Nat.le_refl _)) (show wr.heap.size ≤ g5 by rw [hg]; exact Nat.le_refl _)); skip; clear hg hb5 hbox; have z5_0 := blk_frozen B5.out 0; have z5_1 := blk_frozen B5.out 1; have z5_2 := blk_frozen B5.out 2; have c5_0 : wn.cell? ⟨g5, 0, none⟩ = some (.int .i64 0) := (blk_cell B5.out 0).trans rfl; have c5_1 : wn.cell? ⟨g5, 1, none⟩ = some (.int .i64 0) := (blk_cell B5.out 1).trans rfl; have c5_2 : wn.cell? ⟨g5, 2, none⟩ = some (.int .i64 0) := (blk_cell B5.out 2).trans rfl)
              go_region
              go_wp2
              go_roundg gq2
              case measure => omega
              case rel => exact ⟨j + 1, by go_num, by rw [HX.out]; rfl, ⟨by have := HJ.out; omega⟩, ⟨below_step QB.out (by first | exact HB5.out | exact pw_below_drewN HB5.out _ | exact below_drew1 HB5.out)⟩⟩
            | false =>
              have hL0 : 0 < L := HNE.out rfl
              obtain ⟨lad, hLA, lx⟩ := Kd.at_int (Kd.C_below (Kd.R_reads' HR.out).2.2 QB.out) ((L : Int) - 1) (by omega) (by rw [← HL.out]; omega)
              cases hLA
              have wl : IntKind.i64.wrap ((L : Int) - 1) = (L : Int) - 1 := IntWalk.i64_in _ ⟨by omega, by omega⟩
              have p4 : (0 ≤ (L : Int) - 1) = True := eq_true (by omega)
              have p6 : (1 ≤ (L : Int)) = True := eq_true (by omega)
              have p5 : ((L : Int) - 1 < (L : Int)) = True := eq_true (by omega)
              obtain ⟨la, hla⟩ : ∃ la, la = rd l ((L : Int) - 1) := ⟨_, rfl⟩
              rw [← hla] at lx HX
              have HLA0 := Aside0.mk hla
              clear hla lx
              cases hv2 : (f2 == 0) with
              | false =>
                go_wp2_with ((with_reducible refine gate_dst (N := 13) rfl ?_); refine box_event ?hg (N := 13) ?hd (cs := #[.int .i64 0, .int .i64 0, .int .i64 0]) (t := 55) ?hr ?_; (case hd => rfl); (case hg => rfl); (case hr => first | (go_simp; done) | (go_simp; rfl)); intro g5 hg wn hbox hb5; have B5 := Aside0.mk hbox; have HB5 := Aside0.mk (below_set (j := 2) (v := .int .i64 f2) (below_set (j := 1) (v := .int .i64 f1') (below_set (j := 0) (v := .int .i64 f0) hb5 (show wr.heap.size ≤ g5 by rw [hg]; exact Nat.le_refl _)) (show wr.heap.size ≤ g5 by rw [hg]; exact Nat.le_refl _)) (show wr.heap.size ≤ g5 by rw [hg]; exact Nat.le_refl _)); skip; clear hg hb5 hbox; have z5_0 := blk_frozen B5.out 0; have z5_1 := blk_frozen B5.out 1; have z5_2 := blk_frozen B5.out 2; have c5_0 : wn.cell? ⟨g5, 0, none⟩ = some (.int .i64 0) := (blk_cell B5.out 0).trans rfl; have c5_1 : wn.cell? ⟨g5, 1, none⟩ = some (.int .i64 0) := (blk_cell B5.out 1).trans rfl; have c5_2 : wn.cell? ⟨g5, 2, none⟩ = some (.int .i64 0) := (blk_cell B5.out 2).trans rfl)
                go_region
                go_wp2
                go_roundg gq2
                case measure => omega
                case rel => exact ⟨j + 1, by go_num, by rw [HX.out]; rw [hv2]; rfl, ⟨by have := HJ.out; omega⟩, ⟨below_step QB.out (by first | exact HB5.out | exact pw_below_drewN HB5.out _ | exact below_drew1 HB5.out)⟩⟩
              | true =>
                cases hv3 : (f1' == (i : Int)) with
                | false =>
                  go_wp2_with ((with_reducible refine gate_dst (N := 13) rfl ?_); refine box_event ?hg (N := 13) ?hd (cs := #[.int .i64 0, .int .i64 0, .int .i64 0]) (t := 55) ?hr ?_; (case hd => rfl); (case hg => rfl); (case hr => first | (go_simp; done) | (go_simp; rfl)); intro g5 hg wn hbox hb5; have B5 := Aside0.mk hbox; have HB5 := Aside0.mk (below_set (j := 2) (v := .int .i64 f2) (below_set (j := 1) (v := .int .i64 f1') (below_set (j := 0) (v := .int .i64 f0) hb5 (show wr.heap.size ≤ g5 by rw [hg]; exact Nat.le_refl _)) (show wr.heap.size ≤ g5 by rw [hg]; exact Nat.le_refl _)) (show wr.heap.size ≤ g5 by rw [hg]; exact Nat.le_refl _)); skip; clear hg hb5 hbox; have z5_0 := blk_frozen B5.out 0; have z5_1 := blk_frozen B5.out 1; have z5_2 := blk_frozen B5.out 2; have c5_0 : wn.cell? ⟨g5, 0, none⟩ = some (.int .i64 0) := (blk_cell B5.out 0).trans rfl; have c5_1 : wn.cell? ⟨g5, 1, none⟩ = some (.int .i64 0) := (blk_cell B5.out 1).trans rfl; have c5_2 : wn.cell? ⟨g5, 2, none⟩ = some (.int .i64 0) := (blk_cell B5.out 2).trans rfl)
                  go_region
                  go_wp2
                  go_roundg gq2
                  case measure => omega
                  case rel => exact ⟨j + 1, by go_num, by rw [HX.out]; rw [hv2, hv3]; rfl, ⟨by have := HJ.out; omega⟩, ⟨below_step QB.out (by first | exact HB5.out | exact pw_below_drewN HB5.out _ | exact below_drew1 HB5.out)⟩⟩
                | true =>
                  cases hv4 : (f0 == la) with
                  | false =>
                    go_wp2_with ((with_reducible refine gate_dst (N := 13) rfl ?_); refine box_event ?hg (N := 13) ?hd (cs := #[.int .i64 0, .int .i64 0, .int .i64 0]) (t := 55) ?hr ?_; (case hd => rfl); (case hg => rfl); (case hr => first | (go_simp; done) | (go_simp; rfl)); intro g5 hg wn hbox hb5; have B5 := Aside0.mk hbox; have HB5 := Aside0.mk (below_set (j := 2) (v := .int .i64 f2) (below_set (j := 1) (v := .int .i64 f1') (below_set (j := 0) (v := .int .i64 f0) hb5 (show wr.heap.size ≤ g5 by rw [hg]; exact Nat.le_refl _)) (show wr.heap.size ≤ g5 by rw [hg]; exact Nat.le_refl _)) (show wr.heap.size ≤ g5 by rw [hg]; exact Nat.le_refl _)); obtain ⟨lad2, hLA2, lx5⟩ := Kd.at_int (Kd.C_below (Kd.R_reads' HR.out).2.2 (below_step QB.out HB5.out)) ((L : Int) - 1) (by omega) (by rw [← HL.out]; omega); cases hLA2; rw [← HLA0.out, show ((L : Int) - 1).toNat = L - 1 by omega] at lx5; clear hg hb5 hbox; have z5_0 := blk_frozen B5.out 0; have z5_1 := blk_frozen B5.out 1; have z5_2 := blk_frozen B5.out 2; have c5_0 : wn.cell? ⟨g5, 0, none⟩ = some (.int .i64 0) := (blk_cell B5.out 0).trans rfl; have c5_1 : wn.cell? ⟨g5, 1, none⟩ = some (.int .i64 0) := (blk_cell B5.out 1).trans rfl; have c5_2 : wn.cell? ⟨g5, 2, none⟩ = some (.int .i64 0) := (blk_cell B5.out 2).trans rfl)
                    go_region
                    go_wp2
                    go_roundg gq2
                    case measure => omega
                    case rel => exact ⟨j + 1, by go_num, by rw [HX.out]; rw [hv2, hv3, hv4]; rfl, ⟨by have := HJ.out; omega⟩, ⟨below_step QB.out (by first | exact HB5.out | exact pw_below_drewN HB5.out _ | exact below_drew1 HB5.out)⟩⟩
                  | true =>
                    go_wp2_with ((with_reducible refine gate_dst (N := 13) rfl ?_); refine box_event ?hg (N := 13) ?hd (cs := #[.int .i64 0, .int .i64 0, .int .i64 0]) (t := 55) ?hr ?_; (case hd => rfl); (case hg => rfl); (case hr => first | (go_simp; done) | (go_simp; rfl)); intro g5 hg wn hbox hb5; have B5 := Aside0.mk hbox; have HB5 := Aside0.mk (below_set (j := 2) (v := .int .i64 f2) (below_set (j := 1) (v := .int .i64 f1') (below_set (j := 0) (v := .int .i64 f0) hb5 (show wr.heap.size ≤ g5 by rw [hg]; exact Nat.le_refl _)) (show wr.heap.size ≤ g5 by rw [hg]; exact Nat.le_refl _)) (show wr.heap.size ≤ g5 by rw [hg]; exact Nat.le_refl _)); obtain ⟨lad2, hLA2, lx5⟩ := Kd.at_int (Kd.C_below (Kd.R_reads' HR.out).2.2 (below_step QB.out HB5.out)) ((L : Int) - 1) (by omega) (by rw [← HL.out]; omega); cases hLA2; rw [← HLA0.out, show ((L : Int) - 1).toNat = L - 1 by omega] at lx5; clear hg hb5 hbox; have z5_0 := blk_frozen B5.out 0; have z5_1 := blk_frozen B5.out 1; have z5_2 := blk_frozen B5.out 2; have c5_0 : wn.cell? ⟨g5, 0, none⟩ = some (.int .i64 0) := (blk_cell B5.out 0).trans rfl; have c5_1 : wn.cell? ⟨g5, 1, none⟩ = some (.int .i64 0) := (blk_cell B5.out 1).trans rfl; have c5_2 : wn.cell? ⟨g5, 2, none⟩ = some (.int .i64 0) := (blk_cell B5.out 2).trans rfl)
                    go_region
                    go_wp2
                    go_roundg gq2
                    case measure => omega
                    case rel => exact ⟨j + 1, by go_num, by rw [HX.out]; rw [hv2, hv3, hv4]; rfl, ⟨by have := HJ.out; omega⟩, ⟨below_step QB.out (by first | exact HB5.out | exact pw_below_drewN HB5.out _ | exact below_drew1 HB5.out)⟩⟩
          · have e : j = m := by have := HJ.out; omega
            have f1 : decide ((j : Int) < (m : Int)) = false := decide_eq_false (by omega)
            have f2 : decide (j < m) = false := decide_eq_false hlj
            have HFI : Aside0 (fitB l1 l (i : Int) j = fitB l1 l (i : Int) l1.length) := ⟨by rw [e, HM0.out]⟩
            rw [HFI.out]
            obtain ⟨ad, hA, dA⟩ := Kd.at_int (Kd.C_below HR0.out (below_step HB.out QB.out)) (i : Int) (by omega) (by omega)
            cases hA
            rw [Int.toNat_natCast] at dA
            have p0 : (0 ≤ (i : Int)) = True := eq_true (by omega)
            have p1 : ((i : Int) < (n : Int)) = True := eq_true (by omega)
            have wi : IntKind.i64.wrap ((i : Int) + 1) = (i : Int) + 1 := IntWalk.i64_in _ ⟨by omega, by omega⟩
            clear e HFI HJ hlj
            have HS : Aside0 (slowLoop (slowF l0 l1 size k) l0 l1 l left (gq + 1) i = some (r1, r2)) := HF
            clear HF
            have hS := HS.out
            rw [slowLoop] at hS
            have HS2 := Aside0.mk hS
            clear hS HS
            obtain ⟨x, hx⟩ : ∃ x, x = rd l0 (i : Int) := ⟨_, rfl⟩
            rw [← hx] at dA HS2
            obtain ⟨F, hFd⟩ : ∃ F, F = fitB l1 l (i : Int) l1.length := ⟨_, rfl⟩
            rw [← hFd] at HS2 ⊢
            clear hx hFd
            cases F with
            | false =>
              have HF2 := Aside0.mk (show slowLoop (slowF l0 l1 size k) l0 l1 l left gq (i + 1) = some (r1, r2) by have h := HS2.out; rw [if_neg (by decide)] at h; exact h)
              clear HS2
              go_wp2
              go_roundg gq
              case measure => omega
              case rel => exact ⟨i + 1, by go_num, ⟨by have := HE.out; omega⟩, HF2, ⟨by first | exact QB.out | exact pw_below_drewN QB.out _ | exact below_drew1 QB.out⟩⟩
            | true =>
              cases hv5 : decide (left < x) with
              | true =>
                have HF2 := Aside0.mk (show slowLoop (slowF l0 l1 size k) l0 l1 l left gq (i + 1) = some (r1, r2) by have h := HS2.out; rw [if_pos rfl, if_pos (show x > left from of_decide_eq_true hv5)] at h; exact h)
                clear HS2
                go_wp2
                go_roundg gq
                case measure => omega
                case rel => exact ⟨i + 1, by go_num, ⟨by have := HE.out; omega⟩, HF2, ⟨by first | exact QB.out | exact pw_below_drewN QB.out _ | exact below_drew1 QB.out⟩⟩
              | false =>
                have HS3 := Aside0.mk (show ((slowF l0 l1 size k (l ++ [(i : Int)]) (wrap64 (left - x))).bind fun q => if q.2 = true then some (q.1, true) else slowLoop (slowF l0 l1 size k) l0 l1 l left gq (i + 1)) = some (r1, r2) by have h := HS2.out; rw [if_pos rfl, if_neg (show ¬ x > left from of_decide_eq_false hv5)] at h; exact h)
                clear HS2
                have hsz := below_size QB.out
                have HK : Aside0 (∀ W, Below wr.heap.size wr W → (W.cell? ⟨g, 0, none⟩ = some (.slice (some ad) n c0) ∧ W.cell? (ad.add i) = some (.int .i64 x) ∧ Below wr.heap.size wr W)) := ⟨fun W hW => ⟨pw_cell_below hW c1_0, pw_cell_below hW dA, hW⟩⟩
                have hd : ∀ y, y = wr.drew → (y.cell? ⟨g, 0, none⟩ = some (.slice (some ad) n c0) ∧ y.cell? (ad.add i) = some (.int .i64 x) ∧ Below wr.heap.size wr y) := by
                  rintro y rfl
                  exact HK.out _ (below_drew1 (Below.refl _ _))
                cases hs : slowF l0 l1 size k (l ++ [(i : Int)]) (wrap64 (left - x)) with
                | none => have h := HS3.out; rw [hs] at h; cases h
                | some q =>
                obtain ⟨o1, o2⟩ := q
                have HQ := Aside0.mk hs
                have HL1 : Aside0 (spec_l00Own.f l = some l) := ⟨by unfold spec_l00Own.f; rw [Option.bind_some, if_pos (by simp; rw [← HL.out]; omega), List.nil_append]⟩
                have HBR := Aside0.mk (below_step HB.out QB.out)
                have HOW : Aside0 (∀ W, Below wr.heap.size wr W → Calls Try.prog 93 #[.slice A L c] W fun e w' => ∃ v0_ : Value, e = .returned (v0_) ∧ Kd.R (Kd.int .i64) 2 w' W.heap.size (fun _ => True) v0_ l ∧ Below W.heap.size W w') := ⟨fun W hW => by
                  have T := spec_l00Own.calls A c l l W (by rw [← HL.out]; exact Kd.C_below (by have := (Kd.R_reads' HR.out).2.2; rwa [← HL.out] at this) (below_step QB.out hW)) trivial HL1.out
                  rw [← HL.out] at T
                  exact T⟩
                have HSF : Aside0 (∀ W v, Below wr.heap.size wr W → Kd.R (Kd.int .i64) 2 W w0.heap.size (fun _ => True) v (l ++ [(i : Int)]) → Calls Try.prog 66 #[.pointer (some ⟨g, 0, none⟩), v, .int .i64 size, .int .i64 (IntKind.i64.wrap (left - x))] W fun e w' => ∃ v : Value, e = .returned (.tuple #[v, .bool o2]) ∧ Kd.R (Kd.int .i64) 2 w' w0.heap.size (fun _ => True) v o1 ∧ Below W.heap.size W w') := ⟨fun W v hW hv => by
                  obtain ⟨A', c', rfl, _, _⟩ := Kd.R_reads hv
                  rw [IntWalk.i64_left]
                  exact HIH.out (l ++ [(i : Int)]) (wrap64 (left - x)) A' c' W o1 o2 (HI.out.below (below_step QB.out hW)) (below_step HB.out (below_step QB.out hW)) hv HQ.out⟩
                go_wp2
                go_region_held3 (fun W => W.cell? ⟨g, 0, none⟩ = some (.slice (some ad) n c0) ∧ W.cell? (ad.add i) = some (.int .i64 x) ∧ Below wr.heap.size wr W) (first | exact hd _ rfl | assumption | exact HK.out _ hB93 | exact HK.out _ (below_alloc hB93 _) | exact HK.out _ hb94 | exact HK.out _ hB66 | exact HK.out _ (below_alloc (below_drew1 (Below.refl _ _)) _)) (first
                  | (go_at_call 93; (with_reducible refine (HOW.out _ (by first | exact below_drew1 (Below.refl _ _) | exact below_drew1 (below_alloc (Below.refl _ _) _) | exact below_alloc (below_drew1 (Below.refl _ _)) _)).mono ?_); rintro e w93 ⟨v93, rfl, hR93, hb93⟩; have hB93 : Below wr.heap.size wr w93 := (by first | exact below_step (below_drew1 (Below.refl _ _)) hb93 | exact below_step (below_drew1 (below_alloc (Below.refl _ _) _)) hb93))
                  | (refine step_append_int rfl (.tmp 90) (.tmp 92) 22 rfl 2 8 Try.underlying22 info2 (by decide) wr.heap.size wr v93 l (by simp [Act.eval, Act.put]) ⟨w93.heap.size, 0, none⟩ 1 (i : Int) (by simp [Act.eval, Act.put]) ((blk_cell (blk_new w93 (.cells #[.int .i64 (i : Int)] 2)) 0).trans rfl) (Kd.R_alloc (Kd.R_lower hR93 (Nat.le_refl _)) _) (below_alloc hB93 _) (Nat.le_trans (below_size hB93) (below_size (below_alloc (Below.refl w93.heap.size w93) _))) (by rw [← HL.out]; omega) ?_; intro v94 w94 hR94 hb94)
                  | (refine step_append_int rfl (.tmp 90) (.tmp 92) 22 rfl 2 8 Try.underlying22 info2 (by decide) wr.heap.size wr v93 l (by simp [Act.eval, Act.put]) ⟨wr.heap.size, 0, none⟩ 1 (i : Int) (by simp [Act.eval, Act.put]) (pw_cell_below hb93 ((blk_cell (blk_new wr (.cells #[.int .i64 (i : Int)] 2)) 0).trans rfl)) (Kd.R_lower hR93 (below_size (below_drew1 (below_alloc (Below.refl wr.heap.size wr) _)))) hB93 (below_size hB93) (by rw [← HL.out]; omega) ?_; intro v94 w94 hR94 hb94)
                  | (go_at_call 66; (with_reducible refine (HSF.out _ _ hb94 (Kd.R_lower hR94 (below_size HBR.out))).mono ?_); rintro e w66 ⟨v66, rfl, hR66, hb66⟩; have hB66 : Below wr.heap.size wr w66 := below_step hb94 hb66))
                all_goals
                  have HRZ := Aside0.mk hR66
                  have HBZ := Aside0.mk hB66
                  clear hR66 hB66 hb66 hR94 hb94 hR93 hb93 hB93
                  cases o2 with
                  | true =>
                    have HE2 : Aside0 (o1 = r1 ∧ true = r2) := ⟨by have h := HS3.out; rw [HQ.out, Option.bind_some, if_pos rfl] at h; injection h with h; injection h with h3 h4; exact ⟨h3, h4⟩⟩
                    go_wp2
                    go_ret2
                    obtain ⟨e1, e2⟩ := HE2.out
                    subst e1 e2
                    exact ⟨_, rfl, HRZ.out, below_step QB.out HBZ.out⟩
                  | false =>
                    have HF2 := Aside0.mk (show slowLoop (slowF l0 l1 size k) l0 l1 l left gq (i + 1) = some (r1, r2) by have h := HS3.out; rw [HQ.out, Option.bind_some, if_neg (by simp)] at h; exact h)
                    go_wp2
                    go_roundg gq
                    case measure => omega
                    case rel => exact ⟨i + 1, by go_num, ⟨by have := HE.out; omega⟩, HF2, ⟨below_step QB.out HBZ.out⟩⟩
      · have e : i = n := by have := HE.out; omega
        have f1 : decide ((i : Int) < (n : Int)) = false := decide_eq_false (by omega)
        have f2 : decide (i < n) = false := decide_eq_false hlt
        have HRE : Aside0 (r1 = [] ∧ r2 = false) := ⟨by have h := HF.out; have hz : gk = 0 := (by have := HE.out; omega); rw [hz, slowLoop] at h; injection h with h; injection h with h3 h4; exact ⟨h3.symm, h4.symm⟩⟩
        have HRL := Aside0.mk (Kd.R_of_own (enc := Value.int .i64) (h1 := fun _ => rfl) (ok := fun _ => True) (own_lit_of (enc := Value.int .i64) wr w.heap.size 2 ([] : List Int) (below_size QB.out) (by simp)) (fun _ _ => trivial))
        go_wp2
        go_ret2
        obtain ⟨e1, e2⟩ := HRE.out
        subst e1 e2
        exact ⟨_, rfl, Kd.R_lower HRL.out (below_size HB.out), below_step QB.out (below_alloc (Below.refl wr.heap.size wr) (.cells #[] 2))⟩
end Go.Proofs.Ytojpibpjieanhaa.X
end
section
-- Written by a program of this session out of the kit's print of the loaded functions: a plain function of a Go function, and its contract.
namespace Go.Proofs.Ytojpibpjieanhaa.X
open Go.RowKit Go.Proofs.YtojpibpjieanhaaW.PrintWords Go.Proofs.YtojpibpjieanhaaW.PrintLast Go.Proofs.YtojpibpjieanhaaW.PrintMore
attribute [local go_sem] max2_int min2_int max_two min_two max_three min_three max_four min_four   -- for this text's walks alone
set_option linter.unusedVariables false
set_option linter.unusedSimpArgs false
def spec_l00Has.l0 : Nat → List Int → Int → Int → Option (Bool)
 | 0, _, _, _ => none
 | k + 1, x0, x1, x5 => if x5 < (x0.length : Int) then (if 0 ≤ x5 then (if (rd x0 x5) = x1 then (some true) else (spec_l00Has.l0 k x0 x1 (wrap64 (x5 + 1)))) else (none)) else (some false)
def spec_l00Has.f (k : Nat) (l0 : List Int) (a1 : Int) : Option (Bool) := spec_l00Has.l0 k l0 a1 0
theorem spec_l00Has.mono_l : ∀ k, (∀ y0 y1 y2, LeO (spec_l00Has.l0 k y0 y1 y2) (spec_l00Has.l0 (k + 1) y0 y1 y2))
 | 0 => fun _ _ _ r h => by simp [spec_l00Has.l0] at h
 | k + 1 => by
  have ih0 := spec_l00Has.mono_l k
  ·intro y0 y1 y2
   unfold spec_l00Has.l0
   repeat' first
   | (with_reducible exact ih0 _ _ _)
   | (with_reducible exact LeO.refl _)
   | (with_reducible exact LeO.none _)
   | (with_reducible refine LeO.ite ?_ ?_)
   | (with_reducible refine LeO.bind ?_ (fun _ => ?_))
   | exact ih0 _ _ _
   | exact LeO.none _
   | refine LeO.ite ?_ ?_
   | refine LeO.bind ?_ (fun _ => ?_)
theorem spec_l00Has.mono : ∀ a0 a1 k, LeO (spec_l00Has.f k a0 a1) (spec_l00Has.f (k + 1) a0 a1) := by
 intro a0 a1 k
 have ih0 := spec_l00Has.mono_l k
 unfold spec_l00Has.f
 repeat' first
   | (with_reducible exact ih0 _ _ _)
   | (with_reducible exact LeO.refl _)
   | (with_reducible exact LeO.none _)
   | (with_reducible refine LeO.ite ?_ ?_)
   | (with_reducible refine LeO.bind ?_ (fun _ => ?_))
   | exact ih0 _ _ _
   | exact LeO.none _
   | refine LeO.ite ?_ ?_
   | refine LeO.bind ?_ (fun _ => ?_)
set_option maxHeartbeats 8000000 in
set_option maxRecDepth 100000 in
theorem spec_l00Has.calls (k : Nat) (A0 : Option Addr) (c0 : Nat) (l0 : List Int) (a1 : Int) (r : Bool) (w : World) (hr0 : Kd.C (Kd.int .i64) w A0 l0.length l0) (hc0 : l0.length ≤ c0) (h : spec_l00Has.f k l0 a1 = some r) :
  Calls Try.prog 100 #[.slice A0 l0.length c0, .int .i64 a1] w fun e w' => e = .returned (.bool r) ∧ Drawn0 w w' := by
 have HR0 := Aside0.mk hr0
 have HC0 := Aside0.mk hc0
 clear hr0 hc0
 have H : (spec_l00Has.l0 k l0 a1 0) = some r := h
 clear h
 have H' := Aside0.mk H
 clear H
 go_enter Try.func100, Try.ntmps100
 go_wp2
 go_loopg [5] k (fun kq v5 w' => ∃ (x5_1 : Int), v5 = .int .i64 x5_1 ∧ Aside0 (spec_l00Has.l0 kq l0 a1 x5_1 = some r) ∧ Aside0 (kq ≤ k) ∧ Drawn0 w w')
 case atStart => exact ⟨(0), (by first | rfl | (simp; done) | (simp [*]; done)), H', ⟨Nat.le_refl _⟩, by repeat (first | exact Drawn0.refl _ | apply Drawn0.step)⟩
 case round =>
  clear H'
  try clear c1
  try clear p2
  obtain ⟨x5_1, rfl, HA, HK1, ⟨m1, rfl⟩⟩ := hrel
  cases gk with
  | zero => exact absurd HA.out (by simp [spec_l00Has.l0])
  | succ k1 =>
   have H := HA.out
   clear HA
   simp only [spec_l00Has.l0] at H
   by_cases c3 : x5_1 < (l0.length : Int)
   ·rw [if_pos c3] at H
    have c3b0 : decide (x5_1 < (l0.length : Int)) = true := decide_eq_true c3
    clear c3
    by_cases c4 : 0 ≤ x5_1
    ·rw [if_pos c4] at H
     have c4b0 : decide (0 ≤ x5_1) = true := decide_eq_true c4
     clear c4
     by_cases c5 : (rd l0 x5_1) = a1
     ·rw [if_pos c5] at H
      have c5b0 : ((rd l0 x5_1) == a1) = true := beq_iff_eq.mpr c5
      have c5b1 : ((rd l0 x5_1) != a1) = false := bne_eq_false_iff_eq.mpr c5
      clear c5
      obtain rfl := Option.some.inj H
      have p181 : 0 ≤ (x5_1 : Int) := of_decide_eq_true (by first | (with_reducible assumption) | assumption)
      have q181 : x5_1 < (l0.length : Int) := of_decide_eq_true (by first | (with_reducible assumption) | assumption)
      obtain ⟨ad181, e181, hx181_0⟩ := Kd.at_int HR0.out x5_1 p181 q181
      cases e181
      replace p181 := eq_true p181
      replace q181 := eq_true q181
      go_wp2
      go_ret
      exact ⟨by first | rfl | (simp; done) | (simp [*]; done), by repeat (first | exact Drawn0.refl _ | apply Drawn0.step)⟩
     ·rw [if_neg c5] at H
      have c5b0 : ((rd l0 x5_1) == a1) = false := beq_eq_false_iff_ne.mpr c5
      have c5b1 : ((rd l0 x5_1) != a1) = true := bne_iff_ne.mpr c5
      have H' := Aside0.mk H
      clear H
      have p181 : 0 ≤ (x5_1 : Int) := of_decide_eq_true (by first | (with_reducible assumption) | assumption)
      have q181 : x5_1 < (l0.length : Int) := of_decide_eq_true (by first | (with_reducible assumption) | assumption)
      obtain ⟨ad181, e181, hx181_0⟩ := Kd.at_int HR0.out x5_1 p181 q181
      cases e181
      replace p181 := eq_true p181
      replace q181 := eq_true q181
      go_wp2
      go_roundg k1
      case measure => have := HK1.out; omega
      case rel => exact ⟨(wrap64 (x5_1 + 1)), (by first | rfl | (simp; done) | (simp [*]; done)), H', ⟨by have := HK1.out; omega⟩, by repeat (first | exact Drawn0.refl _ | apply Drawn0.step)⟩
    ·rw [if_neg c4] at H
     exact absurd H (by simp)
   ·rw [if_neg c3] at H
    have c3b0 : decide (x5_1 < (l0.length : Int)) = false := decide_eq_false c3
    clear c3
    obtain rfl := Option.some.inj H
    go_wp2
    go_ret
    exact ⟨by first | rfl | (simp; done) | (simp [*]; done), by repeat (first | exact Drawn0.refl _ | apply Drawn0.step)⟩
end Go.Proofs.Ytojpibpjieanhaa.X
end
section
-- Written by a program of this session out of the kit's print of the loaded functions: a plain function of a Go function, and its contract.
namespace Go.Proofs.Ytojpibpjieanhaa.X
open Go.RowKit Go.Proofs.YtojpibpjieanhaaW.PrintWords Go.Proofs.YtojpibpjieanhaaW.PrintLast Go.Proofs.YtojpibpjieanhaaW.PrintMore
attribute [local go_sem] max2_int min2_int max_two min_two max_three min_three max_four min_four   -- for this text's walks alone
set_option linter.unusedVariables false
set_option linter.unusedSimpArgs false
mutual
def spec_l00Put.l0 : Nat → List Int → Int → List Int → Bool → Int → Option (List Int)
 | 0, _, _, _, _, _ => none
 | k + 1, x0, x1, x5, x6, x7 => if x7 < (x0.length : Int) then (if x6 = true then (spec_l00Put.j1 k x0 x1 x5 x6 x7 false) else (if 0 ≤ x7 then (spec_l00Put.j1 k x0 x1 x5 x6 x7 (decide ((rd x0 x7) ≥ x1))) else (none))) else (if x6 = true then (some x5) else (if x5.length < 17592186044416 then (some (x5 ++ [x1])) else (none)))
def spec_l00Put.j1 : Nat → List Int → Int → List Int → Bool → Int → Bool → Option (List Int)
 | 0, _, _, _, _, _, _ => none
 | k + 1, x0, x1, x5, x6, x7, x24 => if x24 = true then (if 0 ≤ x7 then (if x7 < (x0.length : Int) then (if (rd x0 x7) > x1 then (if x5.length < 17592186044416 then ((some (x5 ++ [x1] : List Int)).bind fun y190 => (if y190.length < 17592186044416 then (spec_l00Put.l0 k x0 x1 (y190 ++ [rd x0 x7]) true (wrap64 (x7 + 1))) else (none))) else (none)) else (if x5.length < 17592186044416 then (spec_l00Put.l0 k x0 x1 (x5 ++ [rd x0 x7]) true (wrap64 (x7 + 1))) else (none))) else (none)) else (none)) else (if 0 ≤ x7 then (if x7 < (x0.length : Int) then (if x5.length < 17592186044416 then (spec_l00Put.l0 k x0 x1 (x5 ++ [rd x0 x7]) x6 (wrap64 (x7 + 1))) else (none)) else (none)) else (none))
end
def spec_l00Put.f (k : Nat) (l0 : List Int) (a1 : Int) : Option (List Int) := spec_l00Put.l0 k l0 a1 (([] : List Int)) false 0
theorem spec_l00Put.mono_l : ∀ k, (∀ y0 y1 y2 y3 y4, LeO (spec_l00Put.l0 k y0 y1 y2 y3 y4) (spec_l00Put.l0 (k + 1) y0 y1 y2 y3 y4)) ∧ (∀ y0 y1 y2 y3 y4 y5, LeO (spec_l00Put.j1 k y0 y1 y2 y3 y4 y5) (spec_l00Put.j1 (k + 1) y0 y1 y2 y3 y4 y5))
 | 0 => ⟨fun _ _ _ _ _ r h => by simp [spec_l00Put.l0] at h, fun _ _ _ _ _ _ r h => by simp [spec_l00Put.j1] at h⟩
 | k + 1 => by
  obtain ⟨ih0, ih1⟩ := spec_l00Put.mono_l k
  refine ⟨?_, ?_⟩
  ·intro y0 y1 y2 y3 y4
   unfold spec_l00Put.l0
   repeat' first
   | (with_reducible exact ih0 _ _ _ _ _)
   | (with_reducible exact ih1 _ _ _ _ _ _)
   | (with_reducible exact LeO.refl _)
   | (with_reducible exact LeO.none _)
   | (with_reducible refine LeO.ite ?_ ?_)
   | (with_reducible refine LeO.bind ?_ (fun _ => ?_))
   | exact ih0 _ _ _ _ _
   | exact ih1 _ _ _ _ _ _
   | exact LeO.none _
   | refine LeO.ite ?_ ?_
   | refine LeO.bind ?_ (fun _ => ?_)
  ·intro y0 y1 y2 y3 y4 y5
   unfold spec_l00Put.j1
   repeat' first
   | (with_reducible exact ih0 _ _ _ _ _)
   | (with_reducible exact ih1 _ _ _ _ _ _)
   | (with_reducible exact LeO.refl _)
   | (with_reducible exact LeO.none _)
   | (with_reducible refine LeO.ite ?_ ?_)
   | (with_reducible refine LeO.bind ?_ (fun _ => ?_))
   | exact ih0 _ _ _ _ _
   | exact ih1 _ _ _ _ _ _
   | exact LeO.none _
   | refine LeO.ite ?_ ?_
   | refine LeO.bind ?_ (fun _ => ?_)
theorem spec_l00Put.mono : ∀ a0 a1 k, LeO (spec_l00Put.f k a0 a1) (spec_l00Put.f (k + 1) a0 a1) := by
 intro a0 a1 k
 obtain ⟨ih0, ih1⟩ := spec_l00Put.mono_l k
 unfold spec_l00Put.f
 repeat' first
   | (with_reducible exact ih0 _ _ _ _ _)
   | (with_reducible exact ih1 _ _ _ _ _ _)
   | (with_reducible exact LeO.refl _)
   | (with_reducible exact LeO.none _)
   | (with_reducible refine LeO.ite ?_ ?_)
   | (with_reducible refine LeO.bind ?_ (fun _ => ?_))
   | exact ih0 _ _ _ _ _
   | exact ih1 _ _ _ _ _ _
   | exact LeO.none _
   | refine LeO.ite ?_ ?_
   | refine LeO.bind ?_ (fun _ => ?_)
set_option maxHeartbeats 8000000 in
set_option maxRecDepth 100000 in
theorem spec_l00Put.calls (k : Nat) (A0 : Option Addr) (c0 : Nat) (l0 : List Int) (a1 : Int) (r : List Int) (w : World) (hr0 : Kd.C (Kd.int .i64) w A0 l0.length l0) (hc0 : l0.length ≤ c0) (h : spec_l00Put.f k l0 a1 = some r) :
  Calls Try.prog 101 #[.slice A0 l0.length c0, .int .i64 a1] w fun e w' => ∃ v0_ : Value, e = .returned (v0_) ∧ Kd.R (Kd.int .i64) 2 w' w.heap.size (fun _ => True) v0_ r ∧ Below w.heap.size w w' := by
 have HR0 := Aside0.mk hr0
 have HC0 := Aside0.mk hc0
 clear hr0 hc0
 have HB := Aside0.mk (Below.refl w.heap.size w)
 have H : (spec_l00Put.l0 k l0 a1 (([] : List Int)) false 0) = some r := h
 clear h
 obtain ⟨y182, hy182⟩ : ∃ y_ : List Int, y_ = (([] : List Int)) := ⟨_, rfl⟩
 replace H : (spec_l00Put.l0 k l0 a1 y182 false 0) = some r := by first | (rw [hy182]; with_reducible exact H) | (have H2_ := (Option.bind_some _ _).symm.trans H; rw [hy182]; with_reducible exact H2_) | (have H2_ := (Option.bind_some _ _).symm.trans H; with_reducible exact H2_) | with_reducible exact H | (rw [hy182]; exact H) | exact H
 have Ny182 := Aside0.mk hy182
 clear hy182
 have H' := Aside0.mk H
 clear H
 go_enter Try.func101, Try.ntmps101
 go_wp2_with (first | ((with_reducible refine gate_dst (N := 8) rfl ?_); refine Kd.R_lit (Kd.int .i64) _ 2 ?hg (N := 8) ?hd (xs := ([] : List Int)) (inner := []) (ok := fun _ => True) (okp := fun _ => True) ?hr ?hp (fun _ hk => hk) trivial (Below.refl _ _) (Nat.le_refl _) (by simp) ?_; (case hd => rfl); (case hg => rfl); (case hr => first | (go_simp; done) | (go_simp; rfl)); (case hp => exact (Reps.none _ _)); intro v183 w3 ho4 hb hg_ hnew_; clear hg_ hnew_; (first | rw [← Ny182.out] at ho4 | (simp only [Int.reduceToNat] at ho4; rw [← Ny182.out] at ho4)); have n0_ := Aside0.mk (Kd.R_lower ho4 (below_size (by repeat (first | (with_reducible first | exact HB.out | apply below_alloc | apply pw_below_drewN | apply below_drew1) | exact HB.out)))); have n1_ := Aside0.mk (below_step (by repeat (first | (with_reducible first | exact HB.out | apply below_alloc | apply pw_below_drewN | apply below_drew1) | exact HB.out)) hb); clear HB; have HO184 := n0_; have HB := n1_; clear n0_ n1_; clear hb ho4))
 go_loopg [5, 6, 7] k (fun kq v5 v6 v7 w' => ∃ (x5_1 : List Int) (x6_1 : Bool) (x7_1 : Int), v6 = .bool x6_1 ∧ v7 = .int .i64 x7_1 ∧ Aside0 (spec_l00Put.l0 kq l0 a1 x5_1 x6_1 x7_1 = some r) ∧ Aside0 (kq ≤ k) ∧ Aside0 (Kd.R (Kd.int .i64) 2 w' w.heap.size (fun _ => True) v5 x5_1) ∧ Aside0 (Below w.heap.size w w'))
 case atStart => exact ⟨(y182), (false), (0), (by first | rfl | (simp; done) | (simp [*]; done)), (by first | rfl | (simp; done) | (simp [*]; done)), H', ⟨Nat.le_refl _⟩, ⟨by (with_reducible repeat (first | apply Kd.R_alloc | apply Kd.R_drewN | apply Kd.R_drew)); exact HO184.out⟩, ⟨by repeat (first | (with_reducible first | exact HB.out | apply below_alloc | apply pw_below_drewN | apply below_drew1) | exact HB.out)⟩⟩
 case round =>
  clear H'
  try clear c1
  try clear p2
  obtain ⟨x5_1, x6_1, x7_1, rfl, rfl, HA, HK1, HO_5, HB⟩ := hrel
  cases gk with
  | zero => exact absurd HA.out (by simp [spec_l00Put.l0])
  | succ k1 =>
   have H := HA.out
   clear HA
   simp only [spec_l00Put.l0] at H
   by_cases c5 : x7_1 < (l0.length : Int)
   ·rw [if_pos c5] at H
    have c5b0 : decide (x7_1 < (l0.length : Int)) = true := decide_eq_true c5
    clear c5
    have HC6 := Aside0.mk H
    clear H
    go_upto_region 6 with (fail)
    go_cut [24] (fun v24 wc => ∃ (kq : Nat) (x24_5 : Bool), v24 = .bool x24_5 ∧ Aside0 (spec_l00Put.j1 kq l0 a1 x5_1 x6_1 x7_1 x24_5 = some r) ∧ Aside0 (kq ≤ k1) ∧ Aside0 (Kd.R (Kd.int .i64) 2 wc w.heap.size (fun _ => True) u5 x5_1) ∧ Aside0 (Below w.heap.size w wc))
    case first =>
     have H := HC6.out
     clear HC6
     by_cases c7 : x6_1 = true
     ·subst c7
      have H1 : (spec_l00Put.j1 k1 l0 a1 x5_1 true x7_1 false) = some r := by rw [if_pos rfl] at H; exact H
      clear H
      have H := H1
      clear H1
      have H' := Aside0.mk H
      clear H
      go_wp2
      go_meet
      case rel => exact ⟨_, (false), (by first | rfl | (simp; done) | (simp [*]; done)), H', ⟨by have := HK1.out; first | omega | exact Nat.le_refl _⟩, ⟨by (with_reducible repeat (first | apply Kd.R_alloc | apply Kd.R_drewN | apply Kd.R_drew)); exact HO_5.out⟩, ⟨by repeat (first | (with_reducible first | exact HB.out | apply below_alloc | apply pw_below_drewN | apply below_drew1) | exact HB.out)⟩⟩
     ·replace c7 := Bool.eq_false_iff.mpr c7
      subst c7
      have H1 : (if 0 ≤ x7_1 then (spec_l00Put.j1 k1 l0 a1 x5_1 false x7_1 (decide ((rd l0 x7_1) ≥ a1))) else (none)) = some r := by rw [if_neg (show ¬ (false = true) by decide)] at H; exact H
      clear H
      have H := H1
      clear H1
      by_cases c8 : 0 ≤ x7_1
      ·rw [if_pos c8] at H
       have c8b0 : decide (0 ≤ x7_1) = true := decide_eq_true c8
       clear c8
       (first | rw [c8b0] | (simp only [i64_w, i32_w]; rw [c8b0]) | skip)
       have H' := Aside0.mk H
       clear H
       have p188 : 0 ≤ (x7_1 : Int) := of_decide_eq_true (by first | (with_reducible assumption) | assumption)
       have q188 : x7_1 < (l0.length : Int) := of_decide_eq_true (by first | (with_reducible assumption) | assumption)
       obtain ⟨ad188, e188, hx188_0⟩ := Kd.at_int HR0.out x7_1 p188 q188
       cases e188
       replace hx188_0 := (HB.out.cell (World.block_lt_of_cell? w _ hx188_0)).trans hx188_0
       replace p188 := eq_true p188
       replace q188 := eq_true q188
       go_wp2
       go_meet
       case rel => exact ⟨_, (decide ((rd l0 x7_1) ≥ a1)), (by first | rfl | (simp; done) | (simp [*]; done)), H', ⟨by have := HK1.out; first | omega | exact Nat.le_refl _⟩, ⟨by (with_reducible repeat (first | apply Kd.R_alloc | apply Kd.R_drewN | apply Kd.R_drew)); exact HO_5.out⟩, ⟨by repeat (first | (with_reducible first | exact HB.out | apply below_alloc | apply pw_below_drewN | apply below_drew1) | exact HB.out)⟩⟩
      ·rw [if_neg c8] at H
       exact absurd H (by simp)
    case rest =>
     clear HC6
     try clear c1
     try clear p1
     try clear q1
     try clear hx1
     try clear p2
     try clear c5
     try clear c5b0
     try clear c7
     try clear c8
     try clear c8b0
     try clear hx188_0
     try clear p188
     try clear p2
     try clear q188
     obtain ⟨kq, x24_5, rfl, HA, HJ5, HO_5, HB⟩ := hcut
     cases kq with
     | zero => exact absurd HA.out (by simp [spec_l00Put.j1])
     | succ kj5 =>
      have H := HA.out
      clear HA
      simp only [spec_l00Put.j1] at H
      by_cases c9 : x24_5 = true
      ·subst c9
       have H1 : (if 0 ≤ x7_1 then (if x7_1 < (l0.length : Int) then (if (rd l0 x7_1) > a1 then (if x5_1.length < 17592186044416 then ((some (x5_1 ++ [a1] : List Int)).bind fun y190 => (if y190.length < 17592186044416 then (spec_l00Put.l0 kj5 l0 a1 (y190 ++ [rd l0 x7_1]) true (wrap64 (x7_1 + 1))) else (none))) else (none)) else (if x5_1.length < 17592186044416 then (spec_l00Put.l0 kj5 l0 a1 (x5_1 ++ [rd l0 x7_1]) true (wrap64 (x7_1 + 1))) else (none))) else (none)) else (none)) = some r := by rw [if_pos rfl] at H; exact H
       clear H
       have H := H1
       clear H1
       by_cases c10 : 0 ≤ x7_1
       ·rw [if_pos c10] at H
        have c10b0 : decide (0 ≤ x7_1) = true := decide_eq_true c10
        clear c10
        by_cases c11 : x7_1 < (l0.length : Int)
        ·rw [if_pos c11] at H
         have c11b0 : decide (x7_1 < (l0.length : Int)) = true := decide_eq_true c11
         clear c11
         by_cases c12 : (rd l0 x7_1) > a1
         ·rw [if_pos c12] at H
          have c12b0 : decide (a1 < (rd l0 x7_1)) = true := decide_eq_true c12
          clear c12
          by_cases c13 : x5_1.length < 17592186044416
          ·rw [if_pos c13] at H
           have LMc13 := Aside0.mk c13
           clear c13
           obtain ⟨y190, hy190⟩ : ∃ y_ : List Int, y_ = (x5_1 ++ [a1]) := ⟨_, rfl⟩
           replace H : (if y190.length < 17592186044416 then (spec_l00Put.l0 kj5 l0 a1 (y190 ++ [rd l0 x7_1]) true (wrap64 (x7_1 + 1))) else (none)) = some r := by first | (rw [hy190]; with_reducible exact H) | (have H2_ := (Option.bind_some _ _).symm.trans H; rw [hy190]; with_reducible exact H2_) | (have H2_ := (Option.bind_some _ _).symm.trans H; with_reducible exact H2_) | with_reducible exact H | (rw [hy190]; exact H) | exact H
           have Ny190 := Aside0.mk hy190
           clear hy190
           by_cases c14 : y190.length < 17592186044416
           ·rw [if_pos c14] at H
            have LMc14 := Aside0.mk c14
            clear c14
            obtain ⟨y194, hy194⟩ : ∃ y_ : List Int, y_ = (y190 ++ [rd l0 x7_1]) := ⟨_, rfl⟩
            replace H : (spec_l00Put.l0 kj5 l0 a1 y194 true (wrap64 (x7_1 + 1))) = some r := by first | (rw [hy194]; with_reducible exact H) | (have H2_ := (Option.bind_some _ _).symm.trans H; rw [hy194]; with_reducible exact H2_) | (have H2_ := (Option.bind_some _ _).symm.trans H; with_reducible exact H2_) | with_reducible exact H | (rw [hy194]; exact H) | exact H
            have Ny194 := Aside0.mk hy194
            clear hy194
            have H' := Aside0.mk H
            clear H
            have p189 : 0 ≤ (x7_1 : Int) := of_decide_eq_true (by first | (with_reducible assumption) | assumption)
            have q189 : x7_1 < (l0.length : Int) := of_decide_eq_true (by first | (with_reducible assumption) | assumption)
            obtain ⟨ad189, e189, hx189_0⟩ := Kd.at_int HR0.out x7_1 p189 q189
            cases e189
            replace hx189_0 := (HB.out.cell (World.block_lt_of_cell? w _ hx189_0)).trans hx189_0
            replace p189 := eq_true p189
            replace q189 := eq_true q189
            go_wp2_with (first | ((with_reducible refine gate_builtin (b := .append) (xs := #[.tmp 31, .tmp 33]) rfl ?_); at_builtin; refine Kd.R_append (Kd.int .i64) (w0 := w) w.heap.size rfl (.tmp 31) (.tmp 33) 22 2 (.int .i64 0) 8 rfl Try.underlying22 info2 rfl (by decide) (by omega) u5 x5_1 a1 [.int .i64 a1] (fun _ => True) (fun _ => False) rfl rfl ?aP (fun _ hk => hk.elim) ?aF ?aO ?aB ?aS ?aL ?_; (case aP => exact rfl); (case aB => exact (by repeat (first | (with_reducible first | exact HB.out | apply below_alloc | apply pw_below_drewN | apply below_drew1) | exact HB.out))); (case aF => exact (fun _ _ => trivial)); (case aO => exact (by (with_reducible repeat (first | apply Kd.R_alloc | apply Kd.R_drewN | apply Kd.R_drew)); exact HO_5.out)); (case aS => exact (below_size (by repeat (first | (with_reducible first | exact HB.out | apply below_alloc | apply pw_below_drewN | apply below_drew1) | exact HB.out)))); (case aL => have := LMc13.out; omega); intro v191 w15 ho hb hg hat; rw [← Ny190.out] at ho; have n0_ := Aside0.mk (hb); have n1_ := Aside0.mk (ho); clear HB; clear HO_5; have HB := n0_; have HO192 := n1_; clear n0_ n1_; clear ho hb hg hat; have p193 : 0 ≤ (x7_1 : Int) := of_decide_eq_true (by first | (with_reducible assumption) | assumption); have q193 : x7_1 < (l0.length : Int) := of_decide_eq_true (by first | (with_reducible assumption) | assumption); obtain ⟨ad193, e193, hx193_0⟩ := Kd.at_int HR0.out x7_1 p193 q193; obtain rfl : ad189 = ad193 := (by injection e193); replace hx193_0 := (HB.out.cell (World.block_lt_of_cell? w _ hx193_0)).trans hx193_0; replace p193 := eq_true p193; replace q193 := eq_true q193) | ((with_reducible refine gate_builtin (b := .append) (xs := #[.tmp 35, .tmp 40]) rfl ?_); at_builtin; refine Kd.R_append (Kd.int .i64) (w0 := w) w.heap.size rfl (.tmp 35) (.tmp 40) 22 2 (.int .i64 0) 8 rfl Try.underlying22 info2 rfl (by decide) (by omega) v191 y190 (rd l0 x7_1) [.int .i64 (rd l0 x7_1)] (fun _ => True) (fun _ => False) rfl rfl ?aP (fun _ hk => hk.elim) ?aF ?aO ?aB ?aS ?aL ?_; (case aP => exact rfl); (case aB => exact (by repeat (first | (with_reducible first | exact HB.out | apply below_alloc | apply pw_below_drewN | apply below_drew1) | exact HB.out))); (case aF => exact (fun _ _ => trivial)); (case aO => exact (by (with_reducible repeat (first | apply Kd.R_alloc | apply Kd.R_drewN | apply Kd.R_drew)); exact HO192.out)); (case aS => exact (below_size (by repeat (first | (with_reducible first | exact HB.out | apply below_alloc | apply pw_below_drewN | apply below_drew1) | exact HB.out)))); (case aL => have := LMc14.out; omega); intro v195 w16 ho hb hg hat; rw [← Ny194.out] at ho; have n0_ := Aside0.mk (hb); have n1_ := Aside0.mk (ho); clear HB; clear HO192; have HB := n0_; have HO196 := n1_; clear n0_ n1_; clear ho hb hg hat))
            go_roundg kj5
            case measure => have := HK1.out; have := HJ5.out; omega
            case rel => exact ⟨(y194), (true), (wrap64 (x7_1 + 1)), (by first | rfl | (simp; done) | (simp [*]; done)), (by first | rfl | (simp; done) | (simp [*]; done)), H', ⟨by have := HK1.out; have := HJ5.out; omega⟩, ⟨by (with_reducible repeat (first | apply Kd.R_alloc | apply Kd.R_drewN | apply Kd.R_drew)); exact HO196.out⟩, ⟨by repeat (first | (with_reducible first | exact HB.out | apply below_alloc | apply pw_below_drewN | apply below_drew1) | exact HB.out)⟩⟩
           ·rw [if_neg c14] at H
            exact absurd H (by simp)
          ·rw [if_neg c13] at H
           exact absurd H (by simp)
         ·rw [if_neg c12] at H
          have c12b0 : decide (a1 < (rd l0 x7_1)) = false := decide_eq_false c12
          clear c12
          by_cases c17 : x5_1.length < 17592186044416
          ·rw [if_pos c17] at H
           have LMc17 := Aside0.mk c17
           clear c17
           obtain ⟨y198, hy198⟩ : ∃ y_ : List Int, y_ = (x5_1 ++ [rd l0 x7_1]) := ⟨_, rfl⟩
           replace H : (spec_l00Put.l0 kj5 l0 a1 y198 true (wrap64 (x7_1 + 1))) = some r := by first | (rw [hy198]; with_reducible exact H) | (have H2_ := (Option.bind_some _ _).symm.trans H; rw [hy198]; with_reducible exact H2_) | (have H2_ := (Option.bind_some _ _).symm.trans H; with_reducible exact H2_) | with_reducible exact H | (rw [hy198]; exact H) | exact H
           have Ny198 := Aside0.mk hy198
           clear hy198
           have H' := Aside0.mk H
           clear H
           have p189 : 0 ≤ (x7_1 : Int) := of_decide_eq_true (by first | (with_reducible assumption) | assumption)
           have q189 : x7_1 < (l0.length : Int) := of_decide_eq_true (by first | (with_reducible assumption) | assumption)
           obtain ⟨ad189, e189, hx189_0⟩ := Kd.at_int HR0.out x7_1 p189 q189
           cases e189
           replace hx189_0 := (HB.out.cell (World.block_lt_of_cell? w _ hx189_0)).trans hx189_0
           replace p189 := eq_true p189
           replace q189 := eq_true q189
           have p197 : 0 ≤ (x7_1 : Int) := of_decide_eq_true (by first | (with_reducible assumption) | assumption)
           have q197 : x7_1 < (l0.length : Int) := of_decide_eq_true (by first | (with_reducible assumption) | assumption)
           obtain ⟨ad197, e197, hx197_0⟩ := Kd.at_int HR0.out x7_1 p197 q197
           obtain rfl : ad189 = ad197 := (by injection e197)
           replace hx197_0 := (HB.out.cell (World.block_lt_of_cell? w _ hx197_0)).trans hx197_0
           replace p197 := eq_true p197
           replace q197 := eq_true q197
           go_wp2_with (first | ((with_reducible refine gate_builtin (b := .append) (xs := #[.tmp 35, .tmp 40]) rfl ?_); at_builtin; refine Kd.R_append (Kd.int .i64) (w0 := w) w.heap.size rfl (.tmp 35) (.tmp 40) 22 2 (.int .i64 0) 8 rfl Try.underlying22 info2 rfl (by decide) (by omega) u5 x5_1 (rd l0 x7_1) [.int .i64 (rd l0 x7_1)] (fun _ => True) (fun _ => False) rfl rfl ?aP (fun _ hk => hk.elim) ?aF ?aO ?aB ?aS ?aL ?_; (case aP => exact rfl); (case aB => exact (by repeat (first | (with_reducible first | exact HB.out | apply below_alloc | apply pw_below_drewN | apply below_drew1) | exact HB.out))); (case aF => exact (fun _ _ => trivial)); (case aO => exact (by (with_reducible repeat (first | apply Kd.R_alloc | apply Kd.R_drewN | apply Kd.R_drew)); exact HO_5.out)); (case aS => exact (below_size (by repeat (first | (with_reducible first | exact HB.out | apply below_alloc | apply pw_below_drewN | apply below_drew1) | exact HB.out)))); (case aL => have := LMc17.out; omega); intro v199 w18 ho hb hg hat; rw [← Ny198.out] at ho; have n0_ := Aside0.mk (hb); have n1_ := Aside0.mk (ho); clear HB; clear HO_5; have HB := n0_; have HO200 := n1_; clear n0_ n1_; clear ho hb hg hat))
           go_roundg kj5
           case measure => have := HK1.out; have := HJ5.out; omega
           case rel => exact ⟨(y198), (true), (wrap64 (x7_1 + 1)), (by first | rfl | (simp; done) | (simp [*]; done)), (by first | rfl | (simp; done) | (simp [*]; done)), H', ⟨by have := HK1.out; have := HJ5.out; omega⟩, ⟨by (with_reducible repeat (first | apply Kd.R_alloc | apply Kd.R_drewN | apply Kd.R_drew)); exact HO200.out⟩, ⟨by repeat (first | (with_reducible first | exact HB.out | apply below_alloc | apply pw_below_drewN | apply below_drew1) | exact HB.out)⟩⟩
          ·rw [if_neg c17] at H
           exact absurd H (by simp)
        ·rw [if_neg c11] at H
         exact absurd H (by simp)
       ·rw [if_neg c10] at H
        exact absurd H (by simp)
      ·replace c9 := Bool.eq_false_iff.mpr c9
       subst c9
       have H1 : (if 0 ≤ x7_1 then (if x7_1 < (l0.length : Int) then (if x5_1.length < 17592186044416 then (spec_l00Put.l0 kj5 l0 a1 (x5_1 ++ [rd l0 x7_1]) x6_1 (wrap64 (x7_1 + 1))) else (none)) else (none)) else (none)) = some r := by rw [if_neg (show ¬ (false = true) by decide)] at H; exact H
       clear H
       have H := H1
       clear H1
       by_cases c19 : 0 ≤ x7_1
       ·rw [if_pos c19] at H
        have c19b0 : decide (0 ≤ x7_1) = true := decide_eq_true c19
        clear c19
        by_cases c20 : x7_1 < (l0.length : Int)
        ·rw [if_pos c20] at H
         have c20b0 : decide (x7_1 < (l0.length : Int)) = true := decide_eq_true c20
         clear c20
         by_cases c21 : x5_1.length < 17592186044416
         ·rw [if_pos c21] at H
          have LMc21 := Aside0.mk c21
          clear c21
          obtain ⟨y202, hy202⟩ : ∃ y_ : List Int, y_ = (x5_1 ++ [rd l0 x7_1]) := ⟨_, rfl⟩
          replace H : (spec_l00Put.l0 kj5 l0 a1 y202 x6_1 (wrap64 (x7_1 + 1))) = some r := by first | (rw [hy202]; with_reducible exact H) | (have H2_ := (Option.bind_some _ _).symm.trans H; rw [hy202]; with_reducible exact H2_) | (have H2_ := (Option.bind_some _ _).symm.trans H; with_reducible exact H2_) | with_reducible exact H | (rw [hy202]; exact H) | exact H
          have Ny202 := Aside0.mk hy202
          clear hy202
          have H' := Aside0.mk H
          clear H
          have p201 : 0 ≤ (x7_1 : Int) := of_decide_eq_true (by first | (with_reducible assumption) | assumption)
          have q201 : x7_1 < (l0.length : Int) := of_decide_eq_true (by first | (with_reducible assumption) | assumption)
          obtain ⟨ad201, e201, hx201_0⟩ := Kd.at_int HR0.out x7_1 p201 q201
          cases e201
          replace hx201_0 := (HB.out.cell (World.block_lt_of_cell? w _ hx201_0)).trans hx201_0
          replace p201 := eq_true p201
          replace q201 := eq_true q201
          go_wp2_with (first | ((with_reducible refine gate_builtin (b := .append) (xs := #[.tmp 35, .tmp 40]) rfl ?_); at_builtin; refine Kd.R_append (Kd.int .i64) (w0 := w) w.heap.size rfl (.tmp 35) (.tmp 40) 22 2 (.int .i64 0) 8 rfl Try.underlying22 info2 rfl (by decide) (by omega) u5 x5_1 (rd l0 x7_1) [.int .i64 (rd l0 x7_1)] (fun _ => True) (fun _ => False) rfl rfl ?aP (fun _ hk => hk.elim) ?aF ?aO ?aB ?aS ?aL ?_; (case aP => exact rfl); (case aB => exact (by repeat (first | (with_reducible first | exact HB.out | apply below_alloc | apply pw_below_drewN | apply below_drew1) | exact HB.out))); (case aF => exact (fun _ _ => trivial)); (case aO => exact (by (with_reducible repeat (first | apply Kd.R_alloc | apply Kd.R_drewN | apply Kd.R_drew)); exact HO_5.out)); (case aS => exact (below_size (by repeat (first | (with_reducible first | exact HB.out | apply below_alloc | apply pw_below_drewN | apply below_drew1) | exact HB.out)))); (case aL => have := LMc21.out; omega); intro v203 w22 ho hb hg hat; rw [← Ny202.out] at ho; have n0_ := Aside0.mk (hb); have n1_ := Aside0.mk (ho); clear HB; clear HO_5; have HB := n0_; have HO204 := n1_; clear n0_ n1_; clear ho hb hg hat))
          go_roundg kj5
          case measure => have := HK1.out; have := HJ5.out; omega
          case rel => exact ⟨(y202), (x6_1), (wrap64 (x7_1 + 1)), (by first | rfl | (simp; done) | (simp [*]; done)), (by first | rfl | (simp; done) | (simp [*]; done)), H', ⟨by have := HK1.out; have := HJ5.out; omega⟩, ⟨by (with_reducible repeat (first | apply Kd.R_alloc | apply Kd.R_drewN | apply Kd.R_drew)); exact HO204.out⟩, ⟨by repeat (first | (with_reducible first | exact HB.out | apply below_alloc | apply pw_below_drewN | apply below_drew1) | exact HB.out)⟩⟩
         ·rw [if_neg c21] at H
          exact absurd H (by simp)
        ·rw [if_neg c20] at H
         exact absurd H (by simp)
       ·rw [if_neg c19] at H
        exact absurd H (by simp)
   ·rw [if_neg c5] at H
    have c5b0 : decide (x7_1 < (l0.length : Int)) = false := decide_eq_false c5
    clear c5
    by_cases c23 : x6_1 = true
    ·subst c23
     have H1 : (some x5_1) = some r := by rw [if_pos rfl] at H; exact H
     clear H
     have H := H1
     clear H1
     obtain rfl := Option.some.inj H
     go_wp2
     go_ret
     exact ⟨_, by first | rfl | (simp [errW_none, errW_some] <;> rfl) | (simp [*, errW_none, errW_some] <;> rfl), by (with_reducible repeat (first | apply Kd.R_alloc | apply Kd.R_drewN | apply Kd.R_drew)); exact HO_5.out, by repeat (first | (with_reducible first | exact HB.out | apply below_alloc | apply pw_below_drewN | apply below_drew1) | exact HB.out)⟩
    ·replace c23 := Bool.eq_false_iff.mpr c23
     subst c23
     have H1 : (if x5_1.length < 17592186044416 then (some (x5_1 ++ [a1])) else (none)) = some r := by rw [if_neg (show ¬ (false = true) by decide)] at H; exact H
     clear H
     have H := H1
     clear H1
     by_cases c24 : x5_1.length < 17592186044416
     ·rw [if_pos c24] at H
      have LMc24 := Aside0.mk c24
      clear c24
      obtain ⟨y185, hy185⟩ : ∃ y_ : List Int, y_ = (x5_1 ++ [a1]) := ⟨_, rfl⟩
      replace H : (some y185) = some r := by first | (rw [hy185]; with_reducible exact H) | (have H2_ := (Option.bind_some _ _).symm.trans H; rw [hy185]; with_reducible exact H2_) | (have H2_ := (Option.bind_some _ _).symm.trans H; with_reducible exact H2_) | with_reducible exact H | (rw [hy185]; exact H) | exact H
      have Ny185 := Aside0.mk hy185
      clear hy185
      obtain rfl := Option.some.inj H
      go_wp2_with (first | ((with_reducible refine gate_builtin (b := .append) (xs := #[.tmp 44, .tmp 46]) rfl ?_); at_builtin; refine Kd.R_append (Kd.int .i64) (w0 := w) w.heap.size rfl (.tmp 44) (.tmp 46) 22 2 (.int .i64 0) 8 rfl Try.underlying22 info2 rfl (by decide) (by omega) u5 x5_1 a1 [.int .i64 a1] (fun _ => True) (fun _ => False) rfl rfl ?aP (fun _ hk => hk.elim) ?aF ?aO ?aB ?aS ?aL ?_; (case aP => exact rfl); (case aB => exact (by repeat (first | (with_reducible first | exact HB.out | apply below_alloc | apply pw_below_drewN | apply below_drew1) | exact HB.out))); (case aF => exact (fun _ _ => trivial)); (case aO => exact (by (with_reducible repeat (first | apply Kd.R_alloc | apply Kd.R_drewN | apply Kd.R_drew)); exact HO_5.out)); (case aS => exact (below_size (by repeat (first | (with_reducible first | exact HB.out | apply below_alloc | apply pw_below_drewN | apply below_drew1) | exact HB.out)))); (case aL => have := LMc24.out; omega); intro v186 w25 ho hb hg hat; rw [← Ny185.out] at ho; have n0_ := Aside0.mk (hb); have n1_ := Aside0.mk (ho); clear HB; clear HO_5; have HB := n0_; have HO187 := n1_; clear n0_ n1_; clear ho hb hg hat))
      go_ret
      exact ⟨_, by first | rfl | (simp [errW_none, errW_some] <;> rfl) | (simp [*, errW_none, errW_some] <;> rfl), by (with_reducible repeat (first | apply Kd.R_alloc | apply Kd.R_drewN | apply Kd.R_drew)); exact HO187.out, by repeat (first | (with_reducible first | exact HB.out | apply below_alloc | apply pw_below_drewN | apply below_drew1) | exact HB.out)⟩
     ·rw [if_neg c24] at H
      exact absurd H (by simp)
end Go.Proofs.Ytojpibpjieanhaa.X
end
