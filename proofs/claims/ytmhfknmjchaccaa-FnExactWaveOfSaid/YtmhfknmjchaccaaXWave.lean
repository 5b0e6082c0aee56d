/- The program's waveOf, over whatever closure: the wave of the levels that the closure tells tick by tick. Conditions: as the lemma says (what the closure's calls leave). -/
import Derived.Test.YtmhfknmjchaccaaXFun
namespace Go.Proofs.Ytmhfknmjchaccaa.X
open Go.RowKit Go.Proofs.YtmhfknmjchaccaaW.PrintWords Go.Proofs.YtmhfknmjchaccaaW.PrintLast Go.Proofs.YtmhfknmjchaccaaW.PrintMore

/-- The bytes of a wave whose levels are told. -/
def lvs (lv : Nat → Bool) (n : Nat) : List Int := (List.range n).map fun i => if lv i = true then 49 else 48
theorem lvs_len (lv : Nat → Bool) (n : Nat) : (lvs lv n).length = n := by simp [lvs]
theorem lvs_one (lv : Nat → Bool) (n : Nat) (h : lv n = true) : lvs lv (n + 1) = lvs lv n ++ [49] := by simp [lvs, List.range_succ, h]
theorem lvs_zero (lv : Nat → Bool) (n : Nat) (h : lv n = false) : lvs lv (n + 1) = lvs lv n ++ [48] := by simp [lvs, List.range_succ, h]
theorem info5 : (Try.prog.info? 5).map (fun i => (i.zero, i.size, i.bytes)) = some (some (.int .u8 0), 1, 1) := by kernel_rfl

def Same (H : Nat) (wa wb : World) : Prop := ∀ k, k < H → wb.heap[k]? = wa.heap[k]?
def Stable (Inv : Nat → World → Prop) (H : Nat) : Prop := ∀ i wa wb, Inv i wa → Same H wa wb → Inv i wb
/-- What a closure's call at a tick leaves. -/
def Clo (f : Nat) (caps : Array Value) (lv : Nat → Bool) (Inv : Nat → World → Prop) (B0 : Nat) (S : Nat → Prop) (H n : Nat) : Prop :=
  ∀ i, i < n → ∀ wr, Inv i wr → H ≤ wr.heap.size → Calls Try.prog f (#[.int .i64 i] ++ caps) wr fun e w' => e = .returned (.bool (lv i)) ∧ Inv (i + 1) w' ∧ Below B0 wr w' ∧ Kept wr w' S

set_option maxHeartbeats 4000000 in
set_option maxRecDepth 100000 in
theorem waveOf_any (n : Nat) (hn : n ≤ 1000000) (f : Nat) (fn : Func) (caps : Array Value) (lv : Nat → Bool) (Inv : Nat → World → Prop) (B0 : Nat) (S : Nat → Prop) (w : World)
    (hf : Try.prog.funcs[f]? = some fn) (hname : (fn.name == "runtime.NumGoroutine") = false) (hb : fn.body.isSome = true)
    (h0 : Inv 0 w) (hB0 : B0 ≤ w.heap.size) (hS : ∀ k, S k → k < w.heap.size) (hst : Stable Inv w.heap.size) (hcl : Clo f caps lv Inv B0 S w.heap.size n) :
    Calls Try.prog 45 #[.int .i64 n, .func (.func f) #[] caps] w fun e w' => e = .returned (.string (strOfNums (lvs lv n))) ∧ Inv n w' ∧ Below B0 w w' ∧ Kept w w' S := by
  have HF := Aside0.mk hf
  have HN := Aside0.mk hname
  have HBD := Aside0.mk hb
  have HI := Aside0.mk h0
  have HS := Aside0.mk hS
  have HST := Aside0.mk hst
  have HCL := Aside0.mk hcl
  clear hf hname hb h0 hS hst hcl
  go_enter Try.func45, Try.ntmps45
  have HB0 := Aside0.mk (Below.refl B0 w)
  have HK0 := Aside0.mk (Kept.refl w S)
  go_wp2_with (((with_reducible refine gate_dst (N := 7) rfl ?_); refine Kd.R_lit (Kd.int .u8) w.heap.size 5 ?hg (N := 7) ?hd (xs := ([] : List Int)) (inner := []) (ok := fun k => w.heap.size ≤ k) (okp := fun _ => False) ?hr ?hp (fun _ hk => hk.elim) (Nat.le_refl _) (Below.refl _ _) (Nat.le_refl _) (by simp) ?_; (case hd => rfl); (case hg => rfl); (case hr => first | (go_simp; done) | (go_simp; rfl)); (case hp => exact (Reps.none _ _)); intro v1 w1 ho1 hb1 hg_ hnew_; clear hg_ hnew_; have HO := Aside0.mk ho1; have HBL := Aside0.mk hb1; clear ho1 hb1))
  go_loopg [5, 9] n (fun kq v5 v9 w' => ∃ i : Nat, v9 = .int .i64 i ∧ Aside0 (i + kq = n) ∧ Aside0 (Kd.R (Kd.int .u8) 5 w' w.heap.size (fun k => w.heap.size ≤ k) v5 (lvs lv i)) ∧ Aside0 (Inv i w') ∧ Aside0 (Below B0 w w') ∧ Aside0 (Kept w w' S))
  case atStart => exact ⟨0, by first | rfl | (simp; done), ⟨by omega⟩, ⟨HO.out⟩, ⟨HST.out 0 _ _ HI.out HBL.out.block⟩, ⟨HBL.out.mono hB0⟩, ⟨HK0.out.below HBL.out⟩⟩
  case round =>
    clear HO HBL HI HB0 HK0
    obtain ⟨i, rfl, HE, HO, HI, HB, HK⟩ := hrel
    by_cases hlt : i < n
    · cases gk with
      | zero => have := HE.out; omega
      | succ g1 =>
      rcases hl : lv i with _ | _
      · have HL := Aside0.mk hl
        have HC := Aside0.mk (HCL.out i hlt wr HI.out HK.out.1)
        rw [hl] at HC
        clear hl
        go_wp2_with (first | ((with_reducible refine gate_dst (N := 14) rfl ?_); refine goesV_ (some 14) rfl rfl HF.out HN.out HBD.out #[.int .i64 i] rfl rfl (by (try simp only [List.map_toArray, List.map_cons, List.map_nil]); first | done | rfl) ?_; refine HC.out.mono ?_; rintro e w2 ⟨rfl, hI, hB, hK⟩; refine ⟨_, rfl, ?_⟩; have n0_ := Aside0.mk (Kd.R_kept HO.out hK (fun k hk hs => by have := HS.out k hs; omega)); have n1_ := Aside0.mk hI; have n2_ := Aside0.mk (HB.out.trans hB); have n3_ := Aside0.mk (HK.out.then_ hK (fun _ hs => .inl hs)); clear HO HI HB HK HC hI hB hK; have HO := n0_; have HI := n1_; have HB := n2_; have HK := n3_; clear n0_ n1_ n2_ n3_) | ((with_reducible refine gate_builtin (b := .append) (xs := #[.tmp 18, .tmp 19]) rfl ?_); at_builtin; refine Kd.R_append (Kd.int .u8) (w0 := w2) w.heap.size rfl (.tmp 18) (.tmp 19) 28 5 (.int .u8 0) 1 rfl Try.underlying28 info5 rfl (by decide) (by omega) u5 (lvs lv i) 48 [.int .u8 48] (fun k => w.heap.size ≤ k) (fun _ => False) rfl rfl ?aP (fun _ hk => hk.elim) ?aF ?aO ?aB ?aS ?aL ?_; (case aP => exact rfl); (case aB => exact Below.refl _ _); (case aF => exact (fun _ hk => Nat.le_trans HK.out.1 hk)); (case aO => exact HO.out); (case aS => exact HK.out.1); (case aL => rw [lvs_len]; omega); intro v3 w3 ho hb hg hat; rw [← lvs_zero lv i HL.out] at ho; have n0_ := Aside0.mk ho; have n1_ := Aside0.mk (HST.out (i + 1) _ _ HI.out hb.block); have n2_ := Aside0.mk (HB.out.trans (hb.mono hB0)); have n3_ := Aside0.mk (HK.out.of_grown hg (fun k hk => .inr (HO.out.1 k hk))); clear HO HI HB HK; have HO := n0_; have HI := n1_; have HB := n2_; have HK := n3_; clear n0_ n1_ n2_ n3_; clear ho hb hg hat))
        go_roundg g1
        case measure => omega
        case rel => exact ⟨i + 1, by go_num, ⟨by have := HE.out; omega⟩, HO, HI, HB, HK⟩
      · have HL := Aside0.mk hl
        have HC := Aside0.mk (HCL.out i hlt wr HI.out HK.out.1)
        rw [hl] at HC
        clear hl
        go_wp2_with (first | ((with_reducible refine gate_dst (N := 14) rfl ?_); refine goesV_ (some 14) rfl rfl HF.out HN.out HBD.out #[.int .i64 i] rfl rfl (by (try simp only [List.map_toArray, List.map_cons, List.map_nil]); first | done | rfl) ?_; refine HC.out.mono ?_; rintro e w2 ⟨rfl, hI, hB, hK⟩; refine ⟨_, rfl, ?_⟩; have n0_ := Aside0.mk (Kd.R_kept HO.out hK (fun k hk hs => by have := HS.out k hs; omega)); have n1_ := Aside0.mk hI; have n2_ := Aside0.mk (HB.out.trans hB); have n3_ := Aside0.mk (HK.out.then_ hK (fun _ hs => .inl hs)); clear HO HI HB HK HC hI hB hK; have HO := n0_; have HI := n1_; have HB := n2_; have HK := n3_; clear n0_ n1_ n2_ n3_) | ((with_reducible refine gate_builtin (b := .append) (xs := #[.tmp 15, .tmp 16]) rfl ?_); at_builtin; refine Kd.R_append (Kd.int .u8) (w0 := w2) w.heap.size rfl (.tmp 15) (.tmp 16) 28 5 (.int .u8 0) 1 rfl Try.underlying28 info5 rfl (by decide) (by omega) u5 (lvs lv i) 49 [.int .u8 49] (fun k => w.heap.size ≤ k) (fun _ => False) rfl rfl ?aP (fun _ hk => hk.elim) ?aF ?aO ?aB ?aS ?aL ?_; (case aP => exact rfl); (case aB => exact Below.refl _ _); (case aF => exact (fun _ hk => Nat.le_trans HK.out.1 hk)); (case aO => exact HO.out); (case aS => exact HK.out.1); (case aL => rw [lvs_len]; omega); intro v3 w3 ho hb hg hat; rw [← lvs_one lv i HL.out] at ho; have n0_ := Aside0.mk ho; have n1_ := Aside0.mk (HST.out (i + 1) _ _ HI.out hb.block); have n2_ := Aside0.mk (HB.out.trans (hb.mono hB0)); have n3_ := Aside0.mk (HK.out.of_grown hg (fun k hk => .inr (HO.out.1 k hk))); clear HO HI HB HK; have HO := n0_; have HI := n1_; have HB := n2_; have HK := n3_; clear n0_ n1_ n2_ n3_; clear ho hb hg hat))
        go_roundg g1
        case measure => omega
        case rel => exact ⟨i + 1, by go_num, ⟨by have := HE.out; omega⟩, HO, HI, HB, HK⟩
    · have e : i = n := by have := HE.out; omega
      subst e
      have hcv := own_string (P := Try.prog) Try.underlying28 Try.underlying5 Try.underlying9 (Kd.own_of_R HO.out)
      go_wp2
      go_ret
      exact ⟨rfl, HI.out, HB.out, HK.out⟩
end Go.Proofs.Ytmhfknmjchaccaa.X
