/- The closures of the shifting counters, of the reflected and of the binary one: what each tells of a state. Conditions: as each lemma says. -/
import Derived.Test.YtnpgmkikdnlnaaaXFun
import Derived.Test.YtnpgmkikdnlnaaaXp31
import Derived.Test.YtnpgmkikdnlnaaaXp32
import Derived.Test.YtnpgmkikdnlnaaaXp45
import Derived.Test.YtnpgmkikdnlnaaaXp46
namespace Go.Proofs.Ytnpgmkikdnlnaaa.X
open Go.RowKit Go.Proofs.YtnpgmkikdnlnaaaW.PrintWords Go.Proofs.YtnpgmkikdnlnaaaW.PrintLast Go.Proofs.YtnpgmkikdnlnaaaW.PrintMore

set_option linter.unusedVariables false
set_option linter.unusedSimpArgs false
theorem quiet_d {P : Program} {f : FuncId} {args : Array Value} {w : World} {n : Nat} {v : Value} (h : Calls P f args (w.drewN n) fun e w' => e = .returned v ∧ Drawn0 (w.drewN n) w') : Calls P f args (w.drewN n) fun e w'' => e = .returned v ∧ ∃ m, w'' = w.drewN m :=
  Calls.quiet_of (h.mono fun _ _ h => ⟨h.1, h.2.out⟩)

set_option maxHeartbeats 4000000 in
set_option maxRecDepth 100000 in
theorem RingClo (bits x r : Int) (hb1 : 1 ≤ bits) (hb2 : bits ≤ 8) (hx0 : 0 ≤ x) (hx : x < 256) (g : Nat) (w : World) (hg : w.heap[g]? = some (.cells #[.int .i64 bits] 2 (0, 0)))
    (h : impl_moved.f bits x (x / 2 ^ (bits.toNat - 1)) = some r) :
    Calls Try.prog 38 #[.int .i64 x, .pointer (some ⟨g, 0, none⟩)] w fun e w' => e = .returned (.int .i64 r) ∧ Drawn0 w w' := by
  have c0 : w.cell? ⟨g, 0, none⟩ = some (.int .i64 bits) := (blk_cell hg 0).trans rfl
  have H := Aside0.mk h
  clear hg h
  go_enter Try.func38, Try.ntmps38
  go_wp2
  have e1 : IntKind.i64.wrap (bits - 1) = bits - 1 := IntWalk.i64_in _ ⟨by omega, by omega⟩
  have e2 : (0 : Int) ≤ bits - 1 := by omega
  go_quiet ((go_at_call 31; exact quiet_d (impl_moved.calls _ _ _ r _ H.out)))
  go_wp2
  go_ret
  exact ⟨rfl, by repeat (first | exact Drawn0.refl _ | apply Drawn0.step)⟩
set_option maxHeartbeats 4000000 in
set_option maxRecDepth 100000 in
theorem TwistedClo (bits x r : Int) (hb1 : 1 ≤ bits) (hb2 : bits ≤ 8) (hx0 : 0 ≤ x) (hx : x < 256) (g : Nat) (w : World) (hg : w.heap[g]? = some (.cells #[.int .i64 bits] 2 (0, 0)))
    (h : impl_moved.f bits x (wrap64 (1 - x / 2 ^ (bits.toNat - 1))) = some r) :
    Calls Try.prog 42 #[.int .i64 x, .pointer (some ⟨g, 0, none⟩)] w fun e w' => e = .returned (.int .i64 r) ∧ Drawn0 w w' := by
  have c0 : w.cell? ⟨g, 0, none⟩ = some (.int .i64 bits) := (blk_cell hg 0).trans rfl
  have H := Aside0.mk h
  clear hg h
  go_enter Try.func42, Try.ntmps42
  go_wp2
  have e1 : IntKind.i64.wrap (bits - 1) = bits - 1 := IntWalk.i64_in _ ⟨by omega, by omega⟩
  have e2 : (0 : Int) ≤ bits - 1 := by omega
  have e3 : ∀ y : Int, IntKind.i64.wrap y = wrap64 y := i64_w
  go_quiet ((go_at_call 31; exact quiet_d (impl_moved.calls _ _ _ r _ H.out)))
  go_wp2
  go_ret
  exact ⟨rfl, by repeat (first | exact Drawn0.refl _ | apply Drawn0.step)⟩
set_option maxHeartbeats 4000000 in
set_option maxRecDepth 100000 in
theorem TapClo (bits taps x o r : Int) (g g2 : Nat) (w : World) (hg : w.heap[g]? = some (.cells #[.int .i64 bits] 2 (0, 0))) (hg2 : w.heap[g2]? = some (.cells #[.int .i64 taps] 2 (0, 0)))
    (ho : impl_onesOf.f (Go.bits .and .i64 x taps) = some o) (h : impl_moved.f bits x (o.tmod 2) = some r) :
    Calls Try.prog 30 #[.int .i64 x, .pointer (some ⟨g, 0, none⟩), .pointer (some ⟨g2, 0, none⟩)] w fun e w' => e = .returned (.int .i64 r) ∧ Drawn0 w w' := by
  have c0 : w.cell? ⟨g, 0, none⟩ = some (.int .i64 bits) := (blk_cell hg 0).trans rfl
  have c1 : w.cell? ⟨g2, 0, none⟩ = some (.int .i64 taps) := (blk_cell hg2 0).trans rfl
  have H := Aside0.mk h
  have HO := Aside0.mk ho
  clear hg hg2 h ho
  go_enter Try.func30, Try.ntmps30
  go_wp2
  go_quiet (first | (go_at_call 31; exact quiet_d (impl_moved.calls _ _ _ r _ H.out)) | (go_at_call 32; exact quiet_d (impl_onesOf.calls _ o _ HO.out)))
  go_wp2
  go_ret
  exact ⟨rfl, by repeat (first | exact Drawn0.refl _ | apply Drawn0.step)⟩
set_option maxHeartbeats 4000000 in
set_option maxRecDepth 100000 in
theorem ReflClo (k : Nat) (bits x y r : Int) (hb1 : 1 ≤ bits) (hb2 : bits ≤ 8) (g : Nat) (w : World) (hg : w.heap[g]? = some (.cells #[.int .i64 bits] 2 (0, 0)))
    (hy : impl_fromReflected.f k x = some y) (hy0 : 0 ≤ y) (hy1 : y < 1000) (M : Int) (hM1 : 1 ≤ M) (hM2 : M ≤ 256) (hM : IntKind.i64.wrap (2 ^ bits.toNat) = M) (h : impl_reflected.f ((y + 1) % M) = some r) :
    Calls Try.prog 44 #[.int .i64 x, .pointer (some ⟨g, 0, none⟩)] w fun e w' => e = .returned (.int .i64 r) ∧ Drawn0 w w' := by
  have c0 : w.cell? ⟨g, 0, none⟩ = some (.int .i64 bits) := (blk_cell hg 0).trans rfl
  have H := Aside0.mk h
  have HY := Aside0.mk hy
  clear hg h hy
  go_enter Try.func44, Try.ntmps44
  go_wp2
  have e1 : IntKind.i64.wrap (y + 1) = y + 1 := IntWalk.i64_in _ ⟨by omega, by omega⟩
  have e2 : (0 : Int) ≤ bits := by omega
  have e4 : (0 : Int) ≤ y + 1 := by omega
  go_quiet (first | (go_at_call 46; exact quiet_d (impl_fromReflected.calls k _ y _ HY.out)) | (go_at_call 45; exact quiet_d (impl_reflected.calls _ r _ H.out)))
  go_wp2
  go_ret
  exact ⟨rfl, by repeat (first | exact Drawn0.refl _ | apply Drawn0.step)⟩
set_option maxHeartbeats 4000000 in
set_option maxRecDepth 100000 in
theorem BinClo (m x : Int) (hx0 : 0 ≤ x) (hx : x < 256) (g : Nat) (w : World) (hg : w.heap[g]? = some (.cells #[.int .i64 m] 2 (0, 0))) :
    Calls Try.prog 48 #[.int .i64 x, .pointer (some ⟨g, 0, none⟩)] w fun e w' => e = .returned (.int .i64 (if x + 1 < m then x + 1 else 0)) ∧ Drawn0 w w' := by
  have c0 : w.cell? ⟨g, 0, none⟩ = some (.int .i64 m) := (blk_cell hg 0).trans rfl
  clear hg
  by_cases hc : x + 1 < m
  · have e : Aside0 ((if x + 1 < m then x + 1 else 0) = x + 1) := ⟨if_pos hc⟩
    go_enter Try.func48, Try.ntmps48
    go_wp2
    go_ret
    exact ⟨by first | rfl | (rw [e.out]; rfl), by repeat (first | exact Drawn0.refl _ | apply Drawn0.step)⟩
  · have e : Aside0 ((if x + 1 < m then x + 1 else 0) = 0) := ⟨if_neg hc⟩
    go_enter Try.func48, Try.ntmps48
    go_wp2
    go_ret
    exact ⟨by first | rfl | (rw [e.out]; rfl), by repeat (first | exact Drawn0.refl _ | apply Drawn0.step)⟩
end Go.Proofs.Ytnpgmkikdnlnaaa.X
