/- My own texts of this seat and its words, merged: CReadS, Xp6, CReadI, Xp26. Conditions: as each lemma says. -/
import Derived.Test.YtalkmhnlgfncmaaDoorH24
import Derived.Test.YtalkmhnlgfncmaaDoorH27
import Derived.Test.YtalkmhnlgfncmaaDoorH21
import Derived.Test.YtalkmhnlgfncmaaDoorH23
section
namespace Go.Proofs.YtalkmhnlgfncmaaDoor.X
open Go.RowKit Go.Proofs.YtalkmhnlgfncmaaDoorW.PrintWords Go.Proofs.YtalkmhnlgfncmaaDoorW.PrintLast Go.Proofs.YtalkmhnlgfncmaaDoorW.PrintMore
set_option linter.unusedVariables false
set_option linter.unusedSimpArgs false
theorem num_some : ((List.range 101).all fun n => decide (spec_l04Number.f 50 (Tx (dgl n)) = some (n : Int))) = true := by kernel_rfl
theorem sn_dtx (d : Int) (h : In100 d) : sn (dtx d) = d := by
  obtain ⟨n, rfl, hn, e⟩ := itoa_dgl d h
  have h1 := of_decide_eq_true (List.all_eq_true.mp num_some n (by simp; omega))
  have h2 := num_mono _ _ 50 450 h1
  have h3 := sn_eq (dtx n) (by have := dtx_size n (by omega) (by omega); omega) 500 (Nat.le_refl _)
  unfold dtx at h3
  rw [e] at h3
  rw [h2] at h3
  unfold dtx
  rw [e]
  exact (Option.some.inj h3).symm
abbrev Out := List Int × List S43 × Bool
def bad : Out := ([], [], false)
noncomputable def sfin (s : ByteArray) (l : List Int) (ws : List S43) : Out := open Classical in if validB l ws = true ∧ flowTx l ws = s then (l, ws, true) else bad
def pad3 (q : List ByteArray) : List ByteArray := q ++ List.replicate (3 - q.length) (⟨#[]⟩ : ByteArray)
def w3 (x : ByteArray) : S43 := ⟨sn ((pad3 (sps 46 x)).getD 0 ByteArray.empty), sn ((pad3 (sps 46 x)).getD 1 ByteArray.empty), sn ((pad3 (sps 46 x)).getD 2 ByteArray.empty)⟩
theorem sfin_eq (s : ByteArray) (l : List Int) (ws : List S43) (h0 : l.length ≤ 2000000) (h1 : ws.length ≤ 2000000) (k : Nat) (hk : 3000 ≤ k) :
    ((spec_l08IsV.f k l ws).bind fun t357 => (if t357 = true then ((spec_l08TextV.f k l ws).bind fun t358 => (if t358.toList = s.toList then (some (l, ws, true)) else (some (([] : List Int), ([] : List (S43)), false)))) else (some (([] : List Int), ([] : List (S43)), false)))) = some (sfin s l ws) := by
  have e1 : spec_l08IsV.f k l ws = some (validB l ws) := spec_is k l ws (by omega) (by omega) (by omega)
  rw [e1, Option.bind_some]
  unfold sfin
  cases hv : validB l ws with
  | false => simp [bad]
  | true =>
    have hf : formB l ws = true := by
      unfold validB at hv
      exact (Bool.and_eq_true_iff.mp hv).1
    have e2 : spec_l08TextV.f k l ws = some (flowTx l ws) := spec_text k l ws hf (by omega)
    rw [e2, Option.bind_some]
    have e3 : ((flowTx l ws).toList = s.toList) = (flowTx l ws = s) := by
      apply propext
      constructor
      · intro h
        rw [ByteArray.toList_eq, ByteArray.toList_eq] at h
        exact bytes_same h
      · intro h; rw [h]
    rw [if_pos rfl]
    by_cases h : flowTx l ws = s
    · rw [if_pos (e3.mpr h), if_pos ⟨rfl, h⟩]
    · rw [if_neg (fun hh => h (e3.mp hh)), if_neg (fun hh => h hh.2)]; rfl
theorem rd_of (l : List ByteArray) (i : Nat) (h : i < l.length) : rdOf ByteArray.empty l (i : Int) = l[i] := by
  unfold rdOf
  rw [Int.toNat_natCast, List.getD_eq_getElem?_getD, List.getElem?_eq_getElem h]; rfl
theorem spad_loop (s : ByteArray) (x4 x8 : List ByteArray) (x9 : Int) (l : List Int) (ws : List S43) (hw : ws.length ≤ 2000000) (R : Option Out) (K : Nat) :
    ∀ (d k : Nat) (q : List ByteArray), 3 - q.length = d → q.length ≤ 2000000 → (∀ y, y ∈ q → y.size ≤ 2000000) → d + 1 + K ≤ k → 600 ≤ K →
    (∀ k, K ≤ k → spec_ReadFlow.l1 k s x4 x8 (wrap64 (x9 + 1)) l (ws ++ [(⟨sn ((pad3 q).getD 0 ByteArray.empty), sn ((pad3 q).getD 1 ByteArray.empty), sn ((pad3 q).getD 2 ByteArray.empty)⟩ : S43)]) = R) →
    spec_ReadFlow.l2 k s x4 x8 x9 q l ws = R
  | 0, k, q, hd, hq, hy, hk, hK, hR => by
    obtain ⟨k, rfl⟩ : ∃ p, k = p + 1 := ⟨k - 1, by omega⟩
    have hp : pad3 q = q := by unfold pad3; rw [hd]; simp
    have g : ∀ i : Nat, i < 3 → (rdOf ByteArray.empty q (i : Int)) = q.getD i ByteArray.empty := fun i _ => rfl
    have z : ∀ i : Nat, i < 3 → (q.getD i ByteArray.empty).size ≤ 2000000 := fun i hi => by
      rw [List.getD_eq_getElem?_getD, List.getElem?_eq_getElem (by omega)]
      exact hy _ (List.getElem_mem (by omega))
    have g0 := g 0 (by omega)
    have g1 := g 1 (by omega)
    have g2 := g 2 (by omega)
    rw [show ((0 : Nat) : Int) = 0 from rfl] at g0
    rw [show ((1 : Nat) : Int) = 1 from rfl] at g1
    rw [show ((2 : Nat) : Int) = 2 from rfl] at g2
    rw [spec_ReadFlow.l2, if_neg (by omega), if_pos (by omega), g0, g1, g2, sn_eq _ (z 0 (by omega)) k (by omega), sn_eq _ (z 1 (by omega)) k (by omega), sn_eq _ (z 2 (by omega)) k (by omega)]
    simp only [Option.bind_some]
    rw [if_pos (by omega), if_pos (by omega), if_pos (by omega)]
    rw [hp] at hR
    exact hR k (by omega)
  | d + 1, k, q, hd, hq, hy, hk, hK, hR => by
    obtain ⟨k, rfl⟩ : ∃ p, k = p + 1 := ⟨k - 1, by omega⟩
    rw [spec_ReadFlow.l2, if_pos (by omega), if_pos (by omega)]
    have hp : pad3 (q ++ [(⟨#[]⟩ : ByteArray)]) = pad3 q := by
      unfold pad3
      rw [List.length_append, List.length_singleton, List.append_assoc]
      congr 1
      rw [show 3 - q.length = (3 - (q.length + 1)) + 1 by omega, List.replicate_succ]; rfl
    refine spad_loop s x4 x8 x9 l ws hw R K d k _ (by rw [List.length_append, List.length_singleton]; omega) (by rw [List.length_append, List.length_singleton]; omega) ?_ (by omega) hK (by rw [hp]; exact hR)
    intro y hm
    rcases List.mem_append.mp hm with hm | hm
    · exact hy y hm
    · rw [List.mem_singleton] at hm
      rw [hm]; exact Nat.zero_le _
theorem swires_loop (s p0 p1 : ByteArray) (l : List Int) (hl : l.length ≤ 2000000) (xs : List ByteArray) (hx : xs.length ≤ 1000) (hy : ∀ y, y ∈ xs → y.size ≤ 1000) (hn : p1.toList ≠ []) :
    ∀ (d i k : Nat) (ws : List S43), i + d = xs.length → ws.length = i → 2000 * d + 4000 ≤ k →
    spec_ReadFlow.l1 k s [p0, p1] xs (i : Int) l ws = some (sfin s l (ws ++ (xs.drop i).map w3))
  | 0, i, k, ws, hi, hw, hk => by
    obtain ⟨k, rfl⟩ : ∃ p, k = p + 2 := ⟨k - 2, by omega⟩
    rw [spec_ReadFlow.l1, if_neg (by omega), spec_ReadFlow.j2, if_neg (by decide), sfin_eq s l ws hl (by omega) k (by omega), List.drop_of_length_le (by omega)]
    simp
  | d + 1, i, k, ws, hi, hw, hk => by
    obtain ⟨k, rfl⟩ : ∃ p, k = p + 2 := ⟨k - 2, by omega⟩
    have hlt : i < xs.length := by omega
    have hsz := hy _ (List.getElem_mem hlt)
    have hne : (p1.toList != ([] : List UInt8)) = true := by simpa using hn
    rw [spec_ReadFlow.l1, if_pos (by omega), if_pos (by simp), show rdOf ByteArray.empty [p0, p1] 1 = p1 from rfl, hne, spec_ReadFlow.j2, if_pos rfl, if_pos (by omega), if_pos (by omega), rd_of xs i hlt, show (46 : Int) = ((46 : UInt8).toNat : Int) from rfl, scut_eq k _ 46 (by omega) (by omega)]
    rw [Option.bind_some]
    obtain ⟨q, hq⟩ : ∃ q, q = sps 46 xs[i] := ⟨_, rfl⟩
    have q1 : q.length ≤ 2000000 := by rw [hq]; have := sps_count 46 xs[i]; omega
    have q2 : ∀ y, y ∈ q → y.size ≤ 2000000 := fun y hm => by rw [hq] at hm; have := sps_le 46 xs[i] y hm; omega
    obtain ⟨K, hK⟩ : ∃ K, K = 2000 * d + 4000 := ⟨_, rfl⟩
    have q3 : 3 - q.length + 1 + K ≤ k := by omega
    rw [← hq]
    refine spad_loop s [p0, p1] xs (i : Int) l ws (by omega) _ K (3 - q.length) k q rfl q1 q2 q3 (by omega) ?_
    intro k2 hk2
    rw [w64 (by omega) (by omega)]
    have ih := swires_loop s p0 p1 l hl xs hx hy hn d (i + 1) k2 (ws ++ [w3 xs[i]]) (by omega) (by rw [List.length_append, List.length_singleton]; omega) (by omega)
    rw [hq]
    rw [Int.natCast_add, Int.natCast_one] at ih
    have e : xs.drop i = xs[i] :: xs.drop (i + 1) := List.drop_eq_getElem_cons hlt
    rw [e, List.map_cons, show ws ++ w3 xs[i] :: (xs.drop (i + 1)).map w3 = (ws ++ [w3 xs[i]]) ++ (xs.drop (i + 1)).map w3 by simp, ← ih]
    rfl
theorem sdelays_loop (s p0 p1 : ByteArray) (xs : List ByteArray) (hx : xs.length ≤ 1000) (hy : ∀ y, y ∈ xs → y.size ≤ 1000) (R : List Int → Option Out) (K : Nat) (hK : 2000 ≤ K)
    (hp : p1.size ≤ 1000) (hR : ∀ k l, l.length ≤ 2000 → K ≤ k → spec_ReadFlow.l1 k s [p0, p1] (sps 44 p1) 0 l [] = R l) :
    ∀ (d i k : Nat) (l : List Int), i + d = xs.length → l.length = i → d + 1 + K ≤ k →
    spec_ReadFlow.l0 k s [p0, p1] xs (i : Int) l [] = R (l ++ (xs.drop i).map sn)
  | 0, i, k, l, hi, hl, hk => by
    obtain ⟨k, rfl⟩ : ∃ p, k = p + 1 := ⟨k - 1, by omega⟩
    rw [spec_ReadFlow.l0, if_neg (by omega), if_pos (by simp), show rdOf ByteArray.empty [p0, p1] 1 = p1 from rfl, show (44 : Int) = ((44 : UInt8).toNat : Int) from rfl, scut_eq k _ 44 (by omega) (by omega), Option.bind_some, hR k l (by omega) (by omega), List.drop_of_length_le (by omega)]
    simp
  | d + 1, i, k, l, hi, hl, hk => by
    obtain ⟨k, rfl⟩ : ∃ p, k = p + 1 := ⟨k - 1, by omega⟩
    have hlt : i < xs.length := by omega
    have hsz := hy _ (List.getElem_mem hlt)
    rw [spec_ReadFlow.l0, if_pos (by omega), if_pos (by omega), rd_of xs i hlt, sn_eq _ (by omega) k (by omega), Option.bind_some, if_pos (by omega), w64 (by omega) (by omega)]
    have ih := sdelays_loop s p0 p1 xs hx hy R K hK hp hR d (i + 1) k (l ++ [sn xs[i]]) (by omega) (by rw [List.length_append, List.length_singleton]; omega) (by omega)
    rw [Int.natCast_add, Int.natCast_one] at ih
    have e : xs.drop i = xs[i] :: xs.drop (i + 1) := List.drop_eq_getElem_cons hlt
    rw [ih, e, List.map_cons, show l ++ sn xs[i] :: (xs.drop (i + 1)).map sn = (l ++ [sn xs[i]]) ++ (xs.drop (i + 1)).map sn by simp]
noncomputable def wof (p : ByteArray) : List S43 := open Classical in if p.data.toList = [] then [] else (sps 44 p).map w3
theorem swires (s p0 p1 : ByteArray) (hp : p1.size ≤ 400) (k : Nat) (l : List Int) (hl : l.length ≤ 2000) (hk : 1000000 ≤ k) : spec_ReadFlow.l1 k s [p0, p1] (sps 44 p1) 0 l [] = some (sfin s l (wof p1)) := by
  unfold wof
  have hc := sps_count 44 p1
  by_cases h : p1.data.toList = []
  · rw [if_pos h]
    obtain ⟨k, rfl⟩ : ∃ p, k = p + 2 := ⟨k - 2, by omega⟩
    have hne : (p1.toList != ([] : List UInt8)) = false := by rw [ByteArray.toList_eq, h]; rfl
    have e1 : sps 44 p1 = [Tx []] := by unfold sps; rw [h]; rfl
    rw [spec_ReadFlow.l1, if_pos (by rw [e1]; simp), if_pos (by simp), show rdOf ByteArray.empty [p0, p1] 1 = p1 from rfl, hne, spec_ReadFlow.j2, if_neg (by decide), sfin_eq s l [] (by omega) (by simp) k (by omega)]
  · rw [if_neg h]
    have := swires_loop s p0 p1 l (by omega) (sps 44 p1) (by omega) (fun y hm => by have := sps_le 44 p1 y hm; omega) (by rw [ByteArray.toList_eq]; exact h) (sps 44 p1).length 0 k [] (by omega) rfl (by omega)
    rw [List.drop_zero, List.nil_append] at this
    exact this
noncomputable def specOut (s : ByteArray) : Out :=
  if s.size > 400 then bad else match sps 47 s with
  | [p0, p1] => sfin s ((sps 44 p0).map sn) (wof p1)
  | _ => bad
theorem two_of {α : Type} (l : List α) (h : l.length = 2) : ∃ a b, l = [a, b] := by
  match l, h with
  | [a, b], _ => exact ⟨a, b, rfl⟩
theorem spec_read (s : ByteArray) (k : Nat) (hk : 1100000 ≤ k) : spec_ReadFlow.f k s = some (specOut s) := by
  unfold spec_ReadFlow.f specOut
  by_cases h : s.size > 400
  · rw [if_pos (by omega), if_pos h]; rfl
  · rw [if_neg (by omega), if_neg h, show (47 : Int) = ((47 : UInt8).toNat : Int) from rfl, scut_eq k s 47 (by omega) (by omega), Option.bind_some]
    by_cases h2 : (sps 47 s).length = 2
    · obtain ⟨p0, p1, e⟩ := two_of _ h2
      have z0 : p0.size ≤ 400 := by have := sps_le 47 s p0 (by rw [e]; simp); omega
      have z1 : p1.size ≤ 400 := by have := sps_le 47 s p1 (by rw [e]; simp); omega
      rw [e]
      simp only
      rw [if_pos (by rfl), if_pos (by simp), show rdOf ByteArray.empty [p0, p1] 0 = p0 from rfl, show (44 : Int) = ((44 : UInt8).toNat : Int) from rfl, scut_eq k p0 44 (by omega) (by omega), Option.bind_some]
      have hc := sps_count 44 p0
      have := sdelays_loop s p0 p1 (sps 44 p0) (by omega) (fun y hm => by have := sps_le 44 p0 y hm; omega) (fun l => some (sfin s l (wof p1))) 1000000 (by omega) (by omega) (fun k l hl hk => swires s p0 p1 z1 k l hl hk) (sps 44 p0).length 0 k [] (by omega) rfl (by omega)
      rw [List.drop_zero, List.nil_append] at this
      exact this
    · rw [if_neg (by omega)]
      match hq : sps 47 s with
      | [] => rfl
      | [a] => rfl
      | [a, b] => rw [hq] at h2; simp at h2
      | a :: b :: c :: r => rfl
end Go.Proofs.YtalkmhnlgfncmaaDoor.X
end
section
-- Written by a program of this session out of the kit's print of the loaded functions: a plain function of a Go function, and its contract.
namespace Go.Proofs.YtalkmhnlgfncmaaDoor.X
open Go.RowKit Go.Proofs.YtalkmhnlgfncmaaDoorW.PrintWords Go.Proofs.YtalkmhnlgfncmaaDoorW.PrintLast Go.Proofs.YtalkmhnlgfncmaaDoorW.PrintMore
attribute [local go_sem] max2_int min2_int max_two min_two max_three min_three max_four min_four   -- for this text's walks alone
set_option linter.unusedVariables false
set_option linter.unusedSimpArgs false
mutual
def impl_ReadFlow.l0 : Nat → ByteArray → Bool → List ByteArray → Int → Int → List Int → Option (List Int × (List (S43)) × Bool)
 | 0, _, _, _, _, _, _ => none
 | k + 1, x5, x6, x26, x27, x28, x395000 => if x28 < x27 then (if 0 ≤ x28 then (if x28 < (x26.length : Int) then ((impl_ReadDecimal.f (rdOf ByteArray.empty x26 x28)).bind fun bt399 => (if x6 = true then (if x395000.length < 17592186044416 then (impl_ReadFlow.l0 k x5 bt399.2 x26 x27 (wrap64 (x28 + 1)) (x395000 ++ [bt399.1])) else (none)) else (if x395000.length < 17592186044416 then (impl_ReadFlow.l0 k x5 false x26 x27 (wrap64 (x28 + 1)) (x395000 ++ [bt399.1])) else (none)))) else (none)) else (none)) else (if x5.toList = ([] : List UInt8) then (if x6 = true then ((impl_ValidFlow.f k x395000 ([] : List (S43))).bind fun t407 => (if t407 = true then (some (x395000, ([] : List (S43)), true)) else (some (([] : List Int), ([] : List (S43)), false)))) else (some (([] : List Int), ([] : List (S43)), false))) else ((strings_Split.f x5 (⟨#[44]⟩ : ByteArray)).bind fun t408 => (impl_ReadFlow.l1 k x6 t408 (t408.length : Int) 0 x395000 ([] : List (S43)))))
def impl_ReadFlow.l1 : Nat → Bool → List ByteArray → Int → Int → List Int → List (S43) → Option (List Int × (List (S43)) × Bool)
 | 0, _, _, _, _, _, _ => none
 | k + 1, x6, x51, x52, x53, x395000, x395001 => if x53 < x52 then (if 0 ≤ x53 then (if x53 < (x51.length : Int) then ((impl_threeNumbers.f (rdOf ByteArray.empty x51 x53)).bind fun bt412 => (if x6 = true then (if x395001.length < 5864062014805 then (impl_ReadFlow.l1 k bt412.2.2.2 x51 x52 (wrap64 (x53 + 1)) x395000 (x395001 ++ [(⟨bt412.1, bt412.2.1, bt412.2.2.1⟩ : S43)])) else (none)) else (if x395001.length < 5864062014805 then (impl_ReadFlow.l1 k false x51 x52 (wrap64 (x53 + 1)) x395000 (x395001 ++ [(⟨bt412.1, bt412.2.1, bt412.2.2.1⟩ : S43)])) else (none)))) else (none)) else (none)) else (if x6 = true then ((impl_ValidFlow.f k x395000 x395001).bind fun t422 => (if t422 = true then (some (x395000, x395001, true)) else (some (([] : List Int), ([] : List (S43)), false)))) else (some (([] : List Int), ([] : List (S43)), false)))
end
def impl_ReadFlow.f (k : Nat) (a0 : ByteArray) : Option (List Int × (List (S43)) × Bool) := (strings_Cut.f a0 (⟨#[47]⟩ : ByteArray)).bind fun bt391 => ((strings_Split.f bt391.1 (⟨#[44]⟩ : ByteArray)).bind fun t395 => (impl_ReadFlow.l0 k bt391.2.1 bt391.2.2 t395 (t395.length : Int) 0 ([] : List Int)))
set_option maxHeartbeats 8000000 in
set_option maxRecDepth 100000 in
theorem impl_ReadFlow.calls (k : Nat) (a0 : ByteArray) (r1 : List Int) (r2 : List (S43)) (r3 : Bool) (w : World) (h : impl_ReadFlow.f k a0 = some (r1, r2, r3)) (hEnvR : EnvR w) :
  Calls Tryd.prog 6 #[.string a0] w fun e w' => ∃ v0_ v1_ : Value, e = .returned (.tuple #[.agg #[v0_, v1_], .bool r3]) ∧ Kd.R (Kd.int .i64) 2 w' w.heap.size (fun _ => True) v0_ r1 ∧ Kd.R k43 43 w' w.heap.size (fun _ => True) v1_ r2 ∧ Below w.heap.size w w' := by
 have HEnvR := Aside0.mk hEnvR
 clear hEnvR
 have hu25 := Tryd.underlying25
 have hu43 := Tryd.underlying43
 have HB := Aside0.mk (Below.refl w.heap.size w)
 have H : ((strings_Cut.f a0 (⟨#[47]⟩ : ByteArray)).bind fun bt391 => ((strings_Split.f bt391.1 (⟨#[44]⟩ : ByteArray)).bind fun t395 => (impl_ReadFlow.l0 k bt391.2.1 bt391.2.2 t395 (t395.length : Int) 0 ([] : List Int)))) = some (r1, r2, r3) := h
 clear h
 replace H := Option.bind_eq_some_iff.mp H
 obtain ⟨⟨t391, t392, t393⟩, A20, H⟩ := H
 replace H : ((strings_Split.f t391 (⟨#[44]⟩ : ByteArray)).bind fun t395 => (impl_ReadFlow.l0 k t392 t393 t395 (t395.length : Int) 0 ([] : List Int))) = some (r1, r2, r3) := H
 have A2 := Aside0.mk A20
 clear A20
 replace H := Option.bind_eq_some_iff.mp H
 obtain ⟨t395, A30, H⟩ := H
 replace H : (impl_ReadFlow.l0 k t392 t393 t395 (t395.length : Int) 0 ([] : List Int)) = some (r1, r2, r3) := H
 have A3 := Aside0.mk A30
 clear A30
 have H' := Aside0.mk H
 clear H
 go_enter Tryd.func6, Tryd.ntmps6
 go_wp2_with (first | ((with_reducible refine gate_dst (N := 2) rfl ?_); refine box_event ?hg (N := 2) ?hd (cs := #[.slice none 0 0, .slice none 0 0]) (t := 25) ?hr ?_; (case hd => rfl); (case hg => rfl); (case hr => first | (go_simp; done) | (go_simp; rfl)); intro gb390 hg w4 hbox hb; have n0_ := Aside0.mk (below_step (by repeat (first | (with_reducible first | exact HB.out | apply below_alloc | apply pw_below_drewN | apply below_drew1) | exact HB.out)) hb); have n1_ := Aside0.mk (hbox); have n2_ := Aside0.mk ((by rw [hg]; exact (below_size (by repeat (first | (with_reducible first | exact HB.out | apply below_alloc | apply pw_below_drewN | apply below_drew1) | exact HB.out))) : w.heap.size ≤ gb390)); have n3_ := Aside0.mk ((by rw [hg]; exact (below_size (by repeat (first | (with_reducible first | exact HB.out | apply below_alloc | apply pw_below_drewN | apply below_drew1) | exact HB.out))) : w.heap.size ≤ gb390)); clear HB; have HB := n0_; have BK390 := n1_; have GW390 := n2_; have GE390 := n3_; clear n0_ n1_ n2_ n3_; clear hb hbox hg) | ((with_reducible refine gate_callee (f := 18) rfl ?_); refine goesL_ (some 20) rfl rfl Tryd.func18 (by kernel_rfl) rfl #[.string a0, .string (⟨#[47]⟩ : ByteArray)] rfl (by (try simp only [List.map_toArray, List.map_cons, List.map_nil]); first | done | rfl | (simp only [List.length_drop, List.length_take]; rfl)) ?_; (with_reducible refine (strings_Cut.calls a0 (⟨#[47]⟩ : ByteArray) t391 t392 t393 _ A2.out).mono ?_); rintro e w5 ⟨rfl, hb⟩; refine ⟨_, rfl, ?_⟩; have n0_ := Aside0.mk (blk_below (g := gb390) (o := .cells #[.slice none 0 0, .slice none 0 0] 25 (0, 0)) (by (with_reducible repeat (first | refine blk_drewN ?_ _ | refine blk_drew ?_ | refine blk_alloc ?_ _)); exact BK390.out) hb); have n1_ := Aside0.mk (below_step (by repeat (first | (with_reducible first | exact HB.out | apply below_alloc | apply pw_below_drewN | apply below_drew1 | refine below_set ?_ GE390.out) | exact HB.out)) hb); clear BK390; clear HB; have BK390 := n0_; have HB := n1_; clear n0_ n1_; (try clear hb); (try clear hb2); (try clear hk); (try clear hi)) | ((with_reducible refine gate_dst (N := 7) rfl ?_); refine box_event ?hg (N := 7) ?hd (cs := #[.slice none 0 0, .slice none 0 0]) (t := 25) ?hr ?_; (case hd => rfl); (case hg => rfl); (case hr => first | (go_simp; done) | (go_simp; rfl)); intro gb394 hg w6 hbox hb; have n0_ := Aside0.mk (blk_below (g := gb390) (o := .cells #[.slice none 0 0, .slice none 0 0] 25 (0, 0)) (by (with_reducible repeat (first | refine blk_drewN ?_ _ | refine blk_drew ?_ | refine blk_alloc ?_ _)); exact BK390.out) hb); have n1_ := Aside0.mk (below_step (by repeat (first | (with_reducible first | exact HB.out | apply below_alloc | apply pw_below_drewN | apply below_drew1 | refine below_set ?_ GE390.out) | exact HB.out)) hb); have n2_ := Aside0.mk (hbox); have n3_ := Aside0.mk ((by rw [hg]; exact (below_size (by repeat (first | (with_reducible first | exact HB.out | apply below_alloc | apply pw_below_drewN | apply below_drew1 | refine below_set ?_ GE390.out) | exact HB.out))) : w.heap.size ≤ gb394)); have n4_ := Aside0.mk ((by rw [hg]; exact (below_size (by repeat (first | (with_reducible first | exact HB.out | apply below_alloc | apply pw_below_drewN | apply below_drew1 | refine below_set ?_ GE390.out) | exact HB.out))) : w.heap.size ≤ gb394)); have n5_ := Aside0.mk ((by rw [hg]; exact Nat.ne_of_lt (blk_lt (g := gb390) (o := .cells #[.slice none 0 0, .slice none 0 0] 25 (0, 0)) (by (with_reducible repeat (first | refine blk_drewN ?_ _ | refine blk_drew ?_ | refine blk_alloc ?_ _)); exact BK390.out)) : gb390 ≠ gb394)); have n6_ := Aside0.mk ((by rw [hg]; exact Nat.ne_of_gt (blk_lt (g := gb390) (o := .cells #[.slice none 0 0, .slice none 0 0] 25 (0, 0)) (by (with_reducible repeat (first | refine blk_drewN ?_ _ | refine blk_drew ?_ | refine blk_alloc ?_ _)); exact BK390.out)) : gb394 ≠ gb390)); clear BK390; clear HB; have BK390 := n0_; have HB := n1_; have BK394 := n2_; have GW394 := n3_; have GE394 := n4_; have NB390_394 := n5_; have NB394_390 := n6_; clear n0_ n1_ n2_ n3_ n4_ n5_ n6_; clear hb hbox hg; have hnb7 := NB394_390.out; have hnc7 := NB390_394.out; have hcz8_0 : w6.cell? ⟨gb394, 0, none⟩ = some (.slice none 0 0) := (blk_cell BK394.out 0).trans rfl; have hcz8_1 : w6.cell? ⟨gb394, 1, none⟩ = some (.slice none 0 0) := (blk_cell BK394.out 1).trans rfl; have hfz8_0 := blk_frozen BK394.out 0; have hfz8_1 := blk_frozen BK394.out 1) | ((with_reducible refine gate_callee (f := 19) rfl ?_); refine goesL_ (some 26) rfl rfl Tryd.func19 (by kernel_rfl) rfl #[.string t391, .string (⟨#[44]⟩ : ByteArray)] rfl (by (try simp only [List.map_toArray, List.map_cons, List.map_nil]); first | done | rfl | (simp only [List.length_drop, List.length_take]; rfl)) ?_; (with_reducible refine (strings_Split.calls t391 (⟨#[44]⟩ : ByteArray) t395 _ A3.out).mono ?_); rintro e w9 ⟨v396, rfl, ho0, hb⟩; refine ⟨_, rfl, ?_⟩; have n0_ := Aside0.mk (Kd.R_lower ho0 (below_size (by repeat (first | (with_reducible first | exact HB.out | apply below_alloc | apply pw_below_drewN | apply below_drew1 | refine below_set ?_ GE390.out | refine below_set ?_ GE394.out) | exact HB.out)))); have n1_ := Aside0.mk (blk_below (g := gb390) (o := .cells #[.slice none 0 0, .slice none 0 0] 25 (0, 0)) (by (with_reducible repeat (first | refine blk_drewN ?_ _ | refine blk_drew ?_ | refine blk_alloc ?_ _)); refine blk_far ?_ NB390_394.out _; (with_reducible repeat (first | refine blk_drewN ?_ _ | refine blk_drew ?_ | refine blk_alloc ?_ _)); refine blk_far ?_ NB390_394.out _; (with_reducible repeat (first | refine blk_drewN ?_ _ | refine blk_drew ?_ | refine blk_alloc ?_ _)); exact BK390.out) hb); have n2_ := Aside0.mk (blk_below (g := gb394) (o := .cells #[.slice none 0 0, .slice none 0 0] 25 (0, 0)) (by (with_reducible repeat (first | refine blk_drewN ?_ _ | refine blk_drew ?_ | refine blk_alloc ?_ _)); refine blk_put (cs := #[.slice none 0 0, .slice none 0 0]) ?_ 1 _ rfl; (with_reducible repeat (first | refine blk_drewN ?_ _ | refine blk_drew ?_ | refine blk_alloc ?_ _)); refine blk_put (cs := #[.slice none 0 0, .slice none 0 0]) ?_ 0 _ rfl; (with_reducible repeat (first | refine blk_drewN ?_ _ | refine blk_drew ?_ | refine blk_alloc ?_ _)); exact BK394.out) hb); have n3_ := Aside0.mk (below_step (by repeat (first | (with_reducible first | exact HB.out | apply below_alloc | apply pw_below_drewN | apply below_drew1 | refine below_set ?_ GE390.out | refine below_set ?_ GE394.out) | exact HB.out)) hb); clear BK390; clear BK394; clear HB; have HO397 := n0_; have BK390 := n1_; have BK394 := n2_; have HB := n3_; clear n0_ n1_ n2_ n3_; (try clear hb); (try clear hb2); (try clear hk); (try clear hi); (try clear ho0); obtain ⟨Ao10, co10, eo10⟩ := Kd.R_slice HO397.out; subst eo10))
 go_loopg [6, 28] k (fun kq v6 v28 w' => ∃ (x6_1 : Bool) (x28_1 : Int) (x395000_1 : List Int) (u395000 : Value), v6 = .bool x6_1 ∧ v28 = .int .i64 x28_1 ∧ Aside0 (impl_ReadFlow.l0 kq t392 x6_1 t395 (t395.length : Int) x28_1 x395000_1 = some (r1, r2, r3)) ∧ Aside0 (kq ≤ k) ∧ Aside0 (Kd.R Kd.string 9 w' w.heap.size (fun _ => True) (.slice Ao10 t395.length co10) t395) ∧ Aside0 (Kd.R (Kd.int .i64) 2 w' w.heap.size (fun _ => True) u395000 x395000_1) ∧ Aside0 (w'.heap[gb390]? = some (.cells #[(.slice none 0 0), (.slice none 0 0)] 25 (0, 0))) ∧ Aside0 (w'.heap[gb394]? = some (.cells #[u395000, (.slice none 0 0)] 25 (0, 0))) ∧ Aside0 (Below w.heap.size w w'))
 case atStart => exact ⟨(t393), (0), (([] : List Int)), (.slice none 0 0), (by first | rfl | (simp; done) | (simp [*]; done)), (by first | rfl | (simp; done) | (simp [*]; done)), H', ⟨Nat.le_refl _⟩, ⟨by (with_reducible repeat (first | apply Kd.R_alloc | apply Kd.R_drewN | apply Kd.R_drew)); exact HO397.out⟩, ⟨by first | exact Kd.R_nil _ _ _ _ _ | exact Kd.N_nil _ _ _ _ _ | exact Kd.V_nil _ _ _ _ _ | exact Kd.Q_nil _ _ _ _ _ | exact Kd.S_nil _ _ _ _ _⟩, ⟨by (with_reducible repeat (first | refine blk_drewN ?_ _ | refine blk_drew ?_ | refine blk_alloc ?_ _)); exact BK390.out⟩, ⟨by (with_reducible repeat (first | refine blk_drewN ?_ _ | refine blk_drew ?_ | refine blk_alloc ?_ _)); exact BK394.out⟩, ⟨by repeat (first | (with_reducible first | exact HB.out | apply below_alloc | apply pw_below_drewN | apply below_drew1 | refine below_set ?_ GE390.out | refine below_set ?_ GE394.out) | exact HB.out)⟩⟩
 case round =>
  clear H'
  try clear c1
  try clear p2
  try clear c6
  try clear c7
  try clear hcz8_0
  try clear hcz8_1
  try clear hfz8_0
  try clear hfz8_1
  obtain ⟨x6_1, x28_1, x395000_1, u395000, rfl, rfl, HA, HK1, HO_26, HO_395000, BK390, BK394, HB⟩ := hrel
  cases gk with
  | zero => exact absurd HA.out (by simp [impl_ReadFlow.l0])
  | succ k1 =>
   have H := HA.out
   clear HA
   simp only [impl_ReadFlow.l0] at H
   by_cases c11 : x28_1 < (t395.length : Int)
   ·rw [if_pos c11] at H
    have c11b0 : decide (x28_1 < (t395.length : Int)) = true := decide_eq_true c11
    clear c11
    by_cases c12 : 0 ≤ x28_1
    ·rw [if_pos c12] at H
     have c12b0 : decide (0 ≤ x28_1) = true := decide_eq_true c12
     clear c12
     by_cases c13 : x28_1 < (t395.length : Int)
     ·rw [if_pos c13] at H
      have c13b0 : decide (x28_1 < (t395.length : Int)) = true := decide_eq_true c13
      clear c13
      replace H := Option.bind_eq_some_iff.mp H
      obtain ⟨⟨t399, t400⟩, A140, H⟩ := H
      replace H : (if x6_1 = true then (if x395000_1.length < 17592186044416 then (impl_ReadFlow.l0 k1 t392 t400 t395 (t395.length : Int) (wrap64 (x28_1 + 1)) (x395000_1 ++ [t399])) else (none)) else (if x395000_1.length < 17592186044416 then (impl_ReadFlow.l0 k1 t392 false t395 (t395.length : Int) (wrap64 (x28_1 + 1)) (x395000_1 ++ [t399])) else (none))) = some (r1, r2, r3) := H
      have A14 := Aside0.mk A140
      clear A140
      by_cases c15 : x6_1 = true
      ·subst c15
       have H1 : (if x395000_1.length < 17592186044416 then (impl_ReadFlow.l0 k1 t392 t400 t395 (t395.length : Int) (wrap64 (x28_1 + 1)) (x395000_1 ++ [t399])) else (none)) = some (r1, r2, r3) := by rw [if_pos rfl] at H; exact H
       clear H
       have H := H1
       clear H1
       by_cases c16 : x395000_1.length < 17592186044416
       ·rw [if_pos c16] at H
        have LMc16 := Aside0.mk c16
        clear c16
        obtain ⟨y401, hy401⟩ : ∃ y_ : List Int, y_ = (x395000_1 ++ [t399]) := ⟨_, rfl⟩
        replace H : (impl_ReadFlow.l0 k1 t392 t400 t395 (t395.length : Int) (wrap64 (x28_1 + 1)) y401) = some (r1, r2, r3) := by first | (rw [hy401]; with_reducible exact H) | (have H2_ := (Option.bind_some _ _).symm.trans H; rw [hy401]; with_reducible exact H2_) | (have H2_ := (Option.bind_some _ _).symm.trans H; with_reducible exact H2_) | with_reducible exact H | (rw [hy401]; exact H) | exact H
        have Ny401 := Aside0.mk hy401
        clear hy401
        have H' := Aside0.mk H
        clear H
        have p398 : 0 ≤ (x28_1 : Int) := of_decide_eq_true (by first | (with_reducible assumption) | assumption)
        have q398 : x28_1 < (t395.length : Int) := of_decide_eq_true (by first | (with_reducible assumption) | assumption)
        obtain ⟨ad398, e398, hx398_0⟩ := Kd.at_string (Kd.R_reads' HO_26.out).2.2 x28_1 p398 q398
        cases e398
        replace p398 := eq_true p398
        replace q398 := eq_true q398
        go_wp2_with (first | ((with_reducible refine gate_callee (f := 20) rfl ?_); refine goesL_ (some 34) rfl rfl Tryd.func20 (by kernel_rfl) rfl #[.string (rdOf ByteArray.empty t395 x28_1)] rfl (by (try simp only [List.map_toArray, List.map_cons, List.map_nil]); first | done | rfl | (simp only [List.length_drop, List.length_take]; rfl)) ?_; (with_reducible refine (impl_ReadDecimal.calls (rdOf ByteArray.empty t395 x28_1) t399 t400 _ A14.out (HEnvR.out.below (by repeat (first | (with_reducible first | exact HB.out | apply below_alloc | apply pw_below_drewN | apply below_drew1 | refine below_set ?_ GE390.out | refine below_set ?_ GE394.out) | exact HB.out)))).mono ?_); rintro e w17 ⟨rfl, hb⟩; refine ⟨_, rfl, ?_⟩; have n0_ := Aside0.mk (Kd.R_below (by (with_reducible repeat (first | apply Kd.R_alloc | apply Kd.R_drewN | apply Kd.R_drew)); exact HO_26.out) hb); have n1_ := Aside0.mk (Kd.R_below (by (with_reducible repeat (first | apply Kd.R_alloc | apply Kd.R_drewN | apply Kd.R_drew)); exact HO_395000.out) hb); have n2_ := Aside0.mk (blk_below (g := gb390) (o := .cells #[.slice none 0 0, .slice none 0 0] 25 (0, 0)) (by (with_reducible repeat (first | refine blk_drewN ?_ _ | refine blk_drew ?_ | refine blk_alloc ?_ _)); exact BK390.out) hb); have n3_ := Aside0.mk (blk_below (g := gb394) (o := .cells #[u395000, .slice none 0 0] 25 (0, 0)) (by (with_reducible repeat (first | refine blk_drewN ?_ _ | refine blk_drew ?_ | refine blk_alloc ?_ _)); exact BK394.out) hb); have n4_ := Aside0.mk (below_step (by repeat (first | (with_reducible first | exact HB.out | apply below_alloc | apply pw_below_drewN | apply below_drew1 | refine below_set ?_ GE390.out | refine below_set ?_ GE394.out) | exact HB.out)) hb); clear HO_26; clear HO_395000; clear BK390; clear BK394; clear HB; have HO_26 := n0_; have HO_395000 := n1_; have BK390 := n2_; have BK394 := n3_; have HB := n4_; clear n0_ n1_ n2_ n3_ n4_; (try clear hb); (try clear hb2); (try clear hk); (try clear hi); have hnb18 := NB394_390.out; have hnc18 := NB390_394.out; have hcz19_0 : w17.cell? ⟨gb394, 0, none⟩ = some (u395000) := (blk_cell BK394.out 0).trans rfl; have hcz19_1 : w17.cell? ⟨gb394, 1, none⟩ = some (.slice none 0 0) := (blk_cell BK394.out 1).trans rfl; have hfz19_0 := blk_frozen BK394.out 0; have hfz19_1 := blk_frozen BK394.out 1) | ((with_reducible refine gate_builtin (b := .append) (xs := #[.tmp 42, .tmp 44]) rfl ?_); at_builtin; refine Kd.R_append (Kd.int .i64) (w0 := w) w.heap.size rfl (.tmp 42) (.tmp 44) 22 2 (.int .i64 0) 8 rfl Tryd.underlying22 info2 rfl (by decide) (by omega) u395000 x395000_1 t399 [.int .i64 t399] (fun _ => True) (fun _ => False) rfl rfl ?aP (fun _ hk => hk.elim) ?aF ?aO ?aB ?aS ?aL ?_; (case aP => exact rfl); (case aB => exact (by repeat (first | (with_reducible first | exact HB.out | apply below_alloc | apply pw_below_drewN | apply below_drew1 | refine below_set ?_ GE390.out | refine below_set ?_ GE394.out) | exact HB.out))); (case aF => exact (fun _ _ => trivial)); (case aO => exact (by (with_reducible repeat (first | apply Kd.R_alloc | apply Kd.R_drewN | apply Kd.R_drew)); exact HO_395000.out)); (case aS => exact (below_size (by repeat (first | (with_reducible first | exact HB.out | apply below_alloc | apply pw_below_drewN | apply below_drew1 | refine below_set ?_ GE390.out | refine below_set ?_ GE394.out) | exact HB.out)))); (case aL => have := LMc16.out; omega); intro v402 w20 ho hb hg hat; rw [← Ny401.out] at ho; have n0_ := Aside0.mk (Kd.R_over' (by (with_reducible repeat (first | apply Kd.R_alloc | apply Kd.R_drewN | apply Kd.R_drew)); exact HO_26.out) (Kd.R_typed (by (with_reducible repeat (first | apply Kd.R_alloc | apply Kd.R_drewN | apply Kd.R_drew)); exact HO_395000.out)) (by decide) hg); have n1_ := Aside0.mk (blk_grown (g := gb390) (o := .cells #[.slice none 0 0, .slice none 0 0] 25 (0, 0)) (by (with_reducible repeat (first | refine blk_drewN ?_ _ | refine blk_drew ?_ | refine blk_alloc ?_ _)); exact BK390.out) hg (Kd.R_ne HO_395000.out BK390.out (by decide))); have n2_ := Aside0.mk (blk_grown (g := gb394) (o := .cells #[u395000, .slice none 0 0] 25 (0, 0)) (by (with_reducible repeat (first | refine blk_drewN ?_ _ | refine blk_drew ?_ | refine blk_alloc ?_ _)); exact BK394.out) hg (Kd.R_ne HO_395000.out BK394.out (by decide))); have n3_ := Aside0.mk (hb); have n4_ := Aside0.mk (ho); clear HO_26; clear BK390; clear BK394; clear HB; clear HO_395000; have HO_26 := n0_; have BK390 := n1_; have BK394 := n2_; have HB := n3_; have HO403 := n4_; clear n0_ n1_ n2_ n3_ n4_; clear ho hb hg hat; obtain ⟨Ao21, co21, eo21⟩ := Kd.R_slice HO403.out; subst eo21; have hcz22_0 : w20.cell? ⟨gb394, 0, none⟩ = some (u395000) := (blk_cell BK394.out 0).trans rfl; have hcz22_1 : w20.cell? ⟨gb394, 1, none⟩ = some (.slice none 0 0) := (blk_cell BK394.out 1).trans rfl; have hfz22_0 := blk_frozen BK394.out 0; have hfz22_1 := blk_frozen BK394.out 1))
        go_roundg k1
        case measure => have := HK1.out; omega
        case rel => exact ⟨(t400), (wrap64 (x28_1 + 1)), (y401), (.slice Ao21 y401.length co21), (by first | rfl | (simp; done) | (simp [*]; done)), (by first | rfl | (simp; done) | (simp [*]; done)), H', ⟨by have := HK1.out; omega⟩, ⟨by (with_reducible repeat (first | apply Kd.R_alloc | apply Kd.R_drewN | apply Kd.R_drew)); exact Kd.R_mono (Kd.R_far (p := ⟨gb394, 0, none⟩) (Kd.R_types HO_26.out BK394.out (by decide)) (fun _ hk => hk.2) (.slice Ao21 y401.length co21)) (fun _ hk => trivial)⟩, ⟨by (with_reducible repeat (first | apply Kd.R_alloc | apply Kd.R_drewN | apply Kd.R_drew)); exact Kd.R_mono (Kd.R_far (p := ⟨gb394, 0, none⟩) (Kd.R_types HO403.out BK394.out (by decide)) (fun _ hk => hk.2) (.slice Ao21 y401.length co21)) (fun _ hk => trivial)⟩, ⟨by (with_reducible repeat (first | refine blk_drewN ?_ _ | refine blk_drew ?_ | refine blk_alloc ?_ _)); refine blk_far ?_ NB390_394.out _; (with_reducible repeat (first | refine blk_drewN ?_ _ | refine blk_drew ?_ | refine blk_alloc ?_ _)); exact BK390.out⟩, ⟨by (with_reducible repeat (first | refine blk_drewN ?_ _ | refine blk_drew ?_ | refine blk_alloc ?_ _)); refine blk_put (cs := #[u395000, .slice none 0 0]) ?_ 0 _ rfl; (with_reducible repeat (first | refine blk_drewN ?_ _ | refine blk_drew ?_ | refine blk_alloc ?_ _)); exact BK394.out⟩, ⟨by repeat (first | (with_reducible first | exact HB.out | apply below_alloc | apply pw_below_drewN | apply below_drew1 | refine below_set ?_ GE390.out | refine below_set ?_ GE394.out) | exact HB.out)⟩⟩
       ·rw [if_neg c16] at H
        exact absurd H (by simp)
      ·replace c15 := Bool.eq_false_iff.mpr c15
       subst c15
       have H1 : (if x395000_1.length < 17592186044416 then (impl_ReadFlow.l0 k1 t392 false t395 (t395.length : Int) (wrap64 (x28_1 + 1)) (x395000_1 ++ [t399])) else (none)) = some (r1, r2, r3) := by rw [if_neg (show ¬ (false = true) by decide)] at H; exact H
       clear H
       have H := H1
       clear H1
       by_cases c23 : x395000_1.length < 17592186044416
       ·rw [if_pos c23] at H
        have LMc23 := Aside0.mk c23
        clear c23
        obtain ⟨y404, hy404⟩ : ∃ y_ : List Int, y_ = (x395000_1 ++ [t399]) := ⟨_, rfl⟩
        replace H : (impl_ReadFlow.l0 k1 t392 false t395 (t395.length : Int) (wrap64 (x28_1 + 1)) y404) = some (r1, r2, r3) := by first | (rw [hy404]; with_reducible exact H) | (have H2_ := (Option.bind_some _ _).symm.trans H; rw [hy404]; with_reducible exact H2_) | (have H2_ := (Option.bind_some _ _).symm.trans H; with_reducible exact H2_) | with_reducible exact H | (rw [hy404]; exact H) | exact H
        have Ny404 := Aside0.mk hy404
        clear hy404
        have H' := Aside0.mk H
        clear H
        have p398 : 0 ≤ (x28_1 : Int) := of_decide_eq_true (by first | (with_reducible assumption) | assumption)
        have q398 : x28_1 < (t395.length : Int) := of_decide_eq_true (by first | (with_reducible assumption) | assumption)
        obtain ⟨ad398, e398, hx398_0⟩ := Kd.at_string (Kd.R_reads' HO_26.out).2.2 x28_1 p398 q398
        cases e398
        replace p398 := eq_true p398
        replace q398 := eq_true q398
        go_wp2_with (first | ((with_reducible refine gate_callee (f := 20) rfl ?_); refine goesL_ (some 34) rfl rfl Tryd.func20 (by kernel_rfl) rfl #[.string (rdOf ByteArray.empty t395 x28_1)] rfl (by (try simp only [List.map_toArray, List.map_cons, List.map_nil]); first | done | rfl | (simp only [List.length_drop, List.length_take]; rfl)) ?_; (with_reducible refine (impl_ReadDecimal.calls (rdOf ByteArray.empty t395 x28_1) t399 t400 _ A14.out (HEnvR.out.below (by repeat (first | (with_reducible first | exact HB.out | apply below_alloc | apply pw_below_drewN | apply below_drew1 | refine below_set ?_ GE390.out | refine below_set ?_ GE394.out) | exact HB.out)))).mono ?_); rintro e w24 ⟨rfl, hb⟩; refine ⟨_, rfl, ?_⟩; have n0_ := Aside0.mk (Kd.R_below (by (with_reducible repeat (first | apply Kd.R_alloc | apply Kd.R_drewN | apply Kd.R_drew)); exact HO_26.out) hb); have n1_ := Aside0.mk (Kd.R_below (by (with_reducible repeat (first | apply Kd.R_alloc | apply Kd.R_drewN | apply Kd.R_drew)); exact HO_395000.out) hb); have n2_ := Aside0.mk (blk_below (g := gb390) (o := .cells #[.slice none 0 0, .slice none 0 0] 25 (0, 0)) (by (with_reducible repeat (first | refine blk_drewN ?_ _ | refine blk_drew ?_ | refine blk_alloc ?_ _)); exact BK390.out) hb); have n3_ := Aside0.mk (blk_below (g := gb394) (o := .cells #[u395000, .slice none 0 0] 25 (0, 0)) (by (with_reducible repeat (first | refine blk_drewN ?_ _ | refine blk_drew ?_ | refine blk_alloc ?_ _)); exact BK394.out) hb); have n4_ := Aside0.mk (below_step (by repeat (first | (with_reducible first | exact HB.out | apply below_alloc | apply pw_below_drewN | apply below_drew1 | refine below_set ?_ GE390.out | refine below_set ?_ GE394.out) | exact HB.out)) hb); clear HO_26; clear HO_395000; clear BK390; clear BK394; clear HB; have HO_26 := n0_; have HO_395000 := n1_; have BK390 := n2_; have BK394 := n3_; have HB := n4_; clear n0_ n1_ n2_ n3_ n4_; (try clear hb); (try clear hb2); (try clear hk); (try clear hi); have hnb25 := NB394_390.out; have hnc25 := NB390_394.out; have hcz26_0 : w24.cell? ⟨gb394, 0, none⟩ = some (u395000) := (blk_cell BK394.out 0).trans rfl; have hcz26_1 : w24.cell? ⟨gb394, 1, none⟩ = some (.slice none 0 0) := (blk_cell BK394.out 1).trans rfl; have hfz26_0 := blk_frozen BK394.out 0; have hfz26_1 := blk_frozen BK394.out 1) | ((with_reducible refine gate_builtin (b := .append) (xs := #[.tmp 42, .tmp 44]) rfl ?_); at_builtin; refine Kd.R_append (Kd.int .i64) (w0 := w) w.heap.size rfl (.tmp 42) (.tmp 44) 22 2 (.int .i64 0) 8 rfl Tryd.underlying22 info2 rfl (by decide) (by omega) u395000 x395000_1 t399 [.int .i64 t399] (fun _ => True) (fun _ => False) rfl rfl ?aP (fun _ hk => hk.elim) ?aF ?aO ?aB ?aS ?aL ?_; (case aP => exact rfl); (case aB => exact (by repeat (first | (with_reducible first | exact HB.out | apply below_alloc | apply pw_below_drewN | apply below_drew1 | refine below_set ?_ GE390.out | refine below_set ?_ GE394.out) | exact HB.out))); (case aF => exact (fun _ _ => trivial)); (case aO => exact (by (with_reducible repeat (first | apply Kd.R_alloc | apply Kd.R_drewN | apply Kd.R_drew)); exact HO_395000.out)); (case aS => exact (below_size (by repeat (first | (with_reducible first | exact HB.out | apply below_alloc | apply pw_below_drewN | apply below_drew1 | refine below_set ?_ GE390.out | refine below_set ?_ GE394.out) | exact HB.out)))); (case aL => have := LMc23.out; omega); intro v405 w27 ho hb hg hat; rw [← Ny404.out] at ho; have n0_ := Aside0.mk (Kd.R_over' (by (with_reducible repeat (first | apply Kd.R_alloc | apply Kd.R_drewN | apply Kd.R_drew)); exact HO_26.out) (Kd.R_typed (by (with_reducible repeat (first | apply Kd.R_alloc | apply Kd.R_drewN | apply Kd.R_drew)); exact HO_395000.out)) (by decide) hg); have n1_ := Aside0.mk (blk_grown (g := gb390) (o := .cells #[.slice none 0 0, .slice none 0 0] 25 (0, 0)) (by (with_reducible repeat (first | refine blk_drewN ?_ _ | refine blk_drew ?_ | refine blk_alloc ?_ _)); exact BK390.out) hg (Kd.R_ne HO_395000.out BK390.out (by decide))); have n2_ := Aside0.mk (blk_grown (g := gb394) (o := .cells #[u395000, .slice none 0 0] 25 (0, 0)) (by (with_reducible repeat (first | refine blk_drewN ?_ _ | refine blk_drew ?_ | refine blk_alloc ?_ _)); exact BK394.out) hg (Kd.R_ne HO_395000.out BK394.out (by decide))); have n3_ := Aside0.mk (hb); have n4_ := Aside0.mk (ho); clear HO_26; clear BK390; clear BK394; clear HB; clear HO_395000; have HO_26 := n0_; have BK390 := n1_; have BK394 := n2_; have HB := n3_; have HO406 := n4_; clear n0_ n1_ n2_ n3_ n4_; clear ho hb hg hat; obtain ⟨Ao28, co28, eo28⟩ := Kd.R_slice HO406.out; subst eo28; have hcz29_0 : w27.cell? ⟨gb394, 0, none⟩ = some (u395000) := (blk_cell BK394.out 0).trans rfl; have hcz29_1 : w27.cell? ⟨gb394, 1, none⟩ = some (.slice none 0 0) := (blk_cell BK394.out 1).trans rfl; have hfz29_0 := blk_frozen BK394.out 0; have hfz29_1 := blk_frozen BK394.out 1))
        go_roundg k1
        case measure => have := HK1.out; omega
        case rel => exact ⟨(false), (wrap64 (x28_1 + 1)), (y404), (.slice Ao28 y404.length co28), (by first | rfl | (simp; done) | (simp [*]; done)), (by first | rfl | (simp; done) | (simp [*]; done)), H', ⟨by have := HK1.out; omega⟩, ⟨by (with_reducible repeat (first | apply Kd.R_alloc | apply Kd.R_drewN | apply Kd.R_drew)); exact Kd.R_mono (Kd.R_far (p := ⟨gb394, 0, none⟩) (Kd.R_types HO_26.out BK394.out (by decide)) (fun _ hk => hk.2) (.slice Ao28 y404.length co28)) (fun _ hk => trivial)⟩, ⟨by (with_reducible repeat (first | apply Kd.R_alloc | apply Kd.R_drewN | apply Kd.R_drew)); exact Kd.R_mono (Kd.R_far (p := ⟨gb394, 0, none⟩) (Kd.R_types HO406.out BK394.out (by decide)) (fun _ hk => hk.2) (.slice Ao28 y404.length co28)) (fun _ hk => trivial)⟩, ⟨by (with_reducible repeat (first | refine blk_drewN ?_ _ | refine blk_drew ?_ | refine blk_alloc ?_ _)); refine blk_far ?_ NB390_394.out _; (with_reducible repeat (first | refine blk_drewN ?_ _ | refine blk_drew ?_ | refine blk_alloc ?_ _)); exact BK390.out⟩, ⟨by (with_reducible repeat (first | refine blk_drewN ?_ _ | refine blk_drew ?_ | refine blk_alloc ?_ _)); refine blk_put (cs := #[u395000, .slice none 0 0]) ?_ 0 _ rfl; (with_reducible repeat (first | refine blk_drewN ?_ _ | refine blk_drew ?_ | refine blk_alloc ?_ _)); exact BK394.out⟩, ⟨by repeat (first | (with_reducible first | exact HB.out | apply below_alloc | apply pw_below_drewN | apply below_drew1 | refine below_set ?_ GE390.out | refine below_set ?_ GE394.out) | exact HB.out)⟩⟩
       ·rw [if_neg c23] at H
        exact absurd H (by simp)
     ·rw [if_neg c13] at H
      exact absurd H (by simp)
    ·rw [if_neg c12] at H
     exact absurd H (by simp)
   ·rw [if_neg c11] at H
    have c11b0 : decide (x28_1 < (t395.length : Int)) = false := decide_eq_false c11
    clear c11
    by_cases c30 : t392.toList = ([] : List UInt8)
    ·rw [if_pos c30] at H
     have c30b0 : (t392.toList == ([] : List UInt8)) = true := beq_iff_eq.mpr c30
     have c30b1 : (t392.toList != ([] : List UInt8)) = false := bne_eq_false_iff_eq.mpr c30
     clear c30
     by_cases c31 : x6_1 = true
     ·subst c31
      have H1 : ((impl_ValidFlow.f k1 x395000_1 ([] : List (S43))).bind fun t407 => (if t407 = true then (some (x395000_1, ([] : List (S43)), true)) else (some (([] : List Int), ([] : List (S43)), false)))) = some (r1, r2, r3) := by rw [if_pos rfl] at H; exact H
      clear H
      have H := H1
      clear H1
      replace H := Option.bind_eq_some_iff.mp H
      obtain ⟨t407, A320, H⟩ := H
      replace H : (if t407 = true then (some (x395000_1, ([] : List (S43)), true)) else (some (([] : List Int), ([] : List (S43)), false))) = some (r1, r2, r3) := H
      have A32 := Aside0.mk A320
      clear A320
      by_cases c33 : t407 = true
      ·subst c33
       have H1 : (some (x395000_1, ([] : List (S43)), true)) = some (r1, r2, r3) := by rw [if_pos rfl] at H; exact H
       clear H
       have H := H1
       clear H1
       simp only [Option.some.injEq, Prod.mk.injEq] at H
       obtain ⟨rfl, rfl, rfl⟩ := H
       have hnb34 := NB394_390.out
       have hnc34 := NB390_394.out
       have hcz35_0 : wr.cell? ⟨gb394, 0, none⟩ = some (u395000) := (blk_cell BK394.out 0).trans rfl
       have hcz35_1 : wr.cell? ⟨gb394, 1, none⟩ = some (.slice none 0 0) := (blk_cell BK394.out 1).trans rfl
       have hfz35_0 := blk_frozen BK394.out 0
       have hfz35_1 := blk_frozen BK394.out 1
       obtain ⟨Ao36, co36, eo36⟩ := Kd.R_slice HO_395000.out
       subst eo36
       go_wp2_with (first | (go_at_call 22; (refine (impl_ValidFlow.calls k1 _ _ x395000_1 _ _ ([] : List (S43)) true _ ?side1 ?side2 ?side3 ?side4 A32.out).mono ?_); (case side1 => repeat (first | exact (Kd.R_reads' HO_395000.out).2.2 | (with_reducible refine Kd.C_alloc ?_ _) | (with_reducible refine Kd.C_drewN ?_ _) | (with_reducible refine Kd.C_drew ?_))); (case side2 => first | exact trivial | (exact (Kd.R_reads' HO_395000.out).2.1)); (case side3 => exact Kd.C_nil _ _); (case side4 => first | exact trivial | (exact Nat.le_refl _)); rintro e w37 ⟨rfl, hb⟩; have n0_ := Aside0.mk (Kd.R_below (by (with_reducible repeat (first | apply Kd.R_alloc | apply Kd.R_drewN | apply Kd.R_drew)); exact HO_26.out) hb); have n1_ := Aside0.mk (Kd.R_below (by (with_reducible repeat (first | apply Kd.R_alloc | apply Kd.R_drewN | apply Kd.R_drew)); exact HO_395000.out) hb); have n2_ := Aside0.mk (blk_below (g := gb390) (o := .cells #[.slice none 0 0, .slice none 0 0] 25 (0, 0)) (by (with_reducible repeat (first | refine blk_drewN ?_ _ | refine blk_drew ?_ | refine blk_alloc ?_ _)); exact BK390.out) hb); have n3_ := Aside0.mk (blk_below (g := gb394) (o := .cells #[.slice Ao36 x395000_1.length co36, .slice none 0 0] 25 (0, 0)) (by (with_reducible repeat (first | refine blk_drewN ?_ _ | refine blk_drew ?_ | refine blk_alloc ?_ _)); exact BK394.out) hb); have n4_ := Aside0.mk (below_step (by repeat (first | (with_reducible first | exact HB.out | apply below_alloc | apply pw_below_drewN | apply below_drew1 | refine below_set ?_ GE390.out | refine below_set ?_ GE394.out) | exact HB.out)) hb); clear HO_26; clear HO_395000; clear BK390; clear BK394; clear HB; have HO_26 := n0_; have HO_395000 := n1_; have BK390 := n2_; have BK394 := n3_; have HB := n4_; clear n0_ n1_ n2_ n3_ n4_; (try clear hb); (try clear hb2); (try clear hk); (try clear hi); have hcz38_0 : w37.cell? ⟨gb394, 0, none⟩ = some (.slice Ao36 x395000_1.length co36) := (blk_cell BK394.out 0).trans rfl; have hcz38_1 : w37.cell? ⟨gb394, 1, none⟩ = some (.slice none 0 0) := (blk_cell BK394.out 1).trans rfl; have hfz38_0 := blk_frozen BK394.out 0; have hfz38_1 := blk_frozen BK394.out 1; have hcz39_0 : w37.cell? ⟨gb390, 0, none⟩ = some (.slice none 0 0) := (blk_cell BK390.out 0).trans rfl; have hcz39_1 : w37.cell? ⟨gb390, 1, none⟩ = some (.slice none 0 0) := (blk_cell BK390.out 1).trans rfl; have hfz39_0 := blk_frozen BK390.out 0; have hfz39_1 := blk_frozen BK390.out 1))
       refine bodyPost_ret (results_ct rfl _ _ gb390 25 #[.slice Ao36 x395000_1.length co36, .slice none 0 0] (0, 0) _ rfl (by (with_reducible repeat (first | refine blk_drewN ?_ _ | refine blk_drew ?_ | refine blk_alloc ?_ _)); refine blk_put (cs := #[.slice Ao36 x395000_1.length co36, .slice none 0 0]) ?_ 1 _ rfl; (with_reducible repeat (first | refine blk_drewN ?_ _ | refine blk_drew ?_ | refine blk_alloc ?_ _)); refine blk_put (cs := #[.slice none 0 0, .slice none 0 0]) ?_ 0 _ rfl; (with_reducible repeat (first | refine blk_drewN ?_ _ | refine blk_drew ?_ | refine blk_alloc ?_ _)); exact BK390.out) Tryd.underlying25 rfl (by kernel_rfl)) rfl ?_
       exact ⟨_, _, by first | rfl | (simp [errW_none, errW_some] <;> rfl) | (simp [*, errW_none, errW_some] <;> rfl), by (with_reducible repeat (first | apply Kd.R_alloc | apply Kd.R_drewN | apply Kd.R_drew)); exact Kd.R_mono (Kd.R_far (p := ⟨gb390, 1, none⟩) (Kd.R_far (p := ⟨gb390, 0, none⟩) (Kd.R_types HO_395000.out BK390.out (by decide)) (fun _ hk => hk.2) (.slice Ao36 x395000_1.length co36)) (fun _ hk => hk.2) (.slice none 0 0)) (fun _ hk => trivial), by first | exact Kd.R_nil _ _ _ _ _ | exact Kd.N_nil _ _ _ _ _ | exact Kd.V_nil _ _ _ _ _ | exact Kd.Q_nil _ _ _ _ _ | exact Kd.S_nil _ _ _ _ _, by repeat (first | (with_reducible first | exact HB.out | apply below_alloc | apply pw_below_drewN | apply below_drew1 | refine below_set ?_ GE390.out | refine below_set ?_ GE394.out) | exact HB.out)⟩
      ·replace c33 := Bool.eq_false_iff.mpr c33
       subst c33
       have H1 : (some (([] : List Int), ([] : List (S43)), false)) = some (r1, r2, r3) := by rw [if_neg (show ¬ (false = true) by decide)] at H; exact H
       clear H
       have H := H1
       clear H1
       simp only [Option.some.injEq, Prod.mk.injEq] at H
       obtain ⟨rfl, rfl, rfl⟩ := H
       have hnb40 := NB394_390.out
       have hnc40 := NB390_394.out
       have hcz41_0 : wr.cell? ⟨gb394, 0, none⟩ = some (u395000) := (blk_cell BK394.out 0).trans rfl
       have hcz41_1 : wr.cell? ⟨gb394, 1, none⟩ = some (.slice none 0 0) := (blk_cell BK394.out 1).trans rfl
       have hfz41_0 := blk_frozen BK394.out 0
       have hfz41_1 := blk_frozen BK394.out 1
       obtain ⟨Ao42, co42, eo42⟩ := Kd.R_slice HO_395000.out
       subst eo42
       go_wp2_with (first | (go_at_call 22; (refine (impl_ValidFlow.calls k1 _ _ x395000_1 _ _ ([] : List (S43)) false _ ?side1 ?side2 ?side3 ?side4 A32.out).mono ?_); (case side1 => repeat (first | exact (Kd.R_reads' HO_395000.out).2.2 | (with_reducible refine Kd.C_alloc ?_ _) | (with_reducible refine Kd.C_drewN ?_ _) | (with_reducible refine Kd.C_drew ?_))); (case side2 => first | exact trivial | (exact (Kd.R_reads' HO_395000.out).2.1)); (case side3 => exact Kd.C_nil _ _); (case side4 => first | exact trivial | (exact Nat.le_refl _)); rintro e w43 ⟨rfl, hb⟩; have n0_ := Aside0.mk (Kd.R_below (by (with_reducible repeat (first | apply Kd.R_alloc | apply Kd.R_drewN | apply Kd.R_drew)); exact HO_26.out) hb); have n1_ := Aside0.mk (Kd.R_below (by (with_reducible repeat (first | apply Kd.R_alloc | apply Kd.R_drewN | apply Kd.R_drew)); exact HO_395000.out) hb); have n2_ := Aside0.mk (blk_below (g := gb390) (o := .cells #[.slice none 0 0, .slice none 0 0] 25 (0, 0)) (by (with_reducible repeat (first | refine blk_drewN ?_ _ | refine blk_drew ?_ | refine blk_alloc ?_ _)); exact BK390.out) hb); have n3_ := Aside0.mk (blk_below (g := gb394) (o := .cells #[.slice Ao42 x395000_1.length co42, .slice none 0 0] 25 (0, 0)) (by (with_reducible repeat (first | refine blk_drewN ?_ _ | refine blk_drew ?_ | refine blk_alloc ?_ _)); exact BK394.out) hb); have n4_ := Aside0.mk (below_step (by repeat (first | (with_reducible first | exact HB.out | apply below_alloc | apply pw_below_drewN | apply below_drew1 | refine below_set ?_ GE390.out | refine below_set ?_ GE394.out) | exact HB.out)) hb); clear HO_26; clear HO_395000; clear BK390; clear BK394; clear HB; have HO_26 := n0_; have HO_395000 := n1_; have BK390 := n2_; have BK394 := n3_; have HB := n4_; clear n0_ n1_ n2_ n3_ n4_; (try clear hb); (try clear hb2); (try clear hk); (try clear hi); have hcz44_0 : w43.cell? ⟨gb390, 0, none⟩ = some (.slice none 0 0) := (blk_cell BK390.out 0).trans rfl; have hcz44_1 : w43.cell? ⟨gb390, 1, none⟩ = some (.slice none 0 0) := (blk_cell BK390.out 1).trans rfl; have hfz44_0 := blk_frozen BK390.out 0; have hfz44_1 := blk_frozen BK390.out 1))
       refine bodyPost_ret (results_ct rfl _ _ gb390 25 #[.slice none 0 0, .slice none 0 0] (0, 0) _ rfl (by (with_reducible repeat (first | refine blk_drewN ?_ _ | refine blk_drew ?_ | refine blk_alloc ?_ _)); refine blk_put (cs := #[.slice none 0 0, .slice none 0 0]) ?_ 1 _ rfl; (with_reducible repeat (first | refine blk_drewN ?_ _ | refine blk_drew ?_ | refine blk_alloc ?_ _)); refine blk_put (cs := #[.slice none 0 0, .slice none 0 0]) ?_ 0 _ rfl; (with_reducible repeat (first | refine blk_drewN ?_ _ | refine blk_drew ?_ | refine blk_alloc ?_ _)); exact BK390.out) Tryd.underlying25 rfl (by kernel_rfl)) rfl ?_
       exact ⟨_, _, by first | rfl | (simp [errW_none, errW_some] <;> rfl) | (simp [*, errW_none, errW_some] <;> rfl), by first | exact Kd.R_nil _ _ _ _ _ | exact Kd.N_nil _ _ _ _ _ | exact Kd.V_nil _ _ _ _ _ | exact Kd.Q_nil _ _ _ _ _ | exact Kd.S_nil _ _ _ _ _, by first | exact Kd.R_nil _ _ _ _ _ | exact Kd.N_nil _ _ _ _ _ | exact Kd.V_nil _ _ _ _ _ | exact Kd.Q_nil _ _ _ _ _ | exact Kd.S_nil _ _ _ _ _, by repeat (first | (with_reducible first | exact HB.out | apply below_alloc | apply pw_below_drewN | apply below_drew1 | refine below_set ?_ GE390.out | refine below_set ?_ GE394.out) | exact HB.out)⟩
     ·replace c31 := Bool.eq_false_iff.mpr c31
      subst c31
      have H1 : (some (([] : List Int), ([] : List (S43)), false)) = some (r1, r2, r3) := by rw [if_neg (show ¬ (false = true) by decide)] at H; exact H
      clear H
      have H := H1
      clear H1
      simp only [Option.some.injEq, Prod.mk.injEq] at H
      obtain ⟨rfl, rfl, rfl⟩ := H
      have hnb45 := NB390_394.out
      have hnc45 := NB394_390.out
      have hcz46_0 : wr.cell? ⟨gb390, 0, none⟩ = some (.slice none 0 0) := (blk_cell BK390.out 0).trans rfl
      have hcz46_1 : wr.cell? ⟨gb390, 1, none⟩ = some (.slice none 0 0) := (blk_cell BK390.out 1).trans rfl
      have hfz46_0 := blk_frozen BK390.out 0
      have hfz46_1 := blk_frozen BK390.out 1
      go_wp2
      refine bodyPost_ret (results_ct rfl _ _ gb390 25 #[.slice none 0 0, .slice none 0 0] (0, 0) _ rfl (by (with_reducible repeat (first | refine blk_drewN ?_ _ | refine blk_drew ?_ | refine blk_alloc ?_ _)); refine blk_put (cs := #[.slice none 0 0, .slice none 0 0]) ?_ 1 _ rfl; (with_reducible repeat (first | refine blk_drewN ?_ _ | refine blk_drew ?_ | refine blk_alloc ?_ _)); refine blk_put (cs := #[.slice none 0 0, .slice none 0 0]) ?_ 0 _ rfl; (with_reducible repeat (first | refine blk_drewN ?_ _ | refine blk_drew ?_ | refine blk_alloc ?_ _)); exact BK390.out) Tryd.underlying25 rfl (by kernel_rfl)) rfl ?_
      exact ⟨_, _, by first | rfl | (simp [errW_none, errW_some] <;> rfl) | (simp [*, errW_none, errW_some] <;> rfl), by first | exact Kd.R_nil _ _ _ _ _ | exact Kd.N_nil _ _ _ _ _ | exact Kd.V_nil _ _ _ _ _ | exact Kd.Q_nil _ _ _ _ _ | exact Kd.S_nil _ _ _ _ _, by first | exact Kd.R_nil _ _ _ _ _ | exact Kd.N_nil _ _ _ _ _ | exact Kd.V_nil _ _ _ _ _ | exact Kd.Q_nil _ _ _ _ _ | exact Kd.S_nil _ _ _ _ _, by repeat (first | (with_reducible first | exact HB.out | apply below_alloc | apply pw_below_drewN | apply below_drew1 | refine below_set ?_ GE390.out | refine below_set ?_ GE394.out) | exact HB.out)⟩
    ·rw [if_neg c30] at H
     have c30b0 : (t392.toList == ([] : List UInt8)) = false := beq_eq_false_iff_ne.mpr c30
     have c30b1 : (t392.toList != ([] : List UInt8)) = true := bne_iff_ne.mpr c30
     replace H := Option.bind_eq_some_iff.mp H
     obtain ⟨t408, A470, H⟩ := H
     replace H : (impl_ReadFlow.l1 k1 x6_1 t408 (t408.length : Int) 0 x395000_1 ([] : List (S43))) = some (r1, r2, r3) := H
     have A47 := Aside0.mk A470
     clear A470
     have H' := Aside0.mk H
     clear H
     go_wp2_with (first | ((with_reducible refine gate_callee (f := 19) rfl ?_); refine goesL_ (some 51) rfl rfl Tryd.func19 (by kernel_rfl) rfl #[.string t392, .string (⟨#[44]⟩ : ByteArray)] rfl (by (try simp only [List.map_toArray, List.map_cons, List.map_nil]); first | done | rfl | (simp only [List.length_drop, List.length_take]; rfl)) ?_; (with_reducible refine (strings_Split.calls t392 (⟨#[44]⟩ : ByteArray) t408 _ A47.out).mono ?_); rintro e w48 ⟨v409, rfl, ho0, hb⟩; refine ⟨_, rfl, ?_⟩; have n0_ := Aside0.mk (Kd.R_elder' (by (with_reducible repeat (first | apply Kd.R_alloc | apply Kd.R_drewN | apply Kd.R_drew)); exact HO_26.out) (Kd.R_base ho0) hb); have n1_ := Aside0.mk (Kd.R_below (by (with_reducible repeat (first | apply Kd.R_alloc | apply Kd.R_drewN | apply Kd.R_drew)); exact HO_395000.out) hb); have n2_ := Aside0.mk (Kd.R_lower (Kd.R_new' ho0 (Kd.R_lt (by (with_reducible repeat (first | apply Kd.R_alloc | apply Kd.R_drewN | apply Kd.R_drew)); exact HO_26.out))) (below_size (by repeat (first | (with_reducible first | exact HB.out | apply below_alloc | apply pw_below_drewN | apply below_drew1 | refine below_set ?_ GE390.out | refine below_set ?_ GE394.out) | exact HB.out)))); have n3_ := Aside0.mk (blk_below (g := gb390) (o := .cells #[.slice none 0 0, .slice none 0 0] 25 (0, 0)) (by (with_reducible repeat (first | refine blk_drewN ?_ _ | refine blk_drew ?_ | refine blk_alloc ?_ _)); exact BK390.out) hb); have n4_ := Aside0.mk (blk_below (g := gb394) (o := .cells #[u395000, .slice none 0 0] 25 (0, 0)) (by (with_reducible repeat (first | refine blk_drewN ?_ _ | refine blk_drew ?_ | refine blk_alloc ?_ _)); exact BK394.out) hb); have n5_ := Aside0.mk (below_step (by repeat (first | (with_reducible first | exact HB.out | apply below_alloc | apply pw_below_drewN | apply below_drew1 | refine below_set ?_ GE390.out | refine below_set ?_ GE394.out) | exact HB.out)) hb); clear HO_26; clear HO_395000; clear BK390; clear BK394; clear HB; have HO_26 := n0_; have HO_395000 := n1_; have HO410 := n2_; have BK390 := n3_; have BK394 := n4_; have HB := n5_; clear n0_ n1_ n2_ n3_ n4_ n5_; (try clear hb); (try clear hb2); (try clear hk); (try clear hi); (try clear ho0); obtain ⟨Ao49, co49, eo49⟩ := Kd.R_slice HO410.out; subst eo49))
     go_loopg [6, 53] k1 (fun kq v6 v53 w' => ∃ (x6_2 : Bool) (x53_2 : Int) (x395001_2 : List (S43)) (u395001 : Value), v6 = .bool x6_2 ∧ v53 = .int .i64 x53_2 ∧ Aside0 (impl_ReadFlow.l1 kq x6_2 t408 (t408.length : Int) x53_2 x395000_1 x395001_2 = some (r1, r2, r3)) ∧ Aside0 (kq ≤ k1) ∧ Aside0 (Kd.R Kd.string 9 w' w.heap.size (fun _ => True) (.slice Ao49 t408.length co49) t408) ∧ Aside0 (Kd.R (Kd.int .i64) 2 w' w.heap.size (fun _ => True) u395000 x395000_1) ∧ Aside0 (Kd.R k43 43 w' w.heap.size (fun _ => True) u395001 x395001_2) ∧ Aside0 (w'.heap[gb390]? = some (.cells #[(.slice none 0 0), (.slice none 0 0)] 25 (0, 0))) ∧ Aside0 (w'.heap[gb394]? = some (.cells #[u395000, u395001] 25 (0, 0))) ∧ Aside0 (Below w.heap.size w w'))
     case atStart => exact ⟨(x6_1), (0), (([] : List (S43))), (.slice none 0 0), (by first | rfl | (simp; done) | (simp [*]; done)), (by first | rfl | (simp; done) | (simp [*]; done)), H', ⟨Nat.le_refl _⟩, ⟨by (with_reducible repeat (first | apply Kd.R_alloc | apply Kd.R_drewN | apply Kd.R_drew)); exact Kd.R_mono HO410.out (fun _ hk => trivial)⟩, ⟨by (with_reducible repeat (first | apply Kd.R_alloc | apply Kd.R_drewN | apply Kd.R_drew)); exact HO_395000.out⟩, ⟨by first | exact Kd.R_nil _ _ _ _ _ | exact Kd.N_nil _ _ _ _ _ | exact Kd.V_nil _ _ _ _ _ | exact Kd.Q_nil _ _ _ _ _ | exact Kd.S_nil _ _ _ _ _⟩, ⟨by (with_reducible repeat (first | refine blk_drewN ?_ _ | refine blk_drew ?_ | refine blk_alloc ?_ _)); exact BK390.out⟩, ⟨by (with_reducible repeat (first | refine blk_drewN ?_ _ | refine blk_drew ?_ | refine blk_alloc ?_ _)); exact BK394.out⟩, ⟨by repeat (first | (with_reducible first | exact HB.out | apply below_alloc | apply pw_below_drewN | apply below_drew1 | refine below_set ?_ GE390.out | refine below_set ?_ GE394.out) | exact HB.out)⟩⟩
     case round =>
      clear H'
      try clear c1
      try clear c2
      try clear p2
      try clear c3
      try clear p3
      try clear q3
      try clear hx3
      try clear c4
      try clear c6
      try clear p6
      try clear c7
      try clear c11
      try clear c11b0
      try clear c12
      try clear c12b0
      try clear c13
      try clear c13b0
      try clear c15
      try clear c16
      try clear c18
      try clear c19
      try clear c20
      try clear c23
      try clear c25
      try clear c30
      try clear c30b0
      try clear c30b1
      try clear c31
      try clear c33
      try clear c34
      try clear p39
      try clear q39
      try clear hx39
      try clear c40
      try clear c45
      try clear hcz19_0
      try clear hcz19_1
      try clear hcz22_0
      try clear hcz22_1
      try clear hcz26_0
      try clear hcz26_1
      try clear hcz29_0
      try clear hcz29_1
      try clear hcz35_0
      try clear hcz35_1
      try clear hcz38_0
      try clear hcz38_1
      try clear hcz39_0
      try clear hcz39_1
      try clear hcz41_0
      try clear hcz41_1
      try clear hcz44_0
      try clear hcz44_1
      try clear hcz46_0
      try clear hcz46_1
      try clear hcz8_0
      try clear hcz8_1
      try clear hfz19_0
      try clear hfz19_1
      try clear hfz22_0
      try clear hfz22_1
      try clear hfz26_0
      try clear hfz26_1
      try clear hfz29_0
      try clear hfz29_1
      try clear hfz35_0
      try clear hfz35_1
      try clear hfz38_0
      try clear hfz38_1
      try clear hfz39_0
      try clear hfz39_1
      try clear hfz41_0
      try clear hfz41_1
      try clear hfz44_0
      try clear hfz44_1
      try clear hfz46_0
      try clear hfz46_1
      try clear hfz8_0
      try clear hfz8_1
      try clear hx398_0
      try clear p2
      try clear p398
      try clear q398
      obtain ⟨x6_2, x53_2, x395001_2, u395001, rfl, rfl, HA, HK2, HO_51, HO_395000, HO_395001, BK390, BK394, HB⟩ := hrel
      cases gk with
      | zero => exact absurd HA.out (by simp [impl_ReadFlow.l1])
      | succ k2 =>
       have H := HA.out
       clear HA
       simp only [impl_ReadFlow.l1] at H
       by_cases c50 : x53_2 < (t408.length : Int)
       ·rw [if_pos c50] at H
        have c50b0 : decide (x53_2 < (t408.length : Int)) = true := decide_eq_true c50
        clear c50
        by_cases c51 : 0 ≤ x53_2
        ·rw [if_pos c51] at H
         have c51b0 : decide (0 ≤ x53_2) = true := decide_eq_true c51
         clear c51
         by_cases c52 : x53_2 < (t408.length : Int)
         ·rw [if_pos c52] at H
          have c52b0 : decide (x53_2 < (t408.length : Int)) = true := decide_eq_true c52
          clear c52
          replace H := Option.bind_eq_some_iff.mp H
          obtain ⟨⟨t412, t413, t414, t415⟩, A530, H⟩ := H
          replace H : (if x6_2 = true then (if x395001_2.length < 5864062014805 then (impl_ReadFlow.l1 k2 t415 t408 (t408.length : Int) (wrap64 (x53_2 + 1)) x395000_1 (x395001_2 ++ [(⟨t412, t413, t414⟩ : S43)])) else (none)) else (if x395001_2.length < 5864062014805 then (impl_ReadFlow.l1 k2 false t408 (t408.length : Int) (wrap64 (x53_2 + 1)) x395000_1 (x395001_2 ++ [(⟨t412, t413, t414⟩ : S43)])) else (none))) = some (r1, r2, r3) := H
          have A53 := Aside0.mk A530
          clear A530
          by_cases c54 : x6_2 = true
          ·subst c54
           have H1 : (if x395001_2.length < 5864062014805 then (impl_ReadFlow.l1 k2 t415 t408 (t408.length : Int) (wrap64 (x53_2 + 1)) x395000_1 (x395001_2 ++ [(⟨t412, t413, t414⟩ : S43)])) else (none)) = some (r1, r2, r3) := by rw [if_pos rfl] at H; exact H
           clear H
           have H := H1
           clear H1
           by_cases c55 : x395001_2.length < 5864062014805
           ·rw [if_pos c55] at H
            have LMc55 := Aside0.mk c55
            clear c55
            obtain ⟨y416, hy416⟩ : ∃ y_ : List (S43), y_ = (x395001_2 ++ [(⟨t412, t413, t414⟩ : S43)]) := ⟨_, rfl⟩
            replace H : (impl_ReadFlow.l1 k2 t415 t408 (t408.length : Int) (wrap64 (x53_2 + 1)) x395000_1 y416) = some (r1, r2, r3) := by first | (rw [hy416]; with_reducible exact H) | (have H2_ := (Option.bind_some _ _).symm.trans H; rw [hy416]; with_reducible exact H2_) | (have H2_ := (Option.bind_some _ _).symm.trans H; with_reducible exact H2_) | with_reducible exact H | (rw [hy416]; exact H) | exact H
            have Ny416 := Aside0.mk hy416
            clear hy416
            have H' := Aside0.mk H
            clear H
            have p411 : 0 ≤ (x53_2 : Int) := of_decide_eq_true (by first | (with_reducible assumption) | assumption)
            have q411 : x53_2 < (t408.length : Int) := of_decide_eq_true (by first | (with_reducible assumption) | assumption)
            obtain ⟨ad411, e411, hx411_0⟩ := Kd.at_string (Kd.R_reads' HO_51.out).2.2 x53_2 p411 q411
            cases e411
            replace p411 := eq_true p411
            replace q411 := eq_true q411
            go_wp2_with (first | ((with_reducible refine gate_callee (f := 21) rfl ?_); refine goesL_ (some 59) rfl rfl Tryd.func21 (by kernel_rfl) rfl #[.string (rdOf ByteArray.empty t408 x53_2)] rfl (by (try simp only [List.map_toArray, List.map_cons, List.map_nil]); first | done | rfl | (simp only [List.length_drop, List.length_take]; rfl)) ?_; (with_reducible refine (impl_threeNumbers.calls (rdOf ByteArray.empty t408 x53_2) t412 t413 t414 t415 _ A53.out (HEnvR.out.below (by repeat (first | (with_reducible first | exact HB.out | apply below_alloc | apply pw_below_drewN | apply below_drew1 | refine below_set ?_ GE390.out | refine below_set ?_ GE394.out) | exact HB.out)))).mono ?_); rintro e w56 ⟨rfl, hb⟩; refine ⟨_, rfl, ?_⟩; have n0_ := Aside0.mk (Kd.R_below (by (with_reducible repeat (first | apply Kd.R_alloc | apply Kd.R_drewN | apply Kd.R_drew)); exact HO_51.out) hb); have n1_ := Aside0.mk (Kd.R_below (by (with_reducible repeat (first | apply Kd.R_alloc | apply Kd.R_drewN | apply Kd.R_drew)); exact HO_395000.out) hb); have n2_ := Aside0.mk (Kd.R_below (by (with_reducible repeat (first | apply Kd.R_alloc | apply Kd.R_drewN | apply Kd.R_drew)); exact HO_395001.out) hb); have n3_ := Aside0.mk (blk_below (g := gb390) (o := .cells #[.slice none 0 0, .slice none 0 0] 25 (0, 0)) (by (with_reducible repeat (first | refine blk_drewN ?_ _ | refine blk_drew ?_ | refine blk_alloc ?_ _)); exact BK390.out) hb); have n4_ := Aside0.mk (blk_below (g := gb394) (o := .cells #[u395000, u395001] 25 (0, 0)) (by (with_reducible repeat (first | refine blk_drewN ?_ _ | refine blk_drew ?_ | refine blk_alloc ?_ _)); exact BK394.out) hb); have n5_ := Aside0.mk (below_step (by repeat (first | (with_reducible first | exact HB.out | apply below_alloc | apply pw_below_drewN | apply below_drew1 | refine below_set ?_ GE390.out | refine below_set ?_ GE394.out) | exact HB.out)) hb); clear HO_51; clear HO_395000; clear HO_395001; clear BK390; clear BK394; clear HB; have HO_51 := n0_; have HO_395000 := n1_; have HO_395001 := n2_; have BK390 := n3_; have BK394 := n4_; have HB := n5_; clear n0_ n1_ n2_ n3_ n4_ n5_; (try clear hb); (try clear hb2); (try clear hk); (try clear hi); have hnb57 := NB394_390.out; have hnc57 := NB390_394.out; have hcz58_0 : w56.cell? ⟨gb394, 0, none⟩ = some (u395000) := (blk_cell BK394.out 0).trans rfl; have hcz58_1 : w56.cell? ⟨gb394, 1, none⟩ = some (u395001) := (blk_cell BK394.out 1).trans rfl; have hfz58_0 := blk_frozen BK394.out 0; have hfz58_1 := blk_frozen BK394.out 1) | ((with_reducible refine gate_builtin (b := .append) (xs := #[.tmp 69, .tmp 74]) rfl ?_); at_builtin; refine Kd.R_append k43 (w0 := w) w.heap.size rfl (.tmp 69) (.tmp 74) 23 43 (.agg #[(.int .i64 0), (.int .i64 0), (.int .i64 0)]) 24 rfl Tryd.underlying23 info43 rfl (by decide) (by omega) u395001 x395001_2 (⟨t412, t413, t414⟩ : S43) [.int .i64 t412, .int .i64 t413, .int .i64 t414] (fun _ => True) (fun _ => False) rfl rfl ?aP (fun _ hk => hk.elim) ?aF ?aO ?aB ?aS ?aL ?_; (case aP => exact k43_mkM _ _ _ (⟨t412, t413, t414⟩ : S43)); (case aB => exact (by repeat (first | (with_reducible first | exact HB.out | apply below_alloc | apply pw_below_drewN | apply below_drew1 | refine below_set ?_ GE390.out | refine below_set ?_ GE394.out) | exact HB.out))); (case aF => exact (fun _ _ => trivial)); (case aO => exact (by (with_reducible repeat (first | apply Kd.R_alloc | apply Kd.R_drewN | apply Kd.R_drew)); exact HO_395001.out)); (case aS => exact (below_size (by repeat (first | (with_reducible first | exact HB.out | apply below_alloc | apply pw_below_drewN | apply below_drew1 | refine below_set ?_ GE390.out | refine below_set ?_ GE394.out) | exact HB.out)))); (case aL => have := LMc55.out; omega); intro v417 w59 ho hb hg hat; rw [← Ny416.out] at ho; have n0_ := Aside0.mk (Kd.R_over' (by (with_reducible repeat (first | apply Kd.R_alloc | apply Kd.R_drewN | apply Kd.R_drew)); exact HO_51.out) (Kd.R_typed (by (with_reducible repeat (first | apply Kd.R_alloc | apply Kd.R_drewN | apply Kd.R_drew)); exact HO_395001.out)) (by decide) hg); have n1_ := Aside0.mk (Kd.R_over' (by (with_reducible repeat (first | apply Kd.R_alloc | apply Kd.R_drewN | apply Kd.R_drew)); exact HO_395000.out) (Kd.R_typed (by (with_reducible repeat (first | apply Kd.R_alloc | apply Kd.R_drewN | apply Kd.R_drew)); exact HO_395001.out)) (by decide) hg); have n2_ := Aside0.mk (blk_grown (g := gb390) (o := .cells #[.slice none 0 0, .slice none 0 0] 25 (0, 0)) (by (with_reducible repeat (first | refine blk_drewN ?_ _ | refine blk_drew ?_ | refine blk_alloc ?_ _)); exact BK390.out) hg (Kd.R_ne HO_395001.out BK390.out (by decide))); have n3_ := Aside0.mk (blk_grown (g := gb394) (o := .cells #[u395000, u395001] 25 (0, 0)) (by (with_reducible repeat (first | refine blk_drewN ?_ _ | refine blk_drew ?_ | refine blk_alloc ?_ _)); exact BK394.out) hg (Kd.R_ne HO_395001.out BK394.out (by decide))); have n4_ := Aside0.mk (hb); have n5_ := Aside0.mk (ho); clear HO_51; clear HO_395000; clear BK390; clear BK394; clear HB; clear HO_395001; have HO_51 := n0_; have HO_395000 := n1_; have BK390 := n2_; have BK394 := n3_; have HB := n4_; have HO418 := n5_; clear n0_ n1_ n2_ n3_ n4_ n5_; clear ho hb hg hat; obtain ⟨Ao60, co60, eo60⟩ := Kd.R_slice HO418.out; subst eo60; have hcz61_0 : w59.cell? ⟨gb394, 0, none⟩ = some (u395000) := (blk_cell BK394.out 0).trans rfl; have hcz61_1 : w59.cell? ⟨gb394, 1, none⟩ = some (u395001) := (blk_cell BK394.out 1).trans rfl; have hfz61_0 := blk_frozen BK394.out 0; have hfz61_1 := blk_frozen BK394.out 1))
            go_roundg k2
            case measure => have := HK1.out; have := HK2.out; omega
            case rel => exact ⟨(t415), (wrap64 (x53_2 + 1)), (y416), (.slice Ao60 y416.length co60), (by first | rfl | (simp; done) | (simp [*]; done)), (by first | rfl | (simp; done) | (simp [*]; done)), H', ⟨by have := HK1.out; have := HK2.out; omega⟩, ⟨by (with_reducible repeat (first | apply Kd.R_alloc | apply Kd.R_drewN | apply Kd.R_drew)); exact Kd.R_mono (Kd.R_far (p := ⟨gb394, 1, none⟩) (Kd.R_types HO_51.out BK394.out (by decide)) (fun _ hk => hk.2) (.slice Ao60 y416.length co60)) (fun _ hk => trivial)⟩, ⟨by (with_reducible repeat (first | apply Kd.R_alloc | apply Kd.R_drewN | apply Kd.R_drew)); exact Kd.R_mono (Kd.R_far (p := ⟨gb394, 1, none⟩) (Kd.R_types HO_395000.out BK394.out (by decide)) (fun _ hk => hk.2) (.slice Ao60 y416.length co60)) (fun _ hk => trivial)⟩, ⟨by (with_reducible repeat (first | apply Kd.R_alloc | apply Kd.R_drewN | apply Kd.R_drew)); exact Kd.R_mono (Kd.R_far (p := ⟨gb394, 1, none⟩) (Kd.R_types HO418.out BK394.out (by decide)) (fun _ hk => hk.2) (.slice Ao60 y416.length co60)) (fun _ hk => trivial)⟩, ⟨by (with_reducible repeat (first | refine blk_drewN ?_ _ | refine blk_drew ?_ | refine blk_alloc ?_ _)); refine blk_far ?_ NB390_394.out _; (with_reducible repeat (first | refine blk_drewN ?_ _ | refine blk_drew ?_ | refine blk_alloc ?_ _)); exact BK390.out⟩, ⟨by (with_reducible repeat (first | refine blk_drewN ?_ _ | refine blk_drew ?_ | refine blk_alloc ?_ _)); refine blk_put (cs := #[u395000, u395001]) ?_ 1 _ rfl; (with_reducible repeat (first | refine blk_drewN ?_ _ | refine blk_drew ?_ | refine blk_alloc ?_ _)); exact BK394.out⟩, ⟨by repeat (first | (with_reducible first | exact HB.out | apply below_alloc | apply pw_below_drewN | apply below_drew1 | refine below_set ?_ GE390.out | refine below_set ?_ GE394.out) | exact HB.out)⟩⟩
           ·rw [if_neg c55] at H
            exact absurd H (by simp)
          ·replace c54 := Bool.eq_false_iff.mpr c54
           subst c54
           have H1 : (if x395001_2.length < 5864062014805 then (impl_ReadFlow.l1 k2 false t408 (t408.length : Int) (wrap64 (x53_2 + 1)) x395000_1 (x395001_2 ++ [(⟨t412, t413, t414⟩ : S43)])) else (none)) = some (r1, r2, r3) := by rw [if_neg (show ¬ (false = true) by decide)] at H; exact H
           clear H
           have H := H1
           clear H1
           by_cases c62 : x395001_2.length < 5864062014805
           ·rw [if_pos c62] at H
            have LMc62 := Aside0.mk c62
            clear c62
            obtain ⟨y419, hy419⟩ : ∃ y_ : List (S43), y_ = (x395001_2 ++ [(⟨t412, t413, t414⟩ : S43)]) := ⟨_, rfl⟩
            replace H : (impl_ReadFlow.l1 k2 false t408 (t408.length : Int) (wrap64 (x53_2 + 1)) x395000_1 y419) = some (r1, r2, r3) := by first | (rw [hy419]; with_reducible exact H) | (have H2_ := (Option.bind_some _ _).symm.trans H; rw [hy419]; with_reducible exact H2_) | (have H2_ := (Option.bind_some _ _).symm.trans H; with_reducible exact H2_) | with_reducible exact H | (rw [hy419]; exact H) | exact H
            have Ny419 := Aside0.mk hy419
            clear hy419
            have H' := Aside0.mk H
            clear H
            have p411 : 0 ≤ (x53_2 : Int) := of_decide_eq_true (by first | (with_reducible assumption) | assumption)
            have q411 : x53_2 < (t408.length : Int) := of_decide_eq_true (by first | (with_reducible assumption) | assumption)
            obtain ⟨ad411, e411, hx411_0⟩ := Kd.at_string (Kd.R_reads' HO_51.out).2.2 x53_2 p411 q411
            cases e411
            replace p411 := eq_true p411
            replace q411 := eq_true q411
            go_wp2_with (first | ((with_reducible refine gate_callee (f := 21) rfl ?_); refine goesL_ (some 59) rfl rfl Tryd.func21 (by kernel_rfl) rfl #[.string (rdOf ByteArray.empty t408 x53_2)] rfl (by (try simp only [List.map_toArray, List.map_cons, List.map_nil]); first | done | rfl | (simp only [List.length_drop, List.length_take]; rfl)) ?_; (with_reducible refine (impl_threeNumbers.calls (rdOf ByteArray.empty t408 x53_2) t412 t413 t414 t415 _ A53.out (HEnvR.out.below (by repeat (first | (with_reducible first | exact HB.out | apply below_alloc | apply pw_below_drewN | apply below_drew1 | refine below_set ?_ GE390.out | refine below_set ?_ GE394.out) | exact HB.out)))).mono ?_); rintro e w63 ⟨rfl, hb⟩; refine ⟨_, rfl, ?_⟩; have n0_ := Aside0.mk (Kd.R_below (by (with_reducible repeat (first | apply Kd.R_alloc | apply Kd.R_drewN | apply Kd.R_drew)); exact HO_51.out) hb); have n1_ := Aside0.mk (Kd.R_below (by (with_reducible repeat (first | apply Kd.R_alloc | apply Kd.R_drewN | apply Kd.R_drew)); exact HO_395000.out) hb); have n2_ := Aside0.mk (Kd.R_below (by (with_reducible repeat (first | apply Kd.R_alloc | apply Kd.R_drewN | apply Kd.R_drew)); exact HO_395001.out) hb); have n3_ := Aside0.mk (blk_below (g := gb390) (o := .cells #[.slice none 0 0, .slice none 0 0] 25 (0, 0)) (by (with_reducible repeat (first | refine blk_drewN ?_ _ | refine blk_drew ?_ | refine blk_alloc ?_ _)); exact BK390.out) hb); have n4_ := Aside0.mk (blk_below (g := gb394) (o := .cells #[u395000, u395001] 25 (0, 0)) (by (with_reducible repeat (first | refine blk_drewN ?_ _ | refine blk_drew ?_ | refine blk_alloc ?_ _)); exact BK394.out) hb); have n5_ := Aside0.mk (below_step (by repeat (first | (with_reducible first | exact HB.out | apply below_alloc | apply pw_below_drewN | apply below_drew1 | refine below_set ?_ GE390.out | refine below_set ?_ GE394.out) | exact HB.out)) hb); clear HO_51; clear HO_395000; clear HO_395001; clear BK390; clear BK394; clear HB; have HO_51 := n0_; have HO_395000 := n1_; have HO_395001 := n2_; have BK390 := n3_; have BK394 := n4_; have HB := n5_; clear n0_ n1_ n2_ n3_ n4_ n5_; (try clear hb); (try clear hb2); (try clear hk); (try clear hi); have hnb64 := NB394_390.out; have hnc64 := NB390_394.out; have hcz65_0 : w63.cell? ⟨gb394, 0, none⟩ = some (u395000) := (blk_cell BK394.out 0).trans rfl; have hcz65_1 : w63.cell? ⟨gb394, 1, none⟩ = some (u395001) := (blk_cell BK394.out 1).trans rfl; have hfz65_0 := blk_frozen BK394.out 0; have hfz65_1 := blk_frozen BK394.out 1) | ((with_reducible refine gate_builtin (b := .append) (xs := #[.tmp 69, .tmp 74]) rfl ?_); at_builtin; refine Kd.R_append k43 (w0 := w) w.heap.size rfl (.tmp 69) (.tmp 74) 23 43 (.agg #[(.int .i64 0), (.int .i64 0), (.int .i64 0)]) 24 rfl Tryd.underlying23 info43 rfl (by decide) (by omega) u395001 x395001_2 (⟨t412, t413, t414⟩ : S43) [.int .i64 t412, .int .i64 t413, .int .i64 t414] (fun _ => True) (fun _ => False) rfl rfl ?aP (fun _ hk => hk.elim) ?aF ?aO ?aB ?aS ?aL ?_; (case aP => exact k43_mkM _ _ _ (⟨t412, t413, t414⟩ : S43)); (case aB => exact (by repeat (first | (with_reducible first | exact HB.out | apply below_alloc | apply pw_below_drewN | apply below_drew1 | refine below_set ?_ GE390.out | refine below_set ?_ GE394.out) | exact HB.out))); (case aF => exact (fun _ _ => trivial)); (case aO => exact (by (with_reducible repeat (first | apply Kd.R_alloc | apply Kd.R_drewN | apply Kd.R_drew)); exact HO_395001.out)); (case aS => exact (below_size (by repeat (first | (with_reducible first | exact HB.out | apply below_alloc | apply pw_below_drewN | apply below_drew1 | refine below_set ?_ GE390.out | refine below_set ?_ GE394.out) | exact HB.out)))); (case aL => have := LMc62.out; omega); intro v420 w66 ho hb hg hat; rw [← Ny419.out] at ho; have n0_ := Aside0.mk (Kd.R_over' (by (with_reducible repeat (first | apply Kd.R_alloc | apply Kd.R_drewN | apply Kd.R_drew)); exact HO_51.out) (Kd.R_typed (by (with_reducible repeat (first | apply Kd.R_alloc | apply Kd.R_drewN | apply Kd.R_drew)); exact HO_395001.out)) (by decide) hg); have n1_ := Aside0.mk (Kd.R_over' (by (with_reducible repeat (first | apply Kd.R_alloc | apply Kd.R_drewN | apply Kd.R_drew)); exact HO_395000.out) (Kd.R_typed (by (with_reducible repeat (first | apply Kd.R_alloc | apply Kd.R_drewN | apply Kd.R_drew)); exact HO_395001.out)) (by decide) hg); have n2_ := Aside0.mk (blk_grown (g := gb390) (o := .cells #[.slice none 0 0, .slice none 0 0] 25 (0, 0)) (by (with_reducible repeat (first | refine blk_drewN ?_ _ | refine blk_drew ?_ | refine blk_alloc ?_ _)); exact BK390.out) hg (Kd.R_ne HO_395001.out BK390.out (by decide))); have n3_ := Aside0.mk (blk_grown (g := gb394) (o := .cells #[u395000, u395001] 25 (0, 0)) (by (with_reducible repeat (first | refine blk_drewN ?_ _ | refine blk_drew ?_ | refine blk_alloc ?_ _)); exact BK394.out) hg (Kd.R_ne HO_395001.out BK394.out (by decide))); have n4_ := Aside0.mk (hb); have n5_ := Aside0.mk (ho); clear HO_51; clear HO_395000; clear BK390; clear BK394; clear HB; clear HO_395001; have HO_51 := n0_; have HO_395000 := n1_; have BK390 := n2_; have BK394 := n3_; have HB := n4_; have HO421 := n5_; clear n0_ n1_ n2_ n3_ n4_ n5_; clear ho hb hg hat; obtain ⟨Ao67, co67, eo67⟩ := Kd.R_slice HO421.out; subst eo67; have hcz68_0 : w66.cell? ⟨gb394, 0, none⟩ = some (u395000) := (blk_cell BK394.out 0).trans rfl; have hcz68_1 : w66.cell? ⟨gb394, 1, none⟩ = some (u395001) := (blk_cell BK394.out 1).trans rfl; have hfz68_0 := blk_frozen BK394.out 0; have hfz68_1 := blk_frozen BK394.out 1))
            go_roundg k2
            case measure => have := HK1.out; have := HK2.out; omega
            case rel => exact ⟨(false), (wrap64 (x53_2 + 1)), (y419), (.slice Ao67 y419.length co67), (by first | rfl | (simp; done) | (simp [*]; done)), (by first | rfl | (simp; done) | (simp [*]; done)), H', ⟨by have := HK1.out; have := HK2.out; omega⟩, ⟨by (with_reducible repeat (first | apply Kd.R_alloc | apply Kd.R_drewN | apply Kd.R_drew)); exact Kd.R_mono (Kd.R_far (p := ⟨gb394, 1, none⟩) (Kd.R_types HO_51.out BK394.out (by decide)) (fun _ hk => hk.2) (.slice Ao67 y419.length co67)) (fun _ hk => trivial)⟩, ⟨by (with_reducible repeat (first | apply Kd.R_alloc | apply Kd.R_drewN | apply Kd.R_drew)); exact Kd.R_mono (Kd.R_far (p := ⟨gb394, 1, none⟩) (Kd.R_types HO_395000.out BK394.out (by decide)) (fun _ hk => hk.2) (.slice Ao67 y419.length co67)) (fun _ hk => trivial)⟩, ⟨by (with_reducible repeat (first | apply Kd.R_alloc | apply Kd.R_drewN | apply Kd.R_drew)); exact Kd.R_mono (Kd.R_far (p := ⟨gb394, 1, none⟩) (Kd.R_types HO421.out BK394.out (by decide)) (fun _ hk => hk.2) (.slice Ao67 y419.length co67)) (fun _ hk => trivial)⟩, ⟨by (with_reducible repeat (first | refine blk_drewN ?_ _ | refine blk_drew ?_ | refine blk_alloc ?_ _)); refine blk_far ?_ NB390_394.out _; (with_reducible repeat (first | refine blk_drewN ?_ _ | refine blk_drew ?_ | refine blk_alloc ?_ _)); exact BK390.out⟩, ⟨by (with_reducible repeat (first | refine blk_drewN ?_ _ | refine blk_drew ?_ | refine blk_alloc ?_ _)); refine blk_put (cs := #[u395000, u395001]) ?_ 1 _ rfl; (with_reducible repeat (first | refine blk_drewN ?_ _ | refine blk_drew ?_ | refine blk_alloc ?_ _)); exact BK394.out⟩, ⟨by repeat (first | (with_reducible first | exact HB.out | apply below_alloc | apply pw_below_drewN | apply below_drew1 | refine below_set ?_ GE390.out | refine below_set ?_ GE394.out) | exact HB.out)⟩⟩
           ·rw [if_neg c62] at H
            exact absurd H (by simp)
         ·rw [if_neg c52] at H
          exact absurd H (by simp)
        ·rw [if_neg c51] at H
         exact absurd H (by simp)
       ·rw [if_neg c50] at H
        have c50b0 : decide (x53_2 < (t408.length : Int)) = false := decide_eq_false c50
        clear c50
        by_cases c69 : x6_2 = true
        ·subst c69
         have H1 : ((impl_ValidFlow.f k2 x395000_1 x395001_2).bind fun t422 => (if t422 = true then (some (x395000_1, x395001_2, true)) else (some (([] : List Int), ([] : List (S43)), false)))) = some (r1, r2, r3) := by rw [if_pos rfl] at H; exact H
         clear H
         have H := H1
         clear H1
         replace H := Option.bind_eq_some_iff.mp H
         obtain ⟨t422, A700, H⟩ := H
         replace H : (if t422 = true then (some (x395000_1, x395001_2, true)) else (some (([] : List Int), ([] : List (S43)), false))) = some (r1, r2, r3) := H
         have A70 := Aside0.mk A700
         clear A700
         by_cases c71 : t422 = true
         ·subst c71
          have H1 : (some (x395000_1, x395001_2, true)) = some (r1, r2, r3) := by rw [if_pos rfl] at H; exact H
          clear H
          have H := H1
          clear H1
          simp only [Option.some.injEq, Prod.mk.injEq] at H
          obtain ⟨rfl, rfl, rfl⟩ := H
          have hnb72 := NB394_390.out
          have hnc72 := NB390_394.out
          have hcz73_0 : wr.cell? ⟨gb394, 0, none⟩ = some (u395000) := (blk_cell BK394.out 0).trans rfl
          have hcz73_1 : wr.cell? ⟨gb394, 1, none⟩ = some (u395001) := (blk_cell BK394.out 1).trans rfl
          have hfz73_0 := blk_frozen BK394.out 0
          have hfz73_1 := blk_frozen BK394.out 1
          obtain ⟨Ao74, co74, eo74⟩ := Kd.R_slice HO_395000.out
          subst eo74
          obtain ⟨Ao75, co75, eo75⟩ := Kd.R_slice HO_395001.out
          subst eo75
          go_wp2_with (first | (go_at_call 22; (with_reducible refine (impl_ValidFlow.calls k2 _ _ x395000_1 _ _ x395001_2 true _ ?side1 ?side2 ?side3 ?side4 A70.out).mono ?_); (case side1 => repeat (first | exact (Kd.R_reads' HO_395000.out).2.2 | (with_reducible refine Kd.C_alloc ?_ _) | (with_reducible refine Kd.C_drewN ?_ _) | (with_reducible refine Kd.C_drew ?_))); (case side2 => first | exact trivial | (exact (Kd.R_reads' HO_395000.out).2.1)); (case side3 => repeat (first | exact (Kd.R_reads' HO_395001.out).2.2 | (with_reducible refine Kd.C_alloc ?_ _) | (with_reducible refine Kd.C_drewN ?_ _) | (with_reducible refine Kd.C_drew ?_))); (case side4 => first | exact trivial | (exact (Kd.R_reads' HO_395001.out).2.1)); rintro e w76 ⟨rfl, hb⟩; have n0_ := Aside0.mk (Kd.R_below (by (with_reducible repeat (first | apply Kd.R_alloc | apply Kd.R_drewN | apply Kd.R_drew)); exact HO_51.out) hb); have n1_ := Aside0.mk (Kd.R_below (by (with_reducible repeat (first | apply Kd.R_alloc | apply Kd.R_drewN | apply Kd.R_drew)); exact HO_395000.out) hb); have n2_ := Aside0.mk (Kd.R_below (by (with_reducible repeat (first | apply Kd.R_alloc | apply Kd.R_drewN | apply Kd.R_drew)); exact HO_395001.out) hb); have n3_ := Aside0.mk (blk_below (g := gb390) (o := .cells #[.slice none 0 0, .slice none 0 0] 25 (0, 0)) (by (with_reducible repeat (first | refine blk_drewN ?_ _ | refine blk_drew ?_ | refine blk_alloc ?_ _)); exact BK390.out) hb); have n4_ := Aside0.mk (blk_below (g := gb394) (o := .cells #[.slice Ao74 x395000_1.length co74, .slice Ao75 x395001_2.length co75] 25 (0, 0)) (by (with_reducible repeat (first | refine blk_drewN ?_ _ | refine blk_drew ?_ | refine blk_alloc ?_ _)); exact BK394.out) hb); have n5_ := Aside0.mk (below_step (by repeat (first | (with_reducible first | exact HB.out | apply below_alloc | apply pw_below_drewN | apply below_drew1 | refine below_set ?_ GE390.out | refine below_set ?_ GE394.out) | exact HB.out)) hb); clear HO_51; clear HO_395000; clear HO_395001; clear BK390; clear BK394; clear HB; have HO_51 := n0_; have HO_395000 := n1_; have HO_395001 := n2_; have BK390 := n3_; have BK394 := n4_; have HB := n5_; clear n0_ n1_ n2_ n3_ n4_ n5_; (try clear hb); (try clear hb2); (try clear hk); (try clear hi); have hcz77_0 : w76.cell? ⟨gb394, 0, none⟩ = some (.slice Ao74 x395000_1.length co74) := (blk_cell BK394.out 0).trans rfl; have hcz77_1 : w76.cell? ⟨gb394, 1, none⟩ = some (.slice Ao75 x395001_2.length co75) := (blk_cell BK394.out 1).trans rfl; have hfz77_0 := blk_frozen BK394.out 0; have hfz77_1 := blk_frozen BK394.out 1; have hcz78_0 : w76.cell? ⟨gb390, 0, none⟩ = some (.slice none 0 0) := (blk_cell BK390.out 0).trans rfl; have hcz78_1 : w76.cell? ⟨gb390, 1, none⟩ = some (.slice none 0 0) := (blk_cell BK390.out 1).trans rfl; have hfz78_0 := blk_frozen BK390.out 0; have hfz78_1 := blk_frozen BK390.out 1))
          refine bodyPost_ret (results_ct rfl _ _ gb390 25 #[.slice Ao74 x395000_1.length co74, .slice Ao75 x395001_2.length co75] (0, 0) _ rfl (by (with_reducible repeat (first | refine blk_drewN ?_ _ | refine blk_drew ?_ | refine blk_alloc ?_ _)); refine blk_put (cs := #[.slice Ao74 x395000_1.length co74, .slice none 0 0]) ?_ 1 _ rfl; (with_reducible repeat (first | refine blk_drewN ?_ _ | refine blk_drew ?_ | refine blk_alloc ?_ _)); refine blk_put (cs := #[.slice none 0 0, .slice none 0 0]) ?_ 0 _ rfl; (with_reducible repeat (first | refine blk_drewN ?_ _ | refine blk_drew ?_ | refine blk_alloc ?_ _)); exact BK390.out) Tryd.underlying25 rfl (by kernel_rfl)) rfl ?_
          exact ⟨_, _, by first | rfl | (simp [errW_none, errW_some] <;> rfl) | (simp [*, errW_none, errW_some] <;> rfl), by (with_reducible repeat (first | apply Kd.R_alloc | apply Kd.R_drewN | apply Kd.R_drew)); exact Kd.R_mono (Kd.R_far (p := ⟨gb390, 1, none⟩) (Kd.R_far (p := ⟨gb390, 0, none⟩) (Kd.R_types HO_395000.out BK390.out (by decide)) (fun _ hk => hk.2) (.slice Ao74 x395000_1.length co74)) (fun _ hk => hk.2) (.slice Ao75 x395001_2.length co75)) (fun _ hk => trivial), by (with_reducible repeat (first | apply Kd.R_alloc | apply Kd.R_drewN | apply Kd.R_drew)); exact Kd.R_mono (Kd.R_far (p := ⟨gb390, 1, none⟩) (Kd.R_far (p := ⟨gb390, 0, none⟩) (Kd.R_types HO_395001.out BK390.out (by decide)) (fun _ hk => hk.2) (.slice Ao74 x395000_1.length co74)) (fun _ hk => hk.2) (.slice Ao75 x395001_2.length co75)) (fun _ hk => trivial), by repeat (first | (with_reducible first | exact HB.out | apply below_alloc | apply pw_below_drewN | apply below_drew1 | refine below_set ?_ GE390.out | refine below_set ?_ GE394.out) | exact HB.out)⟩
         ·replace c71 := Bool.eq_false_iff.mpr c71
          subst c71
          have H1 : (some (([] : List Int), ([] : List (S43)), false)) = some (r1, r2, r3) := by rw [if_neg (show ¬ (false = true) by decide)] at H; exact H
          clear H
          have H := H1
          clear H1
          simp only [Option.some.injEq, Prod.mk.injEq] at H
          obtain ⟨rfl, rfl, rfl⟩ := H
          have hnb79 := NB394_390.out
          have hnc79 := NB390_394.out
          have hcz80_0 : wr.cell? ⟨gb394, 0, none⟩ = some (u395000) := (blk_cell BK394.out 0).trans rfl
          have hcz80_1 : wr.cell? ⟨gb394, 1, none⟩ = some (u395001) := (blk_cell BK394.out 1).trans rfl
          have hfz80_0 := blk_frozen BK394.out 0
          have hfz80_1 := blk_frozen BK394.out 1
          obtain ⟨Ao81, co81, eo81⟩ := Kd.R_slice HO_395000.out
          subst eo81
          obtain ⟨Ao82, co82, eo82⟩ := Kd.R_slice HO_395001.out
          subst eo82
          go_wp2_with (first | (go_at_call 22; (with_reducible refine (impl_ValidFlow.calls k2 _ _ x395000_1 _ _ x395001_2 false _ ?side1 ?side2 ?side3 ?side4 A70.out).mono ?_); (case side1 => repeat (first | exact (Kd.R_reads' HO_395000.out).2.2 | (with_reducible refine Kd.C_alloc ?_ _) | (with_reducible refine Kd.C_drewN ?_ _) | (with_reducible refine Kd.C_drew ?_))); (case side2 => first | exact trivial | (exact (Kd.R_reads' HO_395000.out).2.1)); (case side3 => repeat (first | exact (Kd.R_reads' HO_395001.out).2.2 | (with_reducible refine Kd.C_alloc ?_ _) | (with_reducible refine Kd.C_drewN ?_ _) | (with_reducible refine Kd.C_drew ?_))); (case side4 => first | exact trivial | (exact (Kd.R_reads' HO_395001.out).2.1)); rintro e w83 ⟨rfl, hb⟩; have n0_ := Aside0.mk (Kd.R_below (by (with_reducible repeat (first | apply Kd.R_alloc | apply Kd.R_drewN | apply Kd.R_drew)); exact HO_51.out) hb); have n1_ := Aside0.mk (Kd.R_below (by (with_reducible repeat (first | apply Kd.R_alloc | apply Kd.R_drewN | apply Kd.R_drew)); exact HO_395000.out) hb); have n2_ := Aside0.mk (Kd.R_below (by (with_reducible repeat (first | apply Kd.R_alloc | apply Kd.R_drewN | apply Kd.R_drew)); exact HO_395001.out) hb); have n3_ := Aside0.mk (blk_below (g := gb390) (o := .cells #[.slice none 0 0, .slice none 0 0] 25 (0, 0)) (by (with_reducible repeat (first | refine blk_drewN ?_ _ | refine blk_drew ?_ | refine blk_alloc ?_ _)); exact BK390.out) hb); have n4_ := Aside0.mk (blk_below (g := gb394) (o := .cells #[.slice Ao81 x395000_1.length co81, .slice Ao82 x395001_2.length co82] 25 (0, 0)) (by (with_reducible repeat (first | refine blk_drewN ?_ _ | refine blk_drew ?_ | refine blk_alloc ?_ _)); exact BK394.out) hb); have n5_ := Aside0.mk (below_step (by repeat (first | (with_reducible first | exact HB.out | apply below_alloc | apply pw_below_drewN | apply below_drew1 | refine below_set ?_ GE390.out | refine below_set ?_ GE394.out) | exact HB.out)) hb); clear HO_51; clear HO_395000; clear HO_395001; clear BK390; clear BK394; clear HB; have HO_51 := n0_; have HO_395000 := n1_; have HO_395001 := n2_; have BK390 := n3_; have BK394 := n4_; have HB := n5_; clear n0_ n1_ n2_ n3_ n4_ n5_; (try clear hb); (try clear hb2); (try clear hk); (try clear hi); have hcz84_0 : w83.cell? ⟨gb390, 0, none⟩ = some (.slice none 0 0) := (blk_cell BK390.out 0).trans rfl; have hcz84_1 : w83.cell? ⟨gb390, 1, none⟩ = some (.slice none 0 0) := (blk_cell BK390.out 1).trans rfl; have hfz84_0 := blk_frozen BK390.out 0; have hfz84_1 := blk_frozen BK390.out 1))
          refine bodyPost_ret (results_ct rfl _ _ gb390 25 #[.slice none 0 0, .slice none 0 0] (0, 0) _ rfl (by (with_reducible repeat (first | refine blk_drewN ?_ _ | refine blk_drew ?_ | refine blk_alloc ?_ _)); refine blk_put (cs := #[.slice none 0 0, .slice none 0 0]) ?_ 1 _ rfl; (with_reducible repeat (first | refine blk_drewN ?_ _ | refine blk_drew ?_ | refine blk_alloc ?_ _)); refine blk_put (cs := #[.slice none 0 0, .slice none 0 0]) ?_ 0 _ rfl; (with_reducible repeat (first | refine blk_drewN ?_ _ | refine blk_drew ?_ | refine blk_alloc ?_ _)); exact BK390.out) Tryd.underlying25 rfl (by kernel_rfl)) rfl ?_
          exact ⟨_, _, by first | rfl | (simp [errW_none, errW_some] <;> rfl) | (simp [*, errW_none, errW_some] <;> rfl), by first | exact Kd.R_nil _ _ _ _ _ | exact Kd.N_nil _ _ _ _ _ | exact Kd.V_nil _ _ _ _ _ | exact Kd.Q_nil _ _ _ _ _ | exact Kd.S_nil _ _ _ _ _, by first | exact Kd.R_nil _ _ _ _ _ | exact Kd.N_nil _ _ _ _ _ | exact Kd.V_nil _ _ _ _ _ | exact Kd.Q_nil _ _ _ _ _ | exact Kd.S_nil _ _ _ _ _, by repeat (first | (with_reducible first | exact HB.out | apply below_alloc | apply pw_below_drewN | apply below_drew1 | refine below_set ?_ GE390.out | refine below_set ?_ GE394.out) | exact HB.out)⟩
        ·replace c69 := Bool.eq_false_iff.mpr c69
         subst c69
         have H1 : (some (([] : List Int), ([] : List (S43)), false)) = some (r1, r2, r3) := by rw [if_neg (show ¬ (false = true) by decide)] at H; exact H
         clear H
         have H := H1
         clear H1
         simp only [Option.some.injEq, Prod.mk.injEq] at H
         obtain ⟨rfl, rfl, rfl⟩ := H
         have hnb85 := NB390_394.out
         have hnc85 := NB394_390.out
         have hcz86_0 : wr.cell? ⟨gb390, 0, none⟩ = some (.slice none 0 0) := (blk_cell BK390.out 0).trans rfl
         have hcz86_1 : wr.cell? ⟨gb390, 1, none⟩ = some (.slice none 0 0) := (blk_cell BK390.out 1).trans rfl
         have hfz86_0 := blk_frozen BK390.out 0
         have hfz86_1 := blk_frozen BK390.out 1
         go_wp2
         refine bodyPost_ret (results_ct rfl _ _ gb390 25 #[.slice none 0 0, .slice none 0 0] (0, 0) _ rfl (by (with_reducible repeat (first | refine blk_drewN ?_ _ | refine blk_drew ?_ | refine blk_alloc ?_ _)); refine blk_put (cs := #[.slice none 0 0, .slice none 0 0]) ?_ 1 _ rfl; (with_reducible repeat (first | refine blk_drewN ?_ _ | refine blk_drew ?_ | refine blk_alloc ?_ _)); refine blk_put (cs := #[.slice none 0 0, .slice none 0 0]) ?_ 0 _ rfl; (with_reducible repeat (first | refine blk_drewN ?_ _ | refine blk_drew ?_ | refine blk_alloc ?_ _)); exact BK390.out) Tryd.underlying25 rfl (by kernel_rfl)) rfl ?_
         exact ⟨_, _, by first | rfl | (simp [errW_none, errW_some] <;> rfl) | (simp [*, errW_none, errW_some] <;> rfl), by first | exact Kd.R_nil _ _ _ _ _ | exact Kd.N_nil _ _ _ _ _ | exact Kd.V_nil _ _ _ _ _ | exact Kd.Q_nil _ _ _ _ _ | exact Kd.S_nil _ _ _ _ _, by first | exact Kd.R_nil _ _ _ _ _ | exact Kd.N_nil _ _ _ _ _ | exact Kd.V_nil _ _ _ _ _ | exact Kd.Q_nil _ _ _ _ _ | exact Kd.S_nil _ _ _ _ _, by repeat (first | (with_reducible first | exact HB.out | apply below_alloc | apply pw_below_drewN | apply below_drew1 | refine below_set ?_ GE390.out | refine below_set ?_ GE394.out) | exact HB.out)⟩
end Go.Proofs.YtalkmhnlgfncmaaDoor.X
end
section
namespace Go.Proofs.YtalkmhnlgfncmaaDoor.X
open Go.RowKit Go.Proofs.YtalkmhnlgfncmaaDoorW.PrintWords Go.Proofs.YtalkmhnlgfncmaaDoorW.PrintLast Go.Proofs.YtalkmhnlgfncmaaDoorW.PrintMore
set_option linter.unusedVariables false
set_option linter.unusedSimpArgs false
noncomputable def tw (x : ByteArray) : S43 := ⟨(rdT x).1, (rdT x).2.1, (rdT x).2.2.1⟩
noncomputable def tok (x : ByteArray) : Bool := (rdT x).2.2.2
noncomputable def dn (x : ByteArray) : Int := (rdW x).1
noncomputable def dok (x : ByteArray) : Bool := (rdW x).2
noncomputable def ifin (l : List Int) (ws : List S43) (ok : Bool) : Out := if ok = true ∧ validB l ws = true then (l, ws, true) else bad
theorem ifin_eq (l : List Int) (ws : List S43) (ok : Bool) (k : Nat) (hk : 2000 < k) :
    (if ok = true then ((impl_ValidFlow.f k l ws).bind fun t422 => (if t422 = true then (some (l, ws, true)) else (some (([] : List Int), ([] : List (S43)), false)))) else (some (([] : List Int), ([] : List (S43)), false))) = some (ifin l ws ok) := by
  unfold ifin
  cases ok with
  | false => simp [bad]
  | true =>
    rw [if_pos rfl, impl_valid k l ws hk, Option.bind_some]
    cases validB l ws <;> simp [bad]
theorem iwires_loop (l : List Int) (xs : List ByteArray) (hx : xs.length ≤ 2000000) (hy : ∀ y, y ∈ xs → y.size ≤ 2000000) :
    ∀ (d i k : Nat) (ok : Bool) (ws : List S43), i + d = xs.length → ws.length = i → d + 3000 ≤ k →
    impl_ReadFlow.l1 k ok xs (xs.length : Int) (i : Int) l ws = some (ifin l (ws ++ (xs.drop i).map tw) (ok && (xs.drop i).all tok))
  | 0, i, k, ok, ws, hi, hw, hk => by
    obtain ⟨k, rfl⟩ : ∃ p, k = p + 1 := ⟨k - 1, by omega⟩
    rw [impl_ReadFlow.l1, if_neg (by omega), ifin_eq l ws ok k (by omega), List.drop_of_length_le (by omega)]
    simp
  | d + 1, i, k, ok, ws, hi, hw, hk => by
    obtain ⟨k, rfl⟩ : ∃ p, k = p + 1 := ⟨k - 1, by omega⟩
    have hlt : i < xs.length := by omega
    have hsz := hy _ (List.getElem_mem hlt)
    have ih : ∀ b, impl_ReadFlow.l1 k b xs (xs.length : Int) ((i : Int) + 1) l (ws ++ [tw xs[i]]) = some (ifin l (ws ++ [tw xs[i]] ++ (xs.drop (i + 1)).map tw) (b && (xs.drop (i + 1)).all tok)) := fun b => by
      have := iwires_loop l xs hx hy d (i + 1) k b (ws ++ [tw xs[i]]) (by omega) (by rw [List.length_append, List.length_singleton]; omega) (by omega)
      rw [Int.natCast_add, Int.natCast_one] at this
      exact this
    have e : xs.drop i = xs[i] :: xs.drop (i + 1) := List.drop_eq_getElem_cons hlt
    rw [impl_ReadFlow.l1, if_pos (by omega), if_pos (by omega), if_pos (by omega), rd_of xs i hlt, rdT_eq _ hsz, Option.bind_some, w64 (by omega) (by omega), e, List.map_cons, List.all_cons]
    cases ok with
    | true =>
      rw [if_pos rfl, if_pos (by omega)]
      refine (ih _).trans ?_
      rw [Bool.true_and, List.append_assoc]; rfl
    | false =>
      rw [if_neg (by decide), if_pos (by omega)]
      refine (ih _).trans ?_
      rw [Bool.false_and, Bool.false_and, List.append_assoc]; rfl
noncomputable def wofI (p : ByteArray) : List S43 := open Classical in if p.data.toList = [] then [] else (sps 44 p).map tw
noncomputable def okI (p : ByteArray) : Bool := open Classical in if p.data.toList = [] then true else (sps 44 p).all tok
theorem idelays_loop (p : ByteArray) (hp : p.size ≤ 1500000) (xs : List ByteArray) (hx : xs.length ≤ 2000000) (hy : ∀ y, y ∈ xs → y.size ≤ 2000000) :
    ∀ (d i k : Nat) (ok : Bool) (l : List Int), i + d = xs.length → l.length = i → d + 3000000 ≤ k →
    impl_ReadFlow.l0 k p ok xs (xs.length : Int) (i : Int) l = some (ifin (l ++ (xs.drop i).map dn) (wofI p) ((ok && (xs.drop i).all dok) && okI p))
  | 0, i, k, ok, l, hi, hw, hk => by
    obtain ⟨k, rfl⟩ : ∃ p, k = p + 1 := ⟨k - 1, by omega⟩
    rw [impl_ReadFlow.l0, if_neg (by omega), List.drop_of_length_le (by omega), List.map_nil, List.append_nil, List.all_nil, Bool.and_true, ByteArray.toList_eq]
    unfold wofI okI
    by_cases h : p.data.toList = []
    · rw [if_pos h, if_pos h, if_pos h, ifin_eq l [] ok k (by omega), Bool.and_true]
    · rw [if_neg h, if_neg h, if_neg h, split_eq p 44 (by omega), Option.bind_some]
      have hc := sps_count 44 p
      have := iwires_loop l (sps 44 p) (by omega) (fun y hm => by have := sps_le 44 p y hm; omega) (sps 44 p).length 0 k ok [] (by omega) rfl (by omega)
      rw [List.drop_zero, List.nil_append] at this
      exact this
  | d + 1, i, k, ok, l, hi, hw, hk => by
    obtain ⟨k, rfl⟩ : ∃ p, k = p + 1 := ⟨k - 1, by omega⟩
    have hlt : i < xs.length := by omega
    have hsz := hy _ (List.getElem_mem hlt)
    have ih : ∀ b, impl_ReadFlow.l0 k p b xs (xs.length : Int) ((i : Int) + 1) (l ++ [dn xs[i]]) = some (ifin (l ++ [dn xs[i]] ++ (xs.drop (i + 1)).map dn) (wofI p) ((b && (xs.drop (i + 1)).all dok) && okI p)) := fun b => by
      have := idelays_loop p hp xs hx hy d (i + 1) k b (l ++ [dn xs[i]]) (by omega) (by rw [List.length_append, List.length_singleton]; omega) (by omega)
      rw [Int.natCast_add, Int.natCast_one] at this
      exact this
    have e : xs.drop i = xs[i] :: xs.drop (i + 1) := List.drop_eq_getElem_cons hlt
    rw [impl_ReadFlow.l0, if_pos (by omega), if_pos (by omega), if_pos (by omega), rd_of xs i hlt, rdW_eq _ hsz, Option.bind_some, w64 (by omega) (by omega), e, List.map_cons, List.all_cons]
    cases ok with
    | true =>
      rw [if_pos rfl, if_pos (by omega)]
      refine (ih _).trans ?_
      rw [Bool.true_and, List.append_assoc]; rfl
    | false =>
      rw [if_neg (by decide), if_pos (by omega)]
      refine (ih _).trans ?_
      rw [Bool.false_and, Bool.false_and, Bool.false_and, List.append_assoc]; rfl
noncomputable def implOut (s : ByteArray) : Out := ifin ((sps 44 (cutAt s 47).1).map dn) (wofI (cutAt s 47).2.1) (((cutAt s 47).2.2 && (sps 44 (cutAt s 47).1).all dok) && okI (cutAt s 47).2.1)
theorem cutAt_le (s : ByteArray) (c : UInt8) : (cutAt s c).1.size ≤ s.size ∧ (cutAt s c).2.1.size ≤ s.size := by
  unfold cutAt
  split
  · exact ⟨Nat.le_refl _, Nat.zero_le _⟩
  · constructor
    · show (s.extract _ _).size ≤ _
      rw [ByteArray.size_extract]; omega
    · show (s.extract _ _).size ≤ _
      rw [ByteArray.size_extract]; omega
theorem impl_read (s : ByteArray) (hs : s.size ≤ 1048576) (k : Nat) (hk : 5000000 ≤ k) : impl_ReadFlow.f k s = some (implOut s) := by
  unfold impl_ReadFlow.f
  obtain ⟨z0, z1⟩ := cutAt_le s 47
  rw [cut_eq s 47 (by omega), Option.bind_some, split_eq _ 44 (by omega), Option.bind_some]
  have hc := sps_count 44 (cutAt s 47).1
  have := idelays_loop (cutAt s 47).2.1 (by omega) (sps 44 (cutAt s 47).1) (by omega) (fun y hm => by have := sps_le 44 _ y hm; omega) (sps 44 (cutAt s 47).1).length 0 k (cutAt s 47).2.2 [] (by omega) rfl (by omega)
  rw [List.drop_zero, List.nil_append] at this
  exact this
theorem Jn_sps (p : ByteArray) : Jn (sps 44 p) = p.data.toList := by
  unfold Jn sps
  rw [List.map_map, show ((fun x : ByteArray => x.data.toList) ∘ Tx) = id from funext Tx_list, List.map_id, join_sp]
theorem map_same {α β : Type} (f : α → β) (g : β → α) (q : α → Bool) (h : ∀ x, q x = true → g (f x) = x) (l : List α) (hl : l.all q = true) : (l.map f).map g = l := by
  rw [List.map_map]
  have : ∀ x, x ∈ l → (g ∘ f) x = x := fun x hx => h x (List.all_eq_true.mp hl x hx)
  rw [List.map_congr_left this]; simp
theorem impl_sound (s : ByteArray) (h : (implOut s).2.2 = true) : validB (implOut s).1 (implOut s).2.1 = true ∧ flowTx (implOut s).1 (implOut s).2.1 = s := by
  unfold implOut at h ⊢
  unfold ifin at h ⊢
  split at h
  case isFalse => cases h
  case isTrue hc =>
  rw [if_pos hc]
  refine ⟨hc.2, ?_⟩
  obtain ⟨hk, _⟩ := hc
  rw [Bool.and_eq_true, Bool.and_eq_true] at hk
  obtain ⟨⟨hf, hd⟩, hw⟩ := hk
  show flowTx ((sps 44 (cutAt s 47).1).map dn) (wofI (cutAt s 47).2.1) = s
  unfold flowTx
  rw [map_same dn dtx dok rdW_sound _ hd, Jn_sps]
  have ew : Jn ((wofI (cutAt s 47).2.1).map wtx) = (cutAt s 47).2.1.data.toList := by
    unfold wofI
    unfold okI at hw
    by_cases h0 : (cutAt s 47).2.1.data.toList = []
    · rw [if_pos h0, h0]; rfl
    · rw [if_neg h0] at hw ⊢
      rw [map_same tw wtx tok rdT_sound _ hw, Jn_sps]
  rw [ew]
  unfold cutAt at hf ⊢
  split at hf
  case isTrue => cases hf
  case isFalse hn =>
  rcases index_is s.data.toList 47 with h1 | ⟨j, h1, h2⟩
  · exact absurd h1 hn
  · obtain ⟨a1, a2, a3⟩ := index_split _ 47 j h1
    rw [if_neg hn, h1, Int.toNat_natCast]
    show Tx ((s.extract 0 j).data.toList ++ [47] ++ (s.extract (j + 1) s.size).data.toList) = s
    rw [ex_list, extract_list, List.drop_zero, Nat.sub_zero, List.append_assoc, List.singleton_append, ← a3, Tx_back]
theorem mem_join (c b : UInt8) : ∀ (xs : List (List UInt8)), b ∈ Lib.join xs [c] → b = c ∨ ∃ x, x ∈ xs ∧ b ∈ x
  | [], h => by rw [Lib.join_nil] at h; cases h
  | [x], h => by rw [Lib.join_one] at h; exact .inr ⟨x, List.mem_singleton_self _, h⟩
  | x :: y :: r, h => by
    rw [join_two] at h
    rcases List.mem_append.mp h with h | h
    · exact .inr ⟨x, List.mem_cons_self, h⟩
    · rcases List.mem_cons.mp h with h | h
      · exact .inl h
      · rcases mem_join c b (y :: r) h with h | ⟨z, hz, hb⟩
        · exact .inl h
        · exact .inr ⟨z, List.mem_cons_of_mem _ hz, hb⟩
theorem sps_Jn (xs : List ByteArray) (h : xs ≠ []) (hc : ∀ x, x ∈ xs → (44 : UInt8) ∉ x.data.toList) : sps 44 (Tx (Jn xs)) = xs := by
  unfold sps Jn
  rw [Tx_list]
  cases xs with
  | nil => exact absurd rfl h
  | cons x r =>
    rw [List.map_cons, sp_join 44 _ _ (by
      intro y hy
      rw [← List.map_cons (f := fun q : ByteArray => q.data.toList)] at hy
      obtain ⟨z, hz, rfl⟩ := List.mem_map.mp hy
      exact hc z hz), ← List.map_cons (f := fun q : ByteArray => q.data.toList), List.map_map]
    rw [show (Tx ∘ (fun q : ByteArray => q.data.toList)) = id from funext Tx_back, List.map_id]
theorem wtx_char (w : S43) (h : W100 w) (b : UInt8) (hb : b ∈ (wtx w).data.toList) : b = 46 ∨ (48 ≤ b.toNat ∧ b.toNat ≤ 57) := by
  rw [wtx_list] at hb
  rcases mem_join 46 b _ hb with h1 | ⟨x, hx, h1⟩
  · exact .inl h1
  · right
    rcases List.mem_cons.mp hx with rfl | hx
    · exact itoa_char _ h.1 b h1
    rcases List.mem_cons.mp hx with rfl | hx
    · exact itoa_char _ h.2.1 b h1
    rw [List.mem_singleton] at hx
    rw [hx] at h1; exact itoa_char _ h.2.2 b h1
theorem wtx_not (w : S43) (h : W100 w) (c : UInt8) (hc : c.toNat < 46 ∨ c.toNat = 47) : c ∉ (wtx w).data.toList := fun hb => by
  rcases wtx_char w h c hb with e | e
  · rw [e] at hc
    rcases hc with hc | hc
    · exact absurd hc (by decide)
    · exact absurd hc (by decide)
  · omega
theorem wtx_ne (w : S43) : (wtx w).data.toList ≠ [] := by
  rw [wtx_list, join_two]; simp
structure Parts (l : List Int) (ws : List S43) : Prop where
  sized : (flowTx l ws).size ≤ 400
  list : (flowTx l ws).data.toList = Jn (l.map dtx) ++ 47 :: Jn (ws.map wtx)
  dno : (47 : UInt8) ∉ Jn (l.map dtx)
  wno : (47 : UInt8) ∉ Jn (ws.map wtx)
  dsp : sps 44 (Tx (Jn (l.map dtx))) = l.map dtx
  wsp : ws ≠ [] → sps 44 (Tx (Jn (ws.map wtx))) = ws.map wtx
  wem : ws ≠ [] → Jn (ws.map wtx) ≠ []
  din : ∀ d, d ∈ l → In100 d
  win : ∀ w, w ∈ ws → W100 w
theorem parts (l : List Int) (ws : List S43) (hv : validB l ws = true) : Parts l ws := by
  have hf : formB l ws = true := by
    unfold validB at hv
    exact (Bool.and_eq_true_iff.mp hv).1
  obtain ⟨⟨h1, h2⟩, h3, h4, h5⟩ := form_ok hf
  have hw : ∀ w, w ∈ ws → W100 w := fun w hw => by
    obtain ⟨a, b, c, d, e, f⟩ := h5 w hw
    exact ⟨⟨a, by omega⟩, ⟨c, by omega⟩, ⟨e, by omega⟩⟩
  have hl : (flowTx l ws).data.toList = Jn (l.map dtx) ++ 47 :: Jn (ws.map wtx) := by unfold flowTx; rw [Tx_list]; simp
  have b1 := Jn_all 3 (l.map dtx) (fun y hy => by
    obtain ⟨w, hw, rfl⟩ := List.mem_map.mp hy
    exact dtx_size w (h4 w hw).1 (h4 w hw).2)
  have b2 := Jn_all 11 (ws.map wtx) (fun y hy => by
    obtain ⟨w, hm, rfl⟩ := List.mem_map.mp hy
    obtain ⟨z0, z1, z2⟩ := hw w hm
    exact wtx_size w z0 z1 z2)
  rw [List.length_map] at b1 b2
  have b3 : (3 + 1) * l.length ≤ 4 * 8 := Nat.mul_le_mul (by omega) (by omega)
  have b4 : (11 + 1) * ws.length ≤ 12 * 16 := Nat.mul_le_mul (by omega) (by omega)
  refine ⟨?_, hl, ?_, ?_, ?_, ?_, ?_, h4, hw⟩
  · rw [← list_size, hl, List.length_append, List.length_cons]; omega
  · intro hm
    unfold Jn at hm
    rcases mem_join 44 47 _ hm with e | ⟨x, hx, hb⟩
    · exact absurd e (by decide)
    · rw [List.map_map] at hx
      obtain ⟨d, hd, rfl⟩ := List.mem_map.mp hx
      have hb2 : (47 : UInt8) ∈ (dtx d).data.toList := hb
      rw [dtx_list] at hb2
      exact itoa_not d (h4 d hd) 47 (by decide) hb2
  · intro hm
    unfold Jn at hm
    rcases mem_join 44 47 _ hm with e | ⟨x, hx, hb⟩
    · exact absurd e (by decide)
    · rw [List.map_map] at hx
      obtain ⟨d, hd, rfl⟩ := List.mem_map.mp hx
      exact wtx_not d (hw d hd) 47 (by decide) hb
  · apply sps_Jn
    · intro e
      have := congrArg List.length e
      rw [List.length_map, List.length_nil] at this; omega
    · intro x hx
      obtain ⟨d, hd, rfl⟩ := List.mem_map.mp hx
      rw [dtx_list]
      exact itoa_not d (h4 d hd) 44 (by decide)
  · intro hne
    apply sps_Jn
    · intro e; exact hne (List.map_eq_nil_iff.mp e)
    · intro x hx
      obtain ⟨d, hd, rfl⟩ := List.mem_map.mp hx
      exact wtx_not d (hw d hd) 44 (by decide)
  · intro hne
    cases ws with
    | nil => exact absurd rfl hne
    | cons w r =>
      unfold Jn
      rw [List.map_cons, List.map_cons, Lib.join_cons]
      intro e
      exact wtx_ne w (List.append_eq_nil_iff.mp e).1
theorem map_id_of {α β : Type} (f : α → β) (g : β → α) (l : List α) (h : ∀ x, x ∈ l → g (f x) = x) : (l.map f).map g = l := by
  rw [List.map_map]
  have : ∀ x, x ∈ l → (g ∘ f) x = x := fun x hx => h x hx
  rw [List.map_congr_left this]; simp
theorem all_of {α β : Type} (f : α → β) (q : β → Bool) (l : List α) (h : ∀ x, x ∈ l → q (f x) = true) : (l.map f).all q = true := by
  rw [List.all_eq_true]
  intro y hy
  obtain ⟨x, hx, rfl⟩ := List.mem_map.mp hy
  exact h x hx
theorem impl_complete (l : List Int) (ws : List S43) (hv : validB l ws = true) : implOut (flowTx l ws) = (l, ws, true) := by
  have P := parts l ws hv
  have hc : cutAt (flowTx l ws) 47 = (Tx (Jn (l.map dtx)), Tx (Jn (ws.map wtx)), true) := by
    unfold cutAt
    rw [P.list, index_at _ _ 47 P.dno, if_neg (by omega), Int.toNat_natCast, ex_tx, ← Tx_back ((flowTx l ws).extract _ _), extract_list, P.list]
    simp
  unfold implOut
  rw [hc]
  simp only
  rw [P.dsp, map_id_of dtx dn l (fun d hd => by unfold dn; rw [rdW_dtx d (P.din d hd)]), all_of dtx dok l (fun d hd => by unfold dok; rw [rdW_dtx d (P.din d hd)])]
  have e1 : wofI (Tx (Jn (ws.map wtx))) = ws := by
    unfold wofI
    rw [Tx_list]
    by_cases h : ws = []
    · rw [h, if_pos (by rfl)]
    · rw [if_neg (P.wem h), P.wsp h, map_id_of wtx tw ws (fun w hw => by unfold tw; rw [rdT_wtx w (P.win w hw)])]
  have e2 : okI (Tx (Jn (ws.map wtx))) = true := by
    unfold okI
    rw [Tx_list]
    by_cases h : ws = []
    · rw [h, if_pos (by rfl)]
    · rw [if_neg (P.wem h), P.wsp h, all_of wtx tok ws (fun w hw => by unfold tok; rw [rdT_wtx w (P.win w hw)])]
  rw [e1, e2]
  unfold ifin
  rw [if_pos ⟨by rfl, hv⟩]
theorem spec_complete (l : List Int) (ws : List S43) (hv : validB l ws = true) : specOut (flowTx l ws) = (l, ws, true) := by
  have P := parts l ws hv
  have hc : sps 47 (flowTx l ws) = [Tx (Jn (l.map dtx)), Tx (Jn (ws.map wtx))] := by
    unfold sps
    rw [P.list, sp_app 47 _ _ P.dno, sp_none 47 _ P.wno]; rfl
  unfold specOut
  rw [if_neg (by have := P.sized; omega), hc]
  simp only
  rw [P.dsp, map_id_of dtx sn l (fun d hd => sn_dtx d (P.din d hd))]
  have e1 : wof (Tx (Jn (ws.map wtx))) = ws := by
    unfold wof
    rw [Tx_list]
    by_cases h : ws = []
    · rw [h, if_pos (by rfl)]
    · rw [if_neg (P.wem h), P.wsp h, map_id_of wtx w3 ws (fun w hw => by
        have hq := sps_wtx w (P.win w hw)
        unfold w3
        rw [hq]
        show (⟨sn (dtx w.f0), sn (dtx w.f1), sn (dtx w.f2)⟩ : S43) = w
        rw [sn_dtx _ (P.win w hw).1, sn_dtx _ (P.win w hw).2.1, sn_dtx _ (P.win w hw).2.2])]
  rw [e1]
  unfold sfin
  rw [if_pos ⟨hv, rfl⟩]
theorem sfin_or (s : ByteArray) (l : List Int) (ws : List S43) : sfin s l ws = bad ∨ (validB l ws = true ∧ flowTx l ws = s ∧ sfin s l ws = (l, ws, true)) := by
  unfold sfin
  split
  case isTrue h => exact .inr ⟨h.1, h.2, rfl⟩
  case isFalse h => exact .inl rfl
theorem spec_or (s : ByteArray) : specOut s = bad ∨ ∃ l ws, validB l ws = true ∧ flowTx l ws = s := by
  unfold specOut
  split
  · exact .inl rfl
  · split
    · rename_i p0 p1 hq
      rcases sfin_or s ((sps 44 p0).map sn) (wof p1) with h | ⟨h1, h2, h3⟩
      · exact .inl h
      · exact .inr ⟨_, _, h1, h2⟩
    · exact .inl rfl
theorem impl_or (s : ByteArray) : implOut s = bad ∨ ∃ l ws, validB l ws = true ∧ flowTx l ws = s := by
  cases h : (implOut s).2.2 with
  | true => obtain ⟨h1, h2⟩ := impl_sound s h; exact .inr ⟨_, _, h1, h2⟩
  | false =>
    left
    unfold implOut ifin at h ⊢
    split at h
    case isTrue => cases h
    case isFalse hc => rw [if_neg hc]
theorem read_same (s : ByteArray) : implOut s = specOut s := by
  rcases impl_or s with h | ⟨l, ws, hv, rfl⟩
  · rcases spec_or s with h2 | ⟨l, ws, hv, rfl⟩
    · rw [h, h2]
    · rw [impl_complete l ws hv, spec_complete l ws hv]
  · rw [impl_complete l ws hv, spec_complete l ws hv]
theorem read_small (s : ByteArray) : (implOut s).1.length ≤ 8 ∧ (implOut s).2.1.length ≤ 16 := by
  rcases impl_or s with h | ⟨l, ws, hv, rfl⟩
  · rw [h]; exact ⟨Nat.zero_le _, Nat.zero_le _⟩
  · rw [impl_complete l ws hv]
    have hf : formB l ws = true := by
      unfold validB at hv
      exact (Bool.and_eq_true_iff.mp hv).1
    obtain ⟨⟨h1, h2⟩, h3, h4, h5⟩ := form_ok hf
    exact ⟨h2, h3⟩
end Go.Proofs.YtalkmhnlgfncmaaDoor.X
end
section
-- Written by a program of this session out of the kit's print of the loaded functions: a plain function of a Go function, and its contract.
namespace Go.Proofs.YtalkmhnlgfncmaaDoor.X
open Go.RowKit Go.Proofs.YtalkmhnlgfncmaaDoorW.PrintWords Go.Proofs.YtalkmhnlgfncmaaDoorW.PrintLast Go.Proofs.YtalkmhnlgfncmaaDoorW.PrintMore
attribute [local go_sem] max2_int min2_int max_two min_two max_three min_three max_four min_four   -- for this text's walks alone
set_option linter.unusedVariables false
set_option linter.unusedSimpArgs false
def laws_markWireS.l0 : Nat → List (S43) → Int → Int → Option (Int × (List (S43)))
 | 0, _, _, _ => none
 | k + 1, x0, x1, x5 => if x5 < (x0.length : Int) then (if 0 ≤ x5 then ((some (x0.set (x5 : Int).toNat (⟨x1, (rd_T43 x0 x5).f1, (rd_T43 x0 x5).f2⟩ : S43) : List (S43))).bind fun y424 => ((some (y424.set (x5 : Int).toNat (⟨(rd_T43 y424 x5).f0, wrap64 (x1 + 1), (rd_T43 y424 x5).f2⟩ : S43) : List (S43))).bind fun y425 => (laws_markWireS.l0 k (y425.set (x5 : Int).toNat (⟨(rd_T43 y425 x5).f0, (rd_T43 y425 x5).f1, wrap64 ((wrap64 (x1 + 1)) + 1)⟩ : S43)) (wrap64 ((wrap64 ((wrap64 (x1 + 1)) + 1)) + 1)) (wrap64 (x5 + 1))))) else (none)) else (some (x1, x0))
def laws_markWireS.f (k : Nat) (l0 : List (S43)) (a1 : Int) : Option (Int × (List (S43))) := laws_markWireS.l0 k l0 a1 0
set_option maxHeartbeats 8000000 in
set_option maxRecDepth 100000 in
theorem laws_markWireS.calls (k : Nat) (P0_ : Nat → Prop) (u9000_ : Value) (l0 : List (S43)) (a1 : Int) (r1 : Int) (r2 : List (S43)) (w0 w : World) (hB : Below w0.heap.size w0 w) (ho0 : Kd.R k43 43 w w0.heap.size P0_ u9000_ l0) (h : laws_markWireS.f k l0 a1 = some (r1, r2)) :
  Calls Tryd.prog 26 #[u9000_, .int .i64 a1] w fun e w' => e = .returned (.int .i64 r1) ∧ Kd.R k43 43 w' w0.heap.size (fun k_ => (P0_ k_ ∨ w.heap.size ≤ k_)) u9000_ r2 ∧ Below w0.heap.size w0 w' ∧ Kept w w' (fun k_ => P0_ k_) := by
 have HO0 := Aside0.mk (show Kd.R k43 43 w w0.heap.size (fun k_ => (P0_ k_ ∨ w.heap.size ≤ k_)) u9000_ l0 from Kd.R_mono ho0 (fun k_ hk => (.inl hk)))
 have HK := Aside0.mk (Kept.refl w (fun k_ => P0_ k_))
 have HW0 := Aside0.mk hB.size
 have HB := Aside0.mk hB
 clear hB
 have H : (laws_markWireS.l0 k l0 a1 0) = some (r1, r2) := h
 clear h
 have H' := Aside0.mk H
 clear H
 go_enter Tryd.func26, Tryd.ntmps26
 go_wp2
 go_loopg [1, 5] k (fun kq v1 v5 w' => ∃ (x0_1 : List (S43)) (x1_1 : Int) (x5_1 : Int), v1 = .int .i64 x1_1 ∧ v5 = .int .i64 x5_1 ∧ Aside0 (laws_markWireS.l0 kq x0_1 x1_1 x5_1 = some (r1, r2)) ∧ Aside0 (kq ≤ k) ∧ Aside0 (Kd.R k43 43 w' w0.heap.size (fun k_ => (P0_ k_ ∨ w.heap.size ≤ k_)) u9000_ x0_1) ∧ Aside0 (Kept w w' (fun k_ => P0_ k_)) ∧ Aside0 (Below w0.heap.size w0 w'))
 case atStart => exact ⟨(l0), (a1), (0), (by first | rfl | (simp; done) | (simp [*]; done)), (by first | rfl | (simp; done) | (simp [*]; done)), H', ⟨Nat.le_refl _⟩, ⟨by (with_reducible repeat (first | apply Kd.R_alloc | apply Kd.R_drewN | apply Kd.R_drew)); exact HO0.out⟩, ⟨by repeat (first | (with_reducible first | exact HK.out | apply Kept.alloc | apply Kept.drewN | apply Kept.drew) | exact HK.out)⟩, ⟨by repeat (first | (with_reducible first | exact HB.out | apply below_alloc | apply pw_below_drewN | apply below_drew1) | exact HB.out)⟩⟩
 case round =>
  clear H'
  try clear c2
  try clear p2
  obtain ⟨x0_1, x1_1, x5_1, rfl, rfl, HA, HK1, HO_0, HK, HB⟩ := hrel
  cases gk with
  | zero => exact absurd HA.out (by simp [laws_markWireS.l0])
  | succ k1 =>
   have H := HA.out
   clear HA
   simp only [laws_markWireS.l0] at H
   by_cases c3 : x5_1 < (x0_1.length : Int)
   ·rw [if_pos c3] at H
    have c3b0 : decide (x5_1 < (x0_1.length : Int)) = true := decide_eq_true c3
    clear c3
    by_cases c4 : 0 ≤ x5_1
    ·rw [if_pos c4] at H
     have c4b0 : decide (0 ≤ x5_1) = true := decide_eq_true c4
     clear c4
     obtain ⟨y424, hy424⟩ : ∃ y_ : List (S43), y_ = (x0_1.set (x5_1 : Int).toNat (⟨x1_1, (rd_T43 x0_1 x5_1).f1, (rd_T43 x0_1 x5_1).f2⟩ : S43)) := ⟨_, rfl⟩
     replace H : ((some (y424.set (x5_1 : Int).toNat (⟨(rd_T43 y424 x5_1).f0, wrap64 (x1_1 + 1), (rd_T43 y424 x5_1).f2⟩ : S43) : List (S43))).bind fun y425 => (laws_markWireS.l0 k1 (y425.set (x5_1 : Int).toNat (⟨(rd_T43 y425 x5_1).f0, (rd_T43 y425 x5_1).f1, wrap64 ((wrap64 (x1_1 + 1)) + 1)⟩ : S43)) (wrap64 ((wrap64 ((wrap64 (x1_1 + 1)) + 1)) + 1)) (wrap64 (x5_1 + 1)))) = some (r1, r2) := by first | (rw [hy424]; with_reducible exact H) | (have H2_ := (Option.bind_some _ _).symm.trans H; rw [hy424]; with_reducible exact H2_) | (have H2_ := (Option.bind_some _ _).symm.trans H; with_reducible exact H2_) | with_reducible exact H | (rw [hy424]; exact H) | exact H
     have Ny424 := Aside0.mk hy424
     clear hy424
     obtain ⟨y425, hy425⟩ : ∃ y_ : List (S43), y_ = (y424.set (x5_1 : Int).toNat (⟨(rd_T43 y424 x5_1).f0, wrap64 (x1_1 + 1), (rd_T43 y424 x5_1).f2⟩ : S43)) := ⟨_, rfl⟩
     replace H : (laws_markWireS.l0 k1 (y425.set (x5_1 : Int).toNat (⟨(rd_T43 y425 x5_1).f0, (rd_T43 y425 x5_1).f1, wrap64 ((wrap64 (x1_1 + 1)) + 1)⟩ : S43)) (wrap64 ((wrap64 ((wrap64 (x1_1 + 1)) + 1)) + 1)) (wrap64 (x5_1 + 1))) = some (r1, r2) := by first | (rw [hy425]; with_reducible exact H) | (have H2_ := (Option.bind_some _ _).symm.trans H; rw [hy425]; with_reducible exact H2_) | (have H2_ := (Option.bind_some _ _).symm.trans H; with_reducible exact H2_) | with_reducible exact H | (rw [hy425]; exact H) | exact H
     have Ny425 := Aside0.mk hy425
     clear hy425
     obtain ⟨y426, hy426⟩ : ∃ y_ : List (S43), y_ = (y425.set (x5_1 : Int).toNat (⟨(rd_T43 y425 x5_1).f0, (rd_T43 y425 x5_1).f1, wrap64 ((wrap64 (x1_1 + 1)) + 1)⟩ : S43)) := ⟨_, rfl⟩
     replace H : (laws_markWireS.l0 k1 y426 (wrap64 ((wrap64 ((wrap64 (x1_1 + 1)) + 1)) + 1)) (wrap64 (x5_1 + 1))) = some (r1, r2) := by first | (rw [hy426]; with_reducible exact H) | (have H2_ := (Option.bind_some _ _).symm.trans H; rw [hy426]; with_reducible exact H2_) | (have H2_ := (Option.bind_some _ _).symm.trans H; with_reducible exact H2_) | with_reducible exact H | (rw [hy426]; exact H) | exact H
     have Ny426 := Aside0.mk hy426
     clear hy426
     have H' := Aside0.mk H
     clear H
     obtain ⟨Ao8, co8, eo8⟩ := Kd.R_slice HO_0.out
     subst eo8
     have p5 : 0 ≤ (x5_1 : Int) := of_decide_eq_true (by first | (with_reducible assumption) | assumption)
     have q5 : (x5_1 : Int) < ((x0_1.length : Int) : Int) := of_decide_eq_true (by first | (with_reducible assumption) | assumption)
     obtain ⟨go5, co5, eo5, gb5, gl5, cl5, HG5⟩ := Kd.R_form HO_0.out (by omega)
     (first | cases eo5 | (injection eo5 with ea_ en_ ec_; (first | subst ea_ | (injection ea_ with ea_; subst ea_)); subst ec_; clear en_))
     have GB5 := Aside0.mk gb5
     have GG5 := Aside0.mk HG5
     clear gb5 gl5 HG5
     have HMgo5 := Aside0.mk (show (P0_ go5 ∨ w.heap.size ≤ go5) from (HO_0.out.1 _ rfl))
     obtain ⟨ce5, hcl5, hM5, hcc5, hfr5⟩ := Kd.R_elem HO_0.out z43 (x5_1 : Int) p5 q5
     obtain rfl := k43_openM hM5
     have hx5_0 : wr.cell? ⟨go5, (x5_1 : Int).toNat * 3, none⟩ = some (.int .i64 ((rd_T43 x0_1 x5_1).f0)) := hcc5 0 _ rfl
     have hx5_1 : wr.cell? ⟨go5, (x5_1 : Int).toNat * 3 + 1, none⟩ = some (.int .i64 ((rd_T43 x0_1 x5_1).f1)) := hcc5 1 _ rfl
     have hx5_2 : wr.cell? ⟨go5, (x5_1 : Int).toNat * 3 + 2, none⟩ = some (.int .i64 ((rd_T43 x0_1 x5_1).f2)) := hcc5 2 _ rfl
     have hf5_0 : wr.frozen? ⟨go5, (x5_1 : Int).toNat * 3, none⟩ = false := hfr5 0
     have hf5_1 : wr.frozen? ⟨go5, (x5_1 : Int).toNat * 3 + 1, none⟩ = false := hfr5 1
     have hf5_2 : wr.frozen? ⟨go5, (x5_1 : Int).toNat * 3 + 2, none⟩ = false := hfr5 2
     clear hcl5 hcc5 hfr5 hM5
     replace p5 := eq_true p5
     replace q5 := eq_true q5
     have HX9 := Aside0.mk (show Kd.R k43 43 wr w0.heap.size (fun k_ => (P0_ k_ ∨ w.heap.size ≤ k_)) (.slice (some ⟨go5, 0, none⟩) x0_1.length co8) x0_1 from (by (with_reducible repeat (first | apply Kd.R_alloc | apply Kd.R_drewN | apply Kd.R_drew)); exact HO_0.out))
     obtain ⟨ce9, hcl9, hM9, hcc9, hfr9⟩ := Kd.R_elem HX9.out z43 (x5_1 : Int) (of_decide_eq_true (by first | (with_reducible assumption) | assumption)) (by have h_ : (x5_1 : Int) < ((x0_1.length : Int) : Int) := of_decide_eq_true (by first | (with_reducible assumption) | assumption); first | exact h_ | (have e_ := (Kd.R_reads' HO_0.out).1; omega) | simpa using h_)
     obtain rfl := k43_openM hM9
     have HP9 := Kd.R_seg HX9.out (x5_1 : Int) (of_decide_eq_true (by first | (with_reducible assumption) | assumption)) (by have h_ : (x5_1 : Int) < ((x0_1.length : Int) : Int) := of_decide_eq_true (by first | (with_reducible assumption) | assumption); first | exact h_ | (have e_ := (Kd.R_reads' HO_0.out).1; omega) | simpa using h_) (seg := [.int .i64 x1_1]) (j := 0) hcl9 hcc9 (show 1 ≤ 3 from by decide) (x' := (⟨x1_1, (rd_T43 x0_1 x5_1).f1, (rd_T43 x0_1 x5_1).f2⟩ : S43)) (k43_mkM _ _ _ (⟨x1_1, (rd_T43 x0_1 x5_1).f1, (rd_T43 x0_1 x5_1).f2⟩ : S43) ) (fun _ hk => hk)
     have hx9_0 := hcc9 0 _ rfl
     (try simp only [show (k43).sz = 3 from rfl, Nat.mul_one, Nat.add_zero] at hx9_0)
     have hf9_0 := hfr9 0
     (try simp only [show (k43).sz = 3 from rfl, Nat.mul_one, Nat.add_zero] at hf9_0)
     clear hcl9 hcc9 hfr9 hM9
     go_wp2_with (first | ((with_reducible refine gate_store (t := 2) (p := 16) rfl ?_); refine store_event (t := 2) (p := 16) (v := ?vo_w10) (w1 := (wr.setCell ⟨go5, (x5_1 : Int).toNat * 3, none⟩ (.int .i64 x1_1))) ?hg ?ho ?hn ?hr ?_; (case ho => rfl); (case hg => rfl); (case hn => rfl); (case hr => first | (go_simp; done) | (go_simp; rfl)); intro w10 hw; have hg : wr.grownBy w10 (some go5) := (by rw [hw]; exact HP9.2); have hp_ : Kd.R k43 43 w10 w0.heap.size (fun k_ => (P0_ k_ ∨ w.heap.size ≤ k_)) (.slice (some ⟨go5, 0, none⟩) x0_1.length co8) y424 := (by rw [hw, Ny424.out]; exact HP9.1); clear HP9; have n0_ := Aside0.mk (hp_); have n1_ := Aside0.mk ((by rw [hw]; exact below_set (HB.out) GB5.out : Below w0.heap.size w0 w10)); have n2_ := Aside0.mk (Kept.of_grown (S := (fun k_ => P0_ k_)) hg (by repeat (first | (with_reducible first | exact HK.out | apply Kept.alloc | apply Kept.drewN | apply Kept.drew) | exact HK.out)) (fun k_ e_ => (HO_0.out.1 k_ e_))); clear HO_0; clear HB; clear HK; have HO_0 := n0_; have HB := n1_; have HK := n2_; clear n0_ n1_ n2_; clear hg hw hp_; have p6 : 0 ≤ (x5_1 : Int) := of_decide_eq_true (by first | (with_reducible assumption) | assumption); have q6 : (x5_1 : Int) < ((x0_1.length : Int) : Int) := of_decide_eq_true (by first | (with_reducible assumption) | assumption); obtain ⟨ce6, hcl6, hM6, hcc6, hfr6⟩ := Kd.R_elem HO_0.out z43 (x5_1 : Int) p6 q6; obtain rfl := k43_openM hM6; have hx6_0 : w10.cell? ⟨go5, (x5_1 : Int).toNat * 3, none⟩ = some (.int .i64 ((rd_T43 y424 x5_1).f0)) := hcc6 0 _ rfl; have hx6_1 : w10.cell? ⟨go5, (x5_1 : Int).toNat * 3 + 1, none⟩ = some (.int .i64 ((rd_T43 y424 x5_1).f1)) := hcc6 1 _ rfl; have hx6_2 : w10.cell? ⟨go5, (x5_1 : Int).toNat * 3 + 2, none⟩ = some (.int .i64 ((rd_T43 y424 x5_1).f2)) := hcc6 2 _ rfl; have hf6_0 : w10.frozen? ⟨go5, (x5_1 : Int).toNat * 3, none⟩ = false := hfr6 0; have hf6_1 : w10.frozen? ⟨go5, (x5_1 : Int).toNat * 3 + 1, none⟩ = false := hfr6 1; have hf6_2 : w10.frozen? ⟨go5, (x5_1 : Int).toNat * 3 + 2, none⟩ = false := hfr6 2; clear hcl6 hcc6 hfr6 hM6; replace p6 := eq_true p6; replace q6 := eq_true q6; have HX11 := Aside0.mk (show Kd.R k43 43 w10 w0.heap.size (fun k_ => (P0_ k_ ∨ w.heap.size ≤ k_)) (.slice (some ⟨go5, 0, none⟩) x0_1.length co8) y424 from (by (with_reducible repeat (first | apply Kd.R_alloc | apply Kd.R_drewN | apply Kd.R_drew)); exact HO_0.out)); obtain ⟨ce11, hcl11, hM11, hcc11, hfr11⟩ := Kd.R_elem HX11.out z43 (x5_1 : Int) (of_decide_eq_true (by first | (with_reducible assumption) | assumption)) (by have h_ : (x5_1 : Int) < ((x0_1.length : Int) : Int) := of_decide_eq_true (by first | (with_reducible assumption) | assumption); first | exact h_ | (have e_ := (Kd.R_reads' HO_0.out).1; omega) | simpa using h_); obtain rfl := k43_openM hM11; have HP11 := Kd.R_seg HX11.out (x5_1 : Int) (of_decide_eq_true (by first | (with_reducible assumption) | assumption)) (by have h_ : (x5_1 : Int) < ((x0_1.length : Int) : Int) := of_decide_eq_true (by first | (with_reducible assumption) | assumption); first | exact h_ | (have e_ := (Kd.R_reads' HO_0.out).1; omega) | simpa using h_) (seg := [.int .i64 (wrap64 (x1_1 + 1))]) (j := 1) hcl11 hcc11 (show 2 ≤ 3 from by decide) (x' := (⟨(rd_T43 y424 x5_1).f0, wrap64 (x1_1 + 1), (rd_T43 y424 x5_1).f2⟩ : S43)) (k43_mkM _ _ _ (⟨(rd_T43 y424 x5_1).f0, wrap64 (x1_1 + 1), (rd_T43 y424 x5_1).f2⟩ : S43) ) (fun _ hk => hk); have hx11_1 := hcc11 1 _ rfl; (try simp only [show (k43).sz = 3 from rfl, Nat.mul_one, Nat.add_zero] at hx11_1); have hf11_1 := hfr11 1; (try simp only [show (k43).sz = 3 from rfl, Nat.mul_one, Nat.add_zero] at hf11_1); clear hcl11 hcc11 hfr11 hM11) | ((with_reducible refine gate_store (t := 2) (p := 23) rfl ?_); refine store_event (t := 2) (p := 23) (v := ?vo_w12) (w1 := (w10.setCell ⟨go5, (x5_1 : Int).toNat * 3 + 1, none⟩ (.int .i64 (wrap64 (x1_1 + 1))))) ?hg ?ho ?hn ?hr ?_; (case ho => rfl); (case hg => rfl); (case hn => rfl); (case hr => first | (go_simp; done) | (go_simp; rfl)); intro w12 hw; have hg : w10.grownBy w12 (some go5) := (by rw [hw]; exact HP11.2); have hp_ : Kd.R k43 43 w12 w0.heap.size (fun k_ => (P0_ k_ ∨ w.heap.size ≤ k_)) (.slice (some ⟨go5, 0, none⟩) x0_1.length co8) y425 := (by rw [hw, Ny425.out]; exact HP11.1); clear HP11; have n0_ := Aside0.mk (hp_); have n1_ := Aside0.mk ((by rw [hw]; exact below_set (HB.out) GB5.out : Below w0.heap.size w0 w12)); have n2_ := Aside0.mk (Kept.of_grown (S := (fun k_ => P0_ k_)) hg (by repeat (first | (with_reducible first | exact HK.out | apply Kept.alloc | apply Kept.drewN | apply Kept.drew) | exact HK.out)) (fun k_ e_ => (HO_0.out.1 k_ e_))); clear HO_0; clear HB; clear HK; have HO_0 := n0_; have HB := n1_; have HK := n2_; clear n0_ n1_ n2_; clear hg hw hp_; have p7 : 0 ≤ (x5_1 : Int) := of_decide_eq_true (by first | (with_reducible assumption) | assumption); have q7 : (x5_1 : Int) < ((x0_1.length : Int) : Int) := of_decide_eq_true (by first | (with_reducible assumption) | assumption); obtain ⟨ce7, hcl7, hM7, hcc7, hfr7⟩ := Kd.R_elem HO_0.out z43 (x5_1 : Int) p7 q7; obtain rfl := k43_openM hM7; have hx7_0 : w12.cell? ⟨go5, (x5_1 : Int).toNat * 3, none⟩ = some (.int .i64 ((rd_T43 y425 x5_1).f0)) := hcc7 0 _ rfl; have hx7_1 : w12.cell? ⟨go5, (x5_1 : Int).toNat * 3 + 1, none⟩ = some (.int .i64 ((rd_T43 y425 x5_1).f1)) := hcc7 1 _ rfl; have hx7_2 : w12.cell? ⟨go5, (x5_1 : Int).toNat * 3 + 2, none⟩ = some (.int .i64 ((rd_T43 y425 x5_1).f2)) := hcc7 2 _ rfl; have hf7_0 : w12.frozen? ⟨go5, (x5_1 : Int).toNat * 3, none⟩ = false := hfr7 0; have hf7_1 : w12.frozen? ⟨go5, (x5_1 : Int).toNat * 3 + 1, none⟩ = false := hfr7 1; have hf7_2 : w12.frozen? ⟨go5, (x5_1 : Int).toNat * 3 + 2, none⟩ = false := hfr7 2; clear hcl7 hcc7 hfr7 hM7; replace p7 := eq_true p7; replace q7 := eq_true q7; have HX13 := Aside0.mk (show Kd.R k43 43 w12 w0.heap.size (fun k_ => (P0_ k_ ∨ w.heap.size ≤ k_)) (.slice (some ⟨go5, 0, none⟩) x0_1.length co8) y425 from (by (with_reducible repeat (first | apply Kd.R_alloc | apply Kd.R_drewN | apply Kd.R_drew)); exact HO_0.out)); obtain ⟨ce13, hcl13, hM13, hcc13, hfr13⟩ := Kd.R_elem HX13.out z43 (x5_1 : Int) (of_decide_eq_true (by first | (with_reducible assumption) | assumption)) (by have h_ : (x5_1 : Int) < ((x0_1.length : Int) : Int) := of_decide_eq_true (by first | (with_reducible assumption) | assumption); first | exact h_ | (have e_ := (Kd.R_reads' HO_0.out).1; omega) | simpa using h_); obtain rfl := k43_openM hM13; have HP13 := Kd.R_seg HX13.out (x5_1 : Int) (of_decide_eq_true (by first | (with_reducible assumption) | assumption)) (by have h_ : (x5_1 : Int) < ((x0_1.length : Int) : Int) := of_decide_eq_true (by first | (with_reducible assumption) | assumption); first | exact h_ | (have e_ := (Kd.R_reads' HO_0.out).1; omega) | simpa using h_) (seg := [.int .i64 (wrap64 ((wrap64 (x1_1 + 1)) + 1))]) (j := 2) hcl13 hcc13 (show 3 ≤ 3 from by decide) (x' := (⟨(rd_T43 y425 x5_1).f0, (rd_T43 y425 x5_1).f1, wrap64 ((wrap64 (x1_1 + 1)) + 1)⟩ : S43)) (k43_mkM _ _ _ (⟨(rd_T43 y425 x5_1).f0, (rd_T43 y425 x5_1).f1, wrap64 ((wrap64 (x1_1 + 1)) + 1)⟩ : S43) ) (fun _ hk => hk); have hx13_2 := hcc13 2 _ rfl; (try simp only [show (k43).sz = 3 from rfl, Nat.mul_one, Nat.add_zero] at hx13_2); have hf13_2 := hfr13 2; (try simp only [show (k43).sz = 3 from rfl, Nat.mul_one, Nat.add_zero] at hf13_2); clear hcl13 hcc13 hfr13 hM13) | ((with_reducible refine gate_store (t := 2) (p := 30) rfl ?_); refine store_event (t := 2) (p := 30) (v := ?vo_w14) (w1 := (w12.setCell ⟨go5, (x5_1 : Int).toNat * 3 + 2, none⟩ (.int .i64 (wrap64 ((wrap64 (x1_1 + 1)) + 1))))) ?hg ?ho ?hn ?hr ?_; (case ho => rfl); (case hg => rfl); (case hn => rfl); (case hr => first | (go_simp; done) | (go_simp; rfl)); intro w14 hw; have hg : w12.grownBy w14 (some go5) := (by rw [hw]; exact HP13.2); have hp_ : Kd.R k43 43 w14 w0.heap.size (fun k_ => (P0_ k_ ∨ w.heap.size ≤ k_)) (.slice (some ⟨go5, 0, none⟩) x0_1.length co8) y426 := (by rw [hw, Ny426.out]; exact HP13.1); clear HP13; have n0_ := Aside0.mk (hp_); have n1_ := Aside0.mk ((by rw [hw]; exact below_set (HB.out) GB5.out : Below w0.heap.size w0 w14)); have n2_ := Aside0.mk (Kept.of_grown (S := (fun k_ => P0_ k_)) hg (by repeat (first | (with_reducible first | exact HK.out | apply Kept.alloc | apply Kept.drewN | apply Kept.drew) | exact HK.out)) (fun k_ e_ => (HO_0.out.1 k_ e_))); clear HO_0; clear HB; clear HK; have HO_0 := n0_; have HB := n1_; have HK := n2_; clear n0_ n1_ n2_; clear hg hw hp_))
     go_roundg k1
     case measure => have := HK1.out; omega
     case rel => exact ⟨(y426), (wrap64 ((wrap64 ((wrap64 (x1_1 + 1)) + 1)) + 1)), (wrap64 (x5_1 + 1)), (by first | rfl | (simp; done) | (simp [*]; done)), (by first | rfl | (simp; done) | (simp [*]; done)), H', ⟨by have := HK1.out; omega⟩, ⟨by (with_reducible repeat (first | apply Kd.R_alloc | apply Kd.R_drewN | apply Kd.R_drew)); exact HO_0.out⟩, ⟨by repeat (first | (with_reducible first | exact HK.out | apply Kept.alloc | apply Kept.drewN | apply Kept.drew) | exact HK.out)⟩, ⟨by repeat (first | (with_reducible first | exact HB.out | apply below_alloc | apply pw_below_drewN | apply below_drew1) | exact HB.out)⟩⟩
    ·rw [if_neg c4] at H
     exact absurd H (by simp)
   ·rw [if_neg c3] at H
    have c3b0 : decide (x5_1 < (x0_1.length : Int)) = false := decide_eq_false c3
    clear c3
    simp only [Option.some.injEq, Prod.mk.injEq] at H
    obtain ⟨rfl, rfl⟩ := H
    obtain ⟨Ao15, co15, eo15⟩ := Kd.R_slice HO_0.out
    subst eo15
    go_wp2
    go_ret
    exact ⟨by first | rfl | (simp [errW_none, errW_some] <;> rfl) | (simp [*, errW_none, errW_some] <;> rfl), by (with_reducible repeat (first | apply Kd.R_alloc | apply Kd.R_drewN | apply Kd.R_drew)); exact HO_0.out, by repeat (first | (with_reducible first | exact HB.out | apply below_alloc | apply pw_below_drewN | apply below_drew1) | exact HB.out), by repeat (first | (with_reducible first | exact HK.out | apply Kept.alloc | apply Kept.drewN | apply Kept.drew) | exact HK.out)⟩
end Go.Proofs.YtalkmhnlgfncmaaDoor.X
end
