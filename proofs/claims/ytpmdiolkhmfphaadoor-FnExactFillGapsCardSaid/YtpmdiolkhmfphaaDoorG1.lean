/- My own texts of this seat, merged: XDropS, CDrop, XFill, XFillS, Xp4, Xp3, CDropLaw. Conditions: as each lemma says. -/
import Derived.Test.YtpmdiolkhmfphaaDoorG0
import Derived.Deep.QuietTactic
import Derived.BigQuiet
/- The reference's DropPulses: what it answers. Conditions: waves. -/
namespace Go.Proofs.YtpmdiolkhmfphaaDoor.X
open Go.RowKit Go.Proofs.YtpmdiolkhmfphaaDoorW.PrintWords Go.Proofs.YtpmdiolkhmfphaaDoorW.PrintLast Go.Proofs.YtpmdiolkhmfphaaDoorW.PrintMore
set_option linter.unusedVariables false
set_option linter.unusedSimpArgs false
def raiseS (t : Int) (l : List Int) (p : S32) : List Int := if t ≤ p.f1 then fillN l p.f0.toNat 49 p.f1.toNat else l
def raiseL (t : Int) (l : List Int) (ps : List S32) : List Int := ps.foldl (raiseS t) l
theorem raiseS_len (t : Int) (l : List Int) (p : S32) : (raiseS t l p).length = l.length := by unfold raiseS; split <;> simp [fillN_len]
theorem raiseL_len (t : Int) (ps : List S32) : ∀ l : List Int, (raiseL t l ps).length = l.length := by
  induction ps with
  | nil => intro l; rfl
  | cons p r ih => intro l; show (raiseL t (raiseS t l p) r).length = _; rw [ih, raiseS_len]
theorem raiseL_snoc (t : Int) (l : List Int) (ps : List S32) (i : Nat) (h : i < ps.length) : raiseL t l (ps.take (i + 1)) = raiseS t (raiseL t l (ps.take i)) ps[i] := by
  unfold raiseL
  rw [List.take_succ_eq_append_getElem h, List.foldl_append]; rfl
theorem filter_eq (k : Nat) (s : ByteArray) (t : Int) (hs : s.size ≤ 140737488351232) (hk : s.size < k) : spec_l09Filter.f k s t = impl_isFilter.f s t := by
  unfold spec_l09Filter.f impl_isFilter.f
  rw [swave_eq k s hs hk, wave_eq s hs, Option.bind_some, Option.bind_some, l00In_eq, within_eq]
/-- Places that follow each other. -/
theorem fillN_ext (l : List Int) (m : Nat) : (∀ j, j < m → l[j]? = some 48) → l.length = m → l = List.replicate m 48 := by
  intro h hl
  apply List.ext_getElem?
  intro j
  rw [List.getElem?_replicate]
  by_cases hj : j < m
  · rw [if_pos hj, h j hj]
  · rw [if_neg hj, List.getElem?_eq_none (by omega)]
theorem fill_zero (m : Nat) : fillN (List.replicate m 0) 0 48 m = List.replicate m 48 := by
  refine fillN_ext _ m (fun j hj => ?_) (by rw [fillN_len]; simp)
  rw [fillN_get _ _ _ _ _ (by simp), if_pos (by omega)]
/-- The lists of begins and ends, place by place. -/
def Spans (s : ByteArray) (us ds : List Int) : Prop := ∀ i, i < us.length → ∃ a n : Nat, us[i]? = some (a : Int) ∧ ds[i]? = some ((a + n : Nat) : Int) ∧ (pz us ds)[i]? = some ⟨(a : Int), (n : Int)⟩ ∧ 0 < n ∧ a + n ≤ s.size
theorem spans_of (s : ByteArray) : ∀ us ds : List Int, Runs s us ds → Spans s us ds
  | [], [], _ => fun i hi => absurd hi (by simp)
  | u :: us, d :: ds, h => fun i hi => by
    cases i with
    | zero =>
      obtain ⟨a, b, rfl, rfl, h1, h2, _⟩ := h.1
      refine ⟨a, b - a, rfl, ?_, ?_, by omega, by omega⟩
      · show some ((b : Nat) : Int) = _
        congr 2; omega
      · show some (⟨(a : Int), (b : Int) - a⟩ : S32) = _
        congr 2; omega
    | succ i =>
      obtain ⟨a, n, h1, h2, h3, h4⟩ := spans_of s us ds h.2 i (by simpa using hi)
      exact ⟨a, n, by simpa using h1, by simpa using h2, by simpa [pz] using h3, h4⟩
  | [], _ :: _, h => h.elim
  | _ :: _, [], h => h.elim
theorem rd_get {l : List Int} {i : Nat} {v : Int} (h : l[i]? = some v) : rd l (i : Int) = v ∧ i < l.length := by
  obtain ⟨hl, hv⟩ := List.getElem?_eq_some_iff.1 h
  exact ⟨by rw [rd_nat l i hl, hv], hl⟩
set_option maxHeartbeats 4000000 in
set_option maxRecDepth 100000 in
theorem DropS_no (s : ByteArray) (t : Int) (k : Nat) (w : World) (h1 : spec_l09Filter.f k s t = some false) :
    Calls Tryd.prog 7 #[.string s, .int .i64 t] w fun e w' => e = .returned (.tuple #[.string ⟨#[]⟩, .bool false]) ∧ Below w.heap.size w w' := by
  have H1 := Aside0.mk h1
  clear h1
  go_enter Tryd.func7, Tryd.ntmps7
  go_wp2_with (go_at_call 9; (with_reducible refine (spec_l09Filter.calls k s t false _ H1.out).mono ?_); rintro e wn ⟨rfl, hb0⟩; have hb := to_below_d hb0; have HB := Aside0.mk hb; clear hb hb0)
  go_ret2
  exact ⟨rfl, HB.out⟩
set_option maxHeartbeats 8000000 in
set_option maxRecDepth 100000 in
theorem DropS_yes (s : ByteArray) (t : Int) (us ds : List Int) (k : Nat) (hin : Spans s us ds) (hlen : us.length ≤ 400) (hdl : ds.length = us.length) (hs : s.size ≤ 400) (ht1 : 1 ≤ t) (ht2 : t ≤ 50) (w : World) (h1 : spec_l09Filter.f k s t = some true) (h2 : spec_l07Pulses.f k s = some (us, ds)) :
    Calls Tryd.prog 7 #[.string s, .int .i64 t] w fun e w' => e = .returned (.tuple #[.string (strOfNums (raiseL t (List.replicate s.size 48) (pz us ds))), .bool true]) ∧ Below w.heap.size w w' := by
  have H1 := Aside0.mk h1
  have H2 := Aside0.mk h2
  have HIN := Aside0.mk hin
  have HDL := Aside0.mk hdl
  clear h1 h2 hin hdl
  have mk := print_make (P := Tryd.prog) 28 5 .u8 1 Tryd.underlying28 (by kernel_rfl) (by omega) s.size (by omega)
  go_enter Tryd.func7, Tryd.ntmps7
  go_wp2_with (first
    | (go_at_call 9; (with_reducible refine (spec_l09Filter.calls k s t true _ H1.out).mono ?_); rintro e w1 ⟨rfl, hb0⟩; have hb := to_below_d hb0; have HB := Aside0.mk hb; clear hb hb0)
    | (go_at_call 10; (with_reducible refine (spec_l07Pulses.calls k s us ds _ H2.out).mono ?_); rintro e w2 ⟨v2, v3, rfl, ho0, ho1, hb⟩; obtain ⟨Au, cu, eo⟩ := Kd.R_slice ho0; subst eo; obtain ⟨Ad, cd, eo⟩ := Kd.R_slice ho1; subst eo; have HU := Aside0.mk (Kd.R_mono (Kd.R_lower (Kd.R_bound ho0) (below_size HB.out)) (ok' := fun q => q < w2.heap.size) (fun q hq => hq.2.2.1)); have HD := Aside0.mk (Kd.R_mono (Kd.R_lower (Kd.R_bound ho1) (below_size HB.out)) (ok' := fun q => q < w2.heap.size) (fun q hq => hq.2.2.1)); have n0_ := Aside0.mk (below_step HB.out hb); clear HB hb ho0 ho1; have HB := n0_; clear n0_))
  obtain ⟨g, hg⟩ : ∃ g, g = w2.heap.size := ⟨_, rfl⟩
  have q0 := Aside0.mk (BRow.of_made w2 5 s.size)
  have q1 := Aside0.mk (Kd.R_alloc HU.out (.cells (madeCells #[.int .u8 0] s.size) 5))
  have q2 := Aside0.mk (Kd.R_alloc HD.out (.cells (madeCells #[.int .u8 0] s.size) 5))
  have q3 := Aside0.mk (below_alloc HB.out (.cells (madeCells #[.int .u8 0] s.size) 5))
  have HGW := Aside0.mk (show w.heap.size ≤ g by rw [hg]; exact below_size HB.out)
  rw [← hg] at q0 q1 q2 ⊢
  clear hg HU HD HB H1 H2 mk
  go_loopg [26] s.size (fun kq v26 wr => ∃ j : Nat, v26 = .int .i64 (j : Int) ∧ Aside0 (j + kq = s.size) ∧ Aside0 (BRow wr g (fillN (List.replicate s.size 0) 0 48 j)) ∧ Aside0 (Kd.R (Kd.int .i64) 2 wr w.heap.size (fun q => q < g) (.slice Au us.length cu) us) ∧ Aside0 (Kd.R (Kd.int .i64) 2 wr w.heap.size (fun q => q < g) (.slice Ad ds.length cd) ds) ∧ Aside0 (Below w.heap.size w wr))
  case atStart => exact ⟨0, rfl, ⟨by omega⟩, q0, q1, q2, q3⟩
  case round =>
    clear q0 q1 q2 q3
    obtain ⟨j, rfl, HE, HR, HU, HD, HB⟩ := hrel
    by_cases hj : j < s.size
    · cases gk with
      | zero => have := HE.out; omega
      | succ g1 =>
      have hc := HR.out.cell j (by rw [fillN_len, List.length_replicate]; exact hj)
      have hf := HR.out.free j (by rw [fillN_len, List.length_replicate]; exact hj)
      go_wp2
      go_roundg g1
      case measure => omega
      case rel => exact ⟨j + 1, by go_num, ⟨by have := HE.out; omega⟩, ⟨by have := HR.out.put j (by rw [fillN_len, List.length_replicate]; exact hj) 48; rw [fillN, Nat.zero_add]; exact this⟩, ⟨Kd.R_far (p := ⟨g, j, none⟩) HU.out (fun q hq => Nat.ne_of_lt hq) _⟩, ⟨Kd.R_far (p := ⟨g, j, none⟩) HD.out (fun q hq => Nat.ne_of_lt hq) _⟩, ⟨HB.out.setCell (p := ⟨g, j, none⟩) HGW.out _⟩⟩
    · have e : j = s.size := by have := HE.out; omega
      subst e
      have q0 := HR
      rw [fill_zero] at q0
      clear HR
      go_wp2
      go_loopg [10] us.length (fun kq v10 wr => ∃ i : Nat, v10 = .int .i64 (i : Int) ∧ Aside0 (i + kq = us.length) ∧ Aside0 (BRow wr g (raiseL t (List.replicate s.size 48) ((pz us ds).take i))) ∧ Aside0 (Kd.R (Kd.int .i64) 2 wr w.heap.size (fun q => q < g) (.slice Au us.length cu) us) ∧ Aside0 (Kd.R (Kd.int .i64) 2 wr w.heap.size (fun q => q < g) (.slice Ad ds.length cd) ds) ∧ Aside0 (Below w.heap.size w wr))
      case atStart => exact ⟨0, rfl, ⟨by omega⟩, q0, HU, HD, HB⟩
      case round =>
        clear q0 HU HD HB HE
        obtain ⟨i, rfl, HE, HR, HU, HD, HB⟩ := hrel
        by_cases hlt : i < us.length
        · cases gk with
          | zero => have := HE.out; omega
          | succ g1 =>
          have hdl := HDL.out
          obtain ⟨a, n, hu, hd, hp, hn0, han⟩ := HIN.out i hlt
          obtain ⟨au, heu, hxu⟩ := Kd.at_int (Kd.R_reads' HU.out).2.2 (i : Int) (by omega) (by omega)
          obtain ⟨ad, hed, hxd⟩ := Kd.at_int (Kd.R_reads' HD.out).2.2 (i : Int) (by omega) (by omega)
          rw [(rd_get hu).1, Int.toNat_natCast] at hxu
          rw [(rd_get hd).1, Int.toNat_natCast] at hxd
          subst heu hed
          obtain ⟨l, hl⟩ : ∃ l, l = raiseL t (List.replicate s.size 48) ((pz us ds).take i) := ⟨_, rfl⟩
          have HLL : Aside0 (l.length = s.size) := ⟨by rw [hl, raiseL_len, List.length_replicate]⟩
          have HPZ : i < (pz us ds).length := (List.getElem?_eq_some_iff.1 hp).1
          have HNX : Aside0 (raiseL t (List.replicate s.size 48) ((pz us ds).take (i + 1)) = raiseS t l ⟨(a : Int), (n : Int)⟩) := ⟨by rw [raiseL_snoc t _ _ i HPZ, hl, (List.getElem?_eq_some_iff.1 hp).2]⟩
          rw [← hl] at HR
          have HRU := Aside0.mk (rd_get hu).1
          have HRD := Aside0.mk (rd_get hd).1
          clear hl hu hd hp HPZ hdl
          rw [Int.natCast_add] at hxd
          have HXU := Aside0.mk hxu
          have HXD := Aside0.mk hxd
          have q0 := HR
          have sm : IntKind.i64.wrap ((a : Int) + (n : Int) - (a : Int)) = (n : Int) := by rw [IntWalk.i64_in _ ⟨by omega, by omega⟩]; omega
          go_wp2
          by_cases hnt : t ≤ (n : Int)
          · go_loopg [11] n (fun kq v11 wi => ∃ j : Nat, v11 = .int .i64 ((a : Int) + (j : Int)) ∧ Aside0 (j + kq = n) ∧ Aside0 (BRow wi g (fillN l a 49 j)) ∧ Aside0 (Kd.R (Kd.int .i64) 2 wi w.heap.size (fun q => q < g) (.slice (some au) us.length cu) us) ∧ Aside0 (Kd.R (Kd.int .i64) 2 wi w.heap.size (fun q => q < g) (.slice (some ad) ds.length cd) ds) ∧ Aside0 (Below w.heap.size w wi))
            case atStart => exact ⟨0, by simp, ⟨by omega⟩, q0, HU, HD, HB⟩
            case round =>
              clear q0 HU HD HB HR hxu hxd HXU HXD
              obtain ⟨j, rfl, HJ, HR, HU, HD, HB⟩ := hrel
              obtain ⟨au', heu, hxu⟩ := Kd.at_int (Kd.R_reads' HU.out).2.2 (i : Int) (by omega) (by omega)
              obtain ⟨ad', hed, hxd⟩ := Kd.at_int (Kd.R_reads' HD.out).2.2 (i : Int) (by omega) (by rw [HDL.out]; omega)
              obtain rfl := Option.some.inj heu
              obtain rfl := Option.some.inj hed
              rw [HRU.out, Int.toNat_natCast] at hxu
              rw [HRD.out, Int.toNat_natCast, Int.natCast_add] at hxd
              clear heu hed
              have hlt1 : i < us.length := hlt
              have hlt2 : i < ds.length := by rw [HDL.out]; exact hlt
              by_cases hjn : j < n
              · cases gk with
                | zero => have := HJ.out; omega
                | succ g2 =>
                have hll := HLL.out
                have hc := HR.out.cell (a + j) (by rw [fillN_len]; omega)
                have hf := HR.out.free (a + j) (by rw [fillN_len]; omega)
                have b1 : a + j < s.size := by omega
                have d1 : decide ((a : Int) + (j : Int) < (a : Int) + (n : Int)) = true := decide_eq_true (by omega)
                have d2 : decide (t ≤ (n : Int)) = true := decide_eq_true hnt
                clear hll
                go_wp2
                go_quiet (fail)
                go_wp2
                go_roundg g2
                case measure => omega
                case rel => exact ⟨j + 1, congrArg (Value.int .i64) (by omega), ⟨by have := HJ.out; omega⟩, ⟨(HR.out.move (w1 := wr.drewN nq) rfl).put (a + j) (by rw [fillN_len, HLL.out]; omega) 49⟩, ⟨Kd.R_far (p := ⟨g, a + j, none⟩) (Kd.R_drewN HU.out nq) (fun q hq => Nat.ne_of_lt hq) _⟩, ⟨Kd.R_far (p := ⟨g, a + j, none⟩) (Kd.R_drewN HD.out nq) (fun q hq => Nat.ne_of_lt hq) _⟩, ⟨(pw_below_drewN HB.out nq).setCell (p := ⟨g, a + j, none⟩) HGW.out _⟩⟩
              · have e : j = n := by have := HJ.out; omega
                subst e
                have HNT := Aside0.mk hnt
                have d1 : decide ((a : Int) + (j : Int) < (a : Int) + (j : Int)) = false := decide_eq_false (by omega)
                go_wp2
                go_quiet (fail)
                go_wp2
                go_roundg g1
                case measure => omega
                case rel => exact ⟨i + 1, by go_num, ⟨by have := HE.out; omega⟩, ⟨by rw [HNX.out]; unfold raiseS; rw [if_pos HNT.out]; exact HR.out.move rfl⟩, ⟨Kd.R_drewN HU.out nq⟩, ⟨Kd.R_drewN HD.out nq⟩, ⟨pw_below_drewN HB.out nq⟩⟩
          · go_loopg [11] 1 (fun kq v11 wi => v11 = .int .i64 (a : Int) ∧ Aside0 (BRow wi g l) ∧ Aside0 (Kd.R (Kd.int .i64) 2 wi w.heap.size (fun q => q < g) (.slice (some au) us.length cu) us) ∧ Aside0 (Kd.R (Kd.int .i64) 2 wi w.heap.size (fun q => q < g) (.slice (some ad) ds.length cd) ds) ∧ Aside0 (Below w.heap.size w wi))
            case atStart => exact ⟨rfl, q0, HU, HD, HB⟩
            case round =>
              clear q0 HU HD HB HR hxu hxd HXU HXD
              obtain ⟨rfl, HR, HU, HD, HB⟩ := hrel
              obtain ⟨au', heu, hxu⟩ := Kd.at_int (Kd.R_reads' HU.out).2.2 (i : Int) (by omega) (by omega)
              obtain ⟨ad', hed, hxd⟩ := Kd.at_int (Kd.R_reads' HD.out).2.2 (i : Int) (by omega) (by rw [HDL.out]; omega)
              obtain rfl := Option.some.inj heu
              obtain rfl := Option.some.inj hed
              rw [HRU.out, Int.toNat_natCast] at hxu
              rw [HRD.out, Int.toNat_natCast, Int.natCast_add] at hxd
              clear heu hed
              have hlt1 : i < us.length := hlt
              have hlt2 : i < ds.length := by rw [HDL.out]; exact hlt
              have d1 : decide ((a : Int) < (a : Int) + (n : Int)) = true := decide_eq_true (by omega)
              have d2 : decide (t ≤ (n : Int)) = false := decide_eq_false hnt
              have HNT := Aside0.mk hnt
              go_wp2
              go_quiet (fail)
              go_wp2
              go_roundg g1
              case measure => omega
              case rel => exact ⟨i + 1, by go_num, ⟨by have := HE.out; omega⟩, ⟨by rw [HNX.out]; unfold raiseS; rw [if_neg (by first | exact HNT.out | exact Int.not_le.mpr HNT.out)]; exact HR.out.move rfl⟩, ⟨Kd.R_drewN HU.out nq⟩, ⟨Kd.R_drewN HD.out nq⟩, ⟨pw_below_drewN HB.out nq⟩⟩
        · have e : i = us.length := by have := HE.out; omega
          subst e
          have hR := HR.out
          have hpl : (pz us ds).length = us.length := by unfold pz; rw [List.length_zipWith, HDL.out, Nat.min_self]
          rw [List.take_of_length_le (by omega)] at hR
          have hl : (raiseL t (List.replicate s.size 48) (pz us ds)).length = s.size := by rw [raiseL_len, List.length_replicate]
          have hcv := hR.string (P := Tryd.prog) Tryd.underlying28 Tryd.underlying5 Tryd.underlying9 s.size
          rw [hl] at hcv
          clear hl hpl
          go_wp2
          go_ret2
          exact ⟨rfl, HB.out⟩
def spec_DropPulses.f (k : Nat) (a0 : ByteArray) (a1 : Int) : Option (ByteArray × Bool) :=
  if a0.size < k ∧ a0.size ≤ 140737488351232 then (impl_isFilter.f a0 a1).bind fun t => if t = true then some (strOfNums (raiseL a1 (List.replicate a0.size 48) (pz (edg a0 49 a0.size) (dns a0))), true) else some (⟨#[]⟩, false) else none
theorem spec_DropPulses.mono : ∀ a0 a1 k, LeO (spec_DropPulses.f k a0 a1) (spec_DropPulses.f (k + 1) a0 a1) := by
  intro a0 a1 k r h
  unfold spec_DropPulses.f at h ⊢
  by_cases hk : a0.size < k ∧ a0.size ≤ 140737488351232
  · rw [if_pos hk] at h; rw [if_pos ⟨by omega, hk.2⟩]; exact h
  · rw [if_neg hk] at h; cases h
theorem spec_DropPulses.calls (k : Nat) (a0 : ByteArray) (a1 : Int) (r1 : ByteArray) (r2 : Bool) (w : World) (h : spec_DropPulses.f k a0 a1 = some (r1, r2)) :
    Calls Tryd.prog 7 #[.string a0, .int .i64 a1] w fun e w' => e = .returned (.tuple #[.string r1, .bool r2]) ∧ Below w.heap.size w w' := by
  unfold spec_DropPulses.f at h
  by_cases hk : a0.size < k ∧ a0.size ≤ 140737488351232
  · rw [if_pos hk] at h
    obtain ⟨t, ht, h⟩ := Option.bind_eq_some_iff.mp h
    have ht' := (filter_eq k a0 a1 hk.2 hk.1).trans ht
    cases t with
    | false =>
      rw [if_neg (by simp)] at h
      simp only [Option.some.injEq, Prod.mk.injEq] at h
      obtain ⟨rfl, rfl⟩ := h
      exact DropS_no a0 a1 k w ht'
    | true =>
      rw [if_pos rfl] at h
      simp only [Option.some.injEq, Prod.mk.injEq] at h
      obtain ⟨rfl, rfl⟩ := h
      obtain ⟨hs, hL, h1, h2⟩ := isFilter_true ht
      have hr := runs_all a0 hL
      exact DropS_yes a0 a1 _ _ k (spans_of a0 _ _ hr) (Nat.le_trans (edg_len _ _ _) hs) hr.len.symm hs h1 h2 w ht' (l07_eq k a0 (by omega) hk.1)
  · rw [if_neg hk] at h; cases h
end Go.Proofs.YtpmdiolkhmfphaaDoor.X

/- The plain law of DropPulses: dropping what is short, and raising what is long, come to the same. Conditions: waves. -/
namespace Go.Proofs.YtpmdiolkhmfphaaDoor.X
open Go.RowKit Go.Proofs.YtpmdiolkhmfphaaDoorW.PrintWords Go.Proofs.YtpmdiolkhmfphaaDoorW.PrintLast Go.Proofs.YtpmdiolkhmfphaaDoorW.PrintMore
set_option linter.unusedVariables false
set_option linter.unusedSimpArgs false
abbrev Pin (ps : List S32) (a n : Nat) : Prop := (⟨(a : Int), (n : Int)⟩ : S32) ∈ ps
theorem pin_cons {ps : List S32} {a n a' n' : Nat} (h : Pin (⟨(a : Int), (n : Int)⟩ :: ps) a' n') : (a' = a ∧ n' = n) ∨ Pin ps a' n' := by
  rcases List.mem_cons.1 h with h | h
  · injection h with e1 e2
    exact .inl ⟨by omega, by omega⟩
  · exact .inr h
theorem dropL_out (t : Int) (j : Nat) : ∀ (ps : List S32) (l : List Int), (∀ p ∈ ps, ∃ a n : Nat, p = ⟨(a : Int), (n : Int)⟩ ∧ a + n ≤ l.length) → (∀ a n : Nat, Pin ps a n → (n : Int) < t → ¬ (a ≤ j ∧ j < a + n)) → (dropL t l ps)[j]? = l[j]?
  | [], l, _, _ => rfl
  | p :: ps, l, hin, h => by
    obtain ⟨a, n, rfl, han⟩ := hin p List.mem_cons_self
    show (dropL t (dropS t l _) ps)[j]? = _
    rw [dropL_out t j ps (dropS t l ⟨(a : Int), (n : Int)⟩) (fun p hp => by rw [dropS_len]; exact hin p (List.mem_cons_of_mem _ hp)) (fun a n hp => h a n (List.mem_cons_of_mem _ hp))]
    show (if (n : Int) < t then fillN l a 48 n else l)[j]? = _
    by_cases h2 : (n : Int) < t
    · rw [if_pos h2, fillN_get _ _ _ _ _ han, if_neg (h a n List.mem_cons_self h2)]
    · rw [if_neg h2]
theorem dropL_stay (t : Int) (j : Nat) : ∀ (ps : List S32) (l : List Int), (∀ p ∈ ps, ∃ a n : Nat, p = ⟨(a : Int), (n : Int)⟩ ∧ a + n ≤ l.length) → l[j]? = some 48 → (dropL t l ps)[j]? = some 48
  | [], l, _, h => h
  | p :: ps, l, hin, h => by
    obtain ⟨a, n, rfl, han⟩ := hin p List.mem_cons_self
    refine dropL_stay t j ps (dropS t l ⟨(a : Int), (n : Int)⟩) (fun p hp => by rw [dropS_len]; exact hin p (List.mem_cons_of_mem _ hp)) ?_
    show (if (n : Int) < t then fillN l a 48 n else l)[j]? = _
    by_cases h2 : (n : Int) < t
    · rw [if_pos h2, fillN_get _ _ _ _ _ han]
      split
      · rfl
      · exact h
    · rw [if_neg h2]; exact h
theorem dropL_in (t : Int) (j : Nat) : ∀ (ps : List S32) (l : List Int), (∀ p ∈ ps, ∃ a n : Nat, p = ⟨(a : Int), (n : Int)⟩ ∧ a + n ≤ l.length) → ∀ a n : Nat, Pin ps a n → (n : Int) < t → a ≤ j → j < a + n → (dropL t l ps)[j]? = some 48
  | [], l, _, a, n, h, _, _, _ => by simp [Pin] at h
  | p :: ps, l, hin, a', n', h, h1, h2, h3 => by
    obtain ⟨a, n, rfl, han⟩ := hin p List.mem_cons_self
    have hin2 : ∀ p ∈ ps, ∃ a' n' : Nat, p = ⟨(a' : Int), (n' : Int)⟩ ∧ a' + n' ≤ (dropS t l ⟨(a : Int), (n : Int)⟩).length := fun p hp => by rw [dropS_len]; exact hin p (List.mem_cons_of_mem _ hp)
    rcases pin_cons h with ⟨rfl, rfl⟩ | h
    · refine dropL_stay t j ps (dropS t l ⟨(a' : Int), (n' : Int)⟩) hin2 ?_
      show (if (n' : Int) < t then fillN l a' 48 n' else l)[j]? = _
      rw [if_pos h1, fillN_get _ _ _ _ _ han, if_pos ⟨h2, h3⟩]
    · exact dropL_in t j ps (dropS t l ⟨(a : Int), (n : Int)⟩) hin2 a' n' h h1 h2 h3
theorem raiseL_out (t : Int) (j : Nat) : ∀ (ps : List S32) (l : List Int), (∀ p ∈ ps, ∃ a n : Nat, p = ⟨(a : Int), (n : Int)⟩ ∧ a + n ≤ l.length) → (∀ a n : Nat, Pin ps a n → t ≤ (n : Int) → ¬ (a ≤ j ∧ j < a + n)) → (raiseL t l ps)[j]? = l[j]?
  | [], l, _, _ => rfl
  | p :: ps, l, hin, h => by
    obtain ⟨a, n, rfl, han⟩ := hin p List.mem_cons_self
    show (raiseL t (raiseS t l _) ps)[j]? = _
    rw [raiseL_out t j ps (raiseS t l ⟨(a : Int), (n : Int)⟩) (fun p hp => by rw [raiseS_len]; exact hin p (List.mem_cons_of_mem _ hp)) (fun a n hp => h a n (List.mem_cons_of_mem _ hp))]
    show (if t ≤ (n : Int) then fillN l a 49 n else l)[j]? = _
    by_cases h2 : t ≤ (n : Int)
    · rw [if_pos h2, fillN_get _ _ _ _ _ han, if_neg (h a n List.mem_cons_self h2)]
    · rw [if_neg h2]
theorem raiseL_stay (t : Int) (j : Nat) : ∀ (ps : List S32) (l : List Int), (∀ p ∈ ps, ∃ a n : Nat, p = ⟨(a : Int), (n : Int)⟩ ∧ a + n ≤ l.length) → l[j]? = some 49 → (raiseL t l ps)[j]? = some 49
  | [], l, _, h => h
  | p :: ps, l, hin, h => by
    obtain ⟨a, n, rfl, han⟩ := hin p List.mem_cons_self
    refine raiseL_stay t j ps (raiseS t l ⟨(a : Int), (n : Int)⟩) (fun p hp => by rw [raiseS_len]; exact hin p (List.mem_cons_of_mem _ hp)) ?_
    show (if t ≤ (n : Int) then fillN l a 49 n else l)[j]? = _
    by_cases h2 : t ≤ (n : Int)
    · rw [if_pos h2, fillN_get _ _ _ _ _ han]
      split
      · rfl
      · exact h
    · rw [if_neg h2]; exact h
theorem raiseL_in (t : Int) (j : Nat) : ∀ (ps : List S32) (l : List Int), (∀ p ∈ ps, ∃ a n : Nat, p = ⟨(a : Int), (n : Int)⟩ ∧ a + n ≤ l.length) → ∀ a n : Nat, Pin ps a n → t ≤ (n : Int) → a ≤ j → j < a + n → (raiseL t l ps)[j]? = some 49
  | [], l, _, a, n, h, _, _, _ => by simp [Pin] at h
  | p :: ps, l, hin, a', n', h, h1, h2, h3 => by
    obtain ⟨a, n, rfl, han⟩ := hin p List.mem_cons_self
    have hin2 : ∀ p ∈ ps, ∃ a' n' : Nat, p = ⟨(a' : Int), (n' : Int)⟩ ∧ a' + n' ≤ (raiseS t l ⟨(a : Int), (n : Int)⟩).length := fun p hp => by rw [raiseS_len]; exact hin p (List.mem_cons_of_mem _ hp)
    rcases pin_cons h with ⟨rfl, rfl⟩ | h
    · refine raiseL_stay t j ps (raiseS t l ⟨(a' : Int), (n' : Int)⟩) hin2 ?_
      show (if t ≤ (n' : Int) then fillN l a' 49 n' else l)[j]? = _
      rw [if_pos h1, fillN_get _ _ _ _ _ han, if_pos ⟨h2, h3⟩]
    · exact raiseL_in t j ps (raiseS t l ⟨(a : Int), (n : Int)⟩) hin2 a' n' h h1 h2 h3
/-- What a pulse of the list is. -/
def Pls (s : ByteArray) (a n : Nat) : Prop := 0 < n ∧ a + n ≤ s.size ∧ (∀ i : Nat, a ≤ i → i < a + n → bt s (i : Int) = 49) ∧ (a + n < s.size → bt s ((a + n : Nat) : Int) = 48)
theorem pz_pls (s : ByteArray) : ∀ us ds : List Int, Runs s us ds → ∀ a n : Nat, Pin (pz us ds) a n → (a : Int) ∈ us ∧ Pls s a n
  | [], [], _, a, n, h => by simp [Pin, pz] at h
  | u :: us, d :: ds, hr, a, n, h => by
    rw [show pz (u :: us) (d :: ds) = ⟨u, d - u⟩ :: pz us ds from rfl] at h
    obtain ⟨a', b', rfl, rfl, h1, h2, h3, h4⟩ := hr.1
    rcases List.mem_cons.1 h with h | h
    · injection h with e1 e2
      obtain rfl : a = a' := by omega
      obtain rfl : b' = a + n := by omega
      exact ⟨List.mem_cons_self, by omega, h2, h3, h4⟩
    · obtain ⟨h5, h6⟩ := pz_pls s us ds hr.2 a n h
      exact ⟨List.mem_cons_of_mem _ h5, h6⟩
  | [], _ :: _, h, _, _, _ => h.elim
  | _ :: _, [], h, _, _, _ => h.elim
theorem pz_has (s : ByteArray) : ∀ us ds : List Int, Runs s us ds → ∀ a : Nat, (a : Int) ∈ us → ∃ n : Nat, Pin (pz us ds) a n
  | [], [], _, a, h => by simp at h
  | u :: us, d :: ds, hr, a, h => by
    obtain ⟨a', b', rfl, rfl, h1, h2, h3, h4⟩ := hr.1
    rcases List.mem_cons.1 h with h | h
    · obtain rfl : a = a' := by omega
      refine ⟨b' - a, ?_⟩
      show _ ∈ (⟨(a : Int), (b' : Int) - (a : Int)⟩ : S32) :: pz us ds
      rw [show ((b' - a : Nat) : Int) = (b' : Int) - (a : Int) by omega]
      exact List.mem_cons_self
    · obtain ⟨n, hn⟩ := pz_has s us ds hr.2 a h
      exact ⟨n, List.mem_cons_of_mem _ hn⟩
  | [], _ :: _, h, _, _ => h.elim
  | _ :: _, [], h, _, _ => h.elim
/-- A high level lies in a pulse. -/
theorem covered_at (s : ByteArray) (hL : Lev s) : ∀ n : Nat, n ≤ s.size → ∀ j : Nat, j < n → bt s (j : Int) = 49 → ∃ u : Nat, u ≤ j ∧ isE s 49 u = true ∧ ∀ i : Nat, u ≤ i → i ≤ j → bt s (i : Int) = 49
  | 0, _, j, hj, _ => absurd hj (by omega)
  | n + 1, hn, j, hj, h1 => by
    rcases Nat.lt_or_ge j n with h | h
    · exact covered_at s hL n (by omega) j h h1
    · obtain rfl : j = n := by omega
      by_cases hp : prv s j = 49
      · have hj0 : j ≠ 0 := by
          rintro rfl
          unfold prv at hp
          simp at hp
        obtain ⟨j', rfl⟩ : ∃ j', j = j' + 1 := ⟨j - 1, by omega⟩
        rw [prv_succ] at hp
        obtain ⟨u, hu, he, hall⟩ := covered_at s hL (j' + 1) (by omega) j' (by omega) hp
        refine ⟨u, by omega, he, fun i hi1 hi2 => ?_⟩
        rcases Nat.lt_or_ge i (j' + 1) with h3 | h3
        · exact hall i hi1 (by omega)
        · obtain rfl : i = j' + 1 := by omega
          exact h1
      · refine ⟨j, Nat.le_refl _, ?_, fun i hi1 hi2 => ?_⟩
        · unfold isE
          simp [h1, hp]
        · obtain rfl : i = j := by omega
          exact h1
/-- The pulses of a wave. -/
def pls (s : ByteArray) : List S32 := pz (edg s 49 s.size) (dns s)
theorem pls_is (s : ByteArray) (hL : Lev s) (a n : Nat) (h : Pin (pls s) a n) : isE s 49 a = true ∧ Pls s a n := by
  obtain ⟨h1, h2⟩ := pz_pls s _ _ (runs_all s hL) a n h
  obtain ⟨i, _, h3, h4⟩ := (edg_mem s 49 s.size _).1 h1
  obtain rfl : a = i := by omega
  exact ⟨h3, h2⟩
theorem isE_prv {s : ByteArray} {a : Nat} (h : isE s 49 a = true) : bt s (a : Int) = 49 ∧ prv s a ≠ 49 := by
  unfold isE at h
  simpa using h
theorem pls_one (s : ByteArray) (hL : Lev s) (j a n a' n' : Nat) (h : Pin (pls s) a n) (h' : Pin (pls s) a' n') (h1 : a ≤ j) (h2 : j < a + n) (h3 : a' ≤ j) (h4 : j < a' + n') : a = a' ∧ n = n' := by
  obtain ⟨e, p0, p1, p2, p3⟩ := pls_is s hL a n h
  obtain ⟨e', q0, q1, q2, q3⟩ := pls_is s hL a' n' h'
  have half : ∀ a n a' : Nat, (∀ i : Nat, a ≤ i → i < a + n → bt s (i : Int) = 49) → isE s 49 a' = true → a < a' → a' ≤ a + n → False := by
    intro a n a' hp he hlt hle
    obtain ⟨a'', rfl⟩ : ∃ a'', a' = a'' + 1 := ⟨a' - 1, by omega⟩
    have := (isE_prv he).2
    rw [prv_succ] at this
    exact this (hp a'' (by omega) (by omega))
  have ea : a = a' := by
    rcases Nat.lt_trichotomy a a' with h5 | h5 | h5
    · exact (half a n a' p2 e' h5 (by omega)).elim
    · exact h5
    · exact (half a' n' a q2 e h5 (by omega)).elim
  subst ea
  refine ⟨rfl, ?_⟩
  rcases Nat.lt_trichotomy n n' with h5 | h5 | h5
  · have := q2 (a + n) (by omega) (by omega)
    rw [p3 (by omega)] at this
    cases this
  · exact h5
  · have := p2 (a + n') (by omega) (by omega)
    rw [q3 (by omega)] at this
    cases this
theorem pls_cover (s : ByteArray) (hL : Lev s) (j : Nat) (hj : j < s.size) (h : bt s (j : Int) = 49) : ∃ a n : Nat, Pin (pls s) a n ∧ a ≤ j ∧ j < a + n := by
  obtain ⟨u, hu, he, hall⟩ := covered_at s hL s.size (Nat.le_refl _) j hj h
  obtain ⟨n, hn⟩ := pz_has s _ _ (runs_all s hL) u ((edg_mem s 49 s.size _).2 ⟨u, by omega, he, rfl⟩)
  obtain ⟨_, q0, q1, q2, q3⟩ := pls_is s hL u n hn
  refine ⟨u, n, hn, hu, ?_⟩
  rcases Nat.lt_or_ge j (u + n) with h1 | h1
  · exact h1
  · have := hall (u + n) (by omega) h1
    rw [q3 (by omega)] at this
    cases this
theorem bytesOf_get (s : ByteArray) (j : Nat) (hj : j < s.size) : (bytesOf s)[j]? = some (bt s (j : Int)) := by
  rw [List.getElem?_eq_getElem (by rw [bytesOf_length]; exact hj)]
  rw [← rd_bytesOf, rd_nat _ _ (by rw [bytesOf_length]; exact hj)]
theorem pls_in (s : ByteArray) (hL : Lev s) (m : Nat) (hm : m = s.size) : ∀ p ∈ pls s, ∃ a n : Nat, p = ⟨(a : Int), (n : Int)⟩ ∧ a + n ≤ m := by
  subst hm
  exact pz_in s _ _ (runs_all s hL)
/-- What is left of a wave when short pulses are dropped, tick by tick. -/
theorem drop_at (s : ByteArray) (hL : Lev s) (t : Int) (j : Nat) (hj : j < s.size) : ∃ v : Int, (dropL t (bytesOf s) (pls s))[j]? = some v ∧ (raiseL t (List.replicate s.size 48) (pls s))[j]? = some v ∧
    ((v = 48 ∧ (bt s (j : Int) = 48 ∨ ∃ a n : Nat, Pin (pls s) a n ∧ a ≤ j ∧ j < a + n ∧ (n : Int) < t)) ∨ (v = 49 ∧ ∃ a n : Nat, Pin (pls s) a n ∧ a ≤ j ∧ j < a + n ∧ t ≤ (n : Int))) := by
  have i1 := pls_in s hL (bytesOf s).length (bytesOf_length s)
  have i2 := pls_in s hL (List.replicate s.size (48 : Int)).length (by simp)
  have hrep : (List.replicate s.size (48 : Int))[j]? = some 48 := by rw [List.getElem?_replicate, if_pos hj]
  rcases hL j hj with hb | hb
  · have hno : ∀ a n : Nat, Pin (pls s) a n → ¬ (a ≤ j ∧ j < a + n) := fun a n hp hc => by
      obtain ⟨_, _, _, q2, _⟩ := pls_is s hL a n hp
      have := q2 j hc.1 hc.2
      rw [hb] at this
      cases this
    exact ⟨48, by rw [dropL_out t j _ _ i1 (fun a n hp _ => hno a n hp), bytesOf_get s j hj, hb], by rw [raiseL_out t j _ _ i2 (fun a n hp _ => hno a n hp), hrep], .inl ⟨rfl, .inl hb⟩⟩
  · obtain ⟨a, n, hp, h1, h2⟩ := pls_cover s hL j hj hb
    have huni : ∀ a' n' : Nat, Pin (pls s) a' n' → a' ≤ j ∧ j < a' + n' → n' = n := fun a' n' hp' hc => (pls_one s hL j a' n' a n hp' hp hc.1 hc.2 h1 h2).2
    rcases Int.lt_or_le (n : Int) t with h3 | h3
    · refine ⟨48, dropL_in t j _ _ i1 a n hp h3 h1 h2, ?_, .inl ⟨rfl, .inr ⟨a, n, hp, h1, h2, h3⟩⟩⟩
      rw [raiseL_out t j _ _ i2 (fun a' n' hp' ht hc => by have := huni a' n' hp' hc; subst this; omega), hrep]
    · refine ⟨49, ?_, raiseL_in t j _ _ i2 a n hp h3 h1 h2, .inr ⟨rfl, a, n, hp, h1, h2, h3⟩⟩
      rw [dropL_out t j _ _ i1 (fun a' n' hp' ht hc => by have := huni a' n' hp' hc; subst this; omega), bytesOf_get s j hj, hb]
theorem drop_same (s : ByteArray) (hL : Lev s) (t : Int) : dropL t (bytesOf s) (pls s) = raiseL t (List.replicate s.size 48) (pls s) := by
  apply List.ext_getElem?
  intro j
  rcases Nat.lt_or_ge j s.size with hj | hj
  · obtain ⟨v, h1, h2, _⟩ := drop_at s hL t j hj
    rw [h1, h2]
  · rw [List.getElem?_eq_none (by rw [dropL_len, bytesOf_length]; exact hj), List.getElem?_eq_none (by rw [raiseL_len, List.length_replicate]; exact hj)]
end Go.Proofs.YtpmdiolkhmfphaaDoor.X

/- The program's FillGaps: what it answers. Conditions: none. -/
namespace Go.Proofs.YtpmdiolkhmfphaaDoor.X
open Go.RowKit Go.Proofs.YtpmdiolkhmfphaaDoorW.PrintWords Go.Proofs.YtpmdiolkhmfphaaDoorW.PrintLast Go.Proofs.YtpmdiolkhmfphaaDoorW.PrintMore
set_option linter.unusedVariables false
set_option linter.unusedSimpArgs false
/-- The gaps between pulses; what FillGaps does with one, and with all. -/
def gz (us ds : List Int) : List S32 := pz ds us.tail
def gapS (t : Int) (l : List Int) (p : S32) : List Int := if p.f1 < t then fillN l p.f0.toNat 49 p.f1.toNat else l
def gapL (t : Int) (l : List Int) (ps : List S32) : List Int := ps.foldl (gapS t) l
theorem gapS_len (t : Int) (l : List Int) (p : S32) : (gapS t l p).length = l.length := by unfold gapS; split <;> simp [fillN_len]
theorem gapL_len (t : Int) (ps : List S32) : ∀ l : List Int, (gapL t l ps).length = l.length := by
  induction ps with
  | nil => intro l; rfl
  | cons p r ih => intro l; show (gapL t (gapS t l p) r).length = _; rw [ih, gapS_len]
theorem gapL_snoc (t : Int) (l : List Int) (ps : List S32) (i : Nat) (h : i < ps.length) : gapL t l (ps.take (i + 1)) = gapS t (gapL t l (ps.take i)) ps[i] := by
  unfold gapL
  rw [List.take_succ_eq_append_getElem h, List.foldl_append]; rfl
/-- Two pulses that follow each other, and the gap between them. -/
def Gaps (s : ByteArray) (us ds : List Int) : Prop := ∀ i, i + 1 < us.length → ∃ a n b m : Nat, us[i]? = some (a : Int) ∧ ds[i]? = some ((a + n : Nat) : Int) ∧ us[i + 1]? = some (b : Int) ∧ (pz us ds)[i]? = some ⟨(a : Int), (n : Int)⟩ ∧ (pz us ds)[i + 1]? = some ⟨(b : Int), (m : Int)⟩ ∧ (gz us ds)[i]? = some ⟨((a + n : Nat) : Int), ((b - (a + n) : Nat) : Int)⟩ ∧ a + n ≤ b ∧ b ≤ s.size
theorem gaps_of (s : ByteArray) (hL : Lev s) : Gaps s (edg s 49 s.size) (dns s) := by
  have hr := runs_all s hL
  have hsp := spans_of s _ _ hr
  intro i hi
  obtain ⟨a, n, h1, h2, h3, h4, h5⟩ := hsp i (by omega)
  obtain ⟨b, m, k1, k2, k3, k4, k5⟩ := hsp (i + 1) hi
  have hlt : a < b := by
    -- the begins rise
    have : (edg s 49 s.size).Pairwise (· < ·) := by
      unfold edg
      rw [List.pairwise_map]
      refine List.Pairwise.imp (fun h => by omega) (List.Pairwise.filter _ List.pairwise_lt_range)
    have hp := List.pairwise_iff_getElem.1 this i (i + 1) (by omega) hi (by omega)
    rw [(List.getElem?_eq_some_iff.1 h1).2, (List.getElem?_eq_some_iff.1 k1).2] at hp
    omega
  have hle : a + n ≤ b := by
    rcases Nat.lt_or_ge b (a + n) with h6 | h6
    · exfalso
      -- b is the begin of a pulse, and lies within the one before
      have hb : isE s 49 b = true := by
        obtain ⟨q, _, h7, h8⟩ := (edg_mem s 49 s.size (b : Int)).1 (List.mem_of_getElem? k1)
        obtain rfl : b = q := by omega
        exact h7
      have hpv : prv s b ≠ 49 := by
        unfold isE at hb
        simp at hb
        exact hb.2
      have hall : ∀ q : Nat, a ≤ q → q < a + n → bt s (q : Int) = 49 := by
        have : ∀ us ds : List Int, Runs s us ds → ∀ i a n : Nat, us[i]? = some (a : Int) → ds[i]? = some ((a + n : Nat) : Int) → ∀ q : Nat, a ≤ q → q < a + n → bt s (q : Int) = 49 := by
          intro us
          induction us with
          | nil => intro ds _ i a n h; simp at h
          | cons u us ih =>
            intro ds hr i a n h h'
            cases ds with
            | nil => exact hr.elim
            | cons d ds =>
              cases i with
              | zero =>
                obtain ⟨a', b', rfl, rfl, _, _, h9, _⟩ := hr.1
                have e1 : (a' : Int) = a := by simpa using h
                have e2 : (b' : Int) = ((a + n : Nat) : Int) := by simpa using h'
                intro q hq1 hq2
                exact h9 q (by omega) (by omega)
              | succ i => exact ih ds hr.2 i a n (by simpa using h) (by simpa using h')
        exact this _ _ hr i a n h1 h2
      obtain ⟨b', rfl⟩ : ∃ b', b = b' + 1 := ⟨b - 1, by omega⟩
      rw [prv_succ] at hpv
      exact hpv (hall b' (by omega) (by omega))
    · exact h6
  refine ⟨a, n, b, m, h1, h2, k1, h3, k3, ?_, hle, by omega⟩
  unfold gz pz
  rw [List.getElem?_zipWith, h2, List.getElem?_tail, k1]
  simp
  omega
theorem gz_len (us ds : List Int) (h : ds.length = us.length) : (gz us ds).length = us.length - 1 := by
  unfold gz pz
  rw [List.length_zipWith, List.length_tail]
  omega
set_option maxHeartbeats 4000000 in
set_option maxRecDepth 100000 in
theorem Fill_no (s : ByteArray) (t : Int) (w : World) (h1 : impl_isFilter.f s t = some false) :
    Calls Tryd.prog 6 #[.string s, .int .i64 t] w fun e w' => e = .returned (.tuple #[.string ⟨#[]⟩, .bool false]) ∧ Below w.heap.size w w' := by
  have H1 := Aside0.mk h1
  clear h1
  go_enter Tryd.func6, Tryd.ntmps6
  go_wp2_with (go_at_call 11; (with_reducible refine (impl_isFilter.calls s t false _ H1.out).mono ?_); rintro e wn ⟨rfl, hb0⟩; (first | have hb := to_below_d hb0 | have hb := to_below_b hb0); have HB := Aside0.mk hb; clear hb hb0)
  go_ret2
  exact ⟨rfl, HB.out⟩
set_option maxHeartbeats 8000000 in
set_option maxRecDepth 100000 in
theorem Fill_yes (s : ByteArray) (t : Int) (us ds : List Int) (ps : List S32) (k : Nat) (hps : ps = pz us ds) (hin : Gaps s us ds) (hlen : ps.length ≤ 400) (hdl : ds.length = us.length) (w : World) (h1 : impl_isFilter.f s t = some true) (h2 : impl_pulses.f k s = some ps) :
    Calls Tryd.prog 6 #[.string s, .int .i64 t] w fun e w' => e = .returned (.tuple #[.string (strOfNums (gapL t (bytesOf s) (gz us ds))), .bool true]) ∧ Below w.heap.size w w' := by
  obtain ⟨hs, hL, ht1, ht2⟩ := isFilter_true h1
  have hpl : ps.length = us.length := by rw [hps]; unfold pz; rw [List.length_zipWith, hdl, Nat.min_self]
  have H1 := Aside0.mk h1
  have H2 := Aside0.mk h2
  have HIN := Aside0.mk hin
  have HPS := Aside0.mk hps
  have HPL := Aside0.mk hpl
  have HGL := Aside0.mk (gz_len us ds hdl)
  clear h1 h2 hin hL hps hpl hdl
  have hcv := fun W : World => print_bytes (P := Tryd.prog) 9 28 5 Tryd.underlying9 Tryd.underlying28 Tryd.underlying5 s W
  have HCV := Aside0.mk hcv
  clear hcv
  have HBL0 := Aside0.mk (bytesOf_length s)
  go_enter Tryd.func6, Tryd.ntmps6
  go_wp2_with (first
    | (go_at_call 11; (with_reducible refine (impl_isFilter.calls s t true _ H1.out).mono ?_); rintro e w1 ⟨rfl, hb0⟩; (first | have hb := to_below_d hb0 | have hb := to_below_b hb0); have HB := Aside0.mk hb; clear hb hb0; have hcv := HCV.out w1)
    | (go_at_call 12; (with_reducible refine (impl_pulses.calls k s ps _ H2.out).mono ?_); rintro e w2 ⟨v2, rfl, ho0, hb⟩; have g1 := BRow.of_bytes w1 5 s; obtain ⟨g, hg⟩ : ∃ g, g = w1.heap.size := ⟨_, rfl⟩; rw [← hg] at g1; have hgl := g1.lt; have HR := Aside0.mk (g1.below hb); have HGW := Aside0.mk (show w.heap.size ≤ g by rw [hg]; exact below_size HB.out); have HO := Aside0.mk (Kd.R_mono (Kd.R_lower (Kd.R_bound ho0) (below_size (bytes_below HB.out (below_size HB.out) 5 s))) (ok' := fun q => g < q) (fun q hq => Nat.lt_of_lt_of_le hgl hq.2.1)); have n0_ := Aside0.mk (below_step (bytes_below HB.out (below_size HB.out) 5 s) hb); clear HB g1 hgl hb ho0 hcv; have HB := n0_; clear n0_; have HG := Aside0.mk hg; clear hg; obtain ⟨Ao, co, eo⟩ := Kd.R_slice HO.out; subst eo))
  rw [← HG.out]
  clear HCV H1 H2 HG
  obtain ⟨cp, hcp⟩ : ∃ cp, grownCap w1 s.size 0 5 = cp := ⟨_, rfl⟩
  rw [hcp]
  clear hcp
  go_loopg [8] ps.length (fun kq v8 wr => ∃ i : Nat, v8 = .int .i64 ((i : Int) + 1) ∧ Aside0 (i + kq = ps.length) ∧ Aside0 (BRow wr g (gapL t (bytesOf s) ((gz us ds).take i))) ∧ Aside0 (Kd.R k32 32 wr w.heap.size (fun q => g < q) (.slice Ao ps.length co) ps) ∧ Aside0 (Below w.heap.size w wr))
  case atStart => exact ⟨0, rfl, ⟨by omega⟩, HR, HO, HB⟩
  case round =>
    clear HR HO HB
    obtain ⟨i, rfl, HE, HR, HO, HB⟩ := hrel
    by_cases hlt : i + 1 < ps.length
    · cases gk with
      | zero => have := HE.out; omega
      | succ g1 =>
      obtain ⟨a, n, b, m, e1, e2, e3, e4, e5, e6, hab, hbs⟩ := HIN.out i (by rw [← HPL.out]; exact hlt)
      rw [← HPS.out] at e4 e5
      have r4 := (List.getElem?_eq_some_iff.1 e4).2
      have r5 := (List.getElem?_eq_some_iff.1 e5).2
      have rt : ∀ (q : Nat) (v : S32), ps[q]? = some v → rd_T32 ps (q : Int) = v := fun q v h => by
        unfold rd_T32
        rw [Int.toNat_natCast, List.getD_eq_getElem?_getD, h, Option.getD_some]
      obtain ⟨ad, he, hx0, hx1⟩ := at_T32 (Kd.R_reads' HO.out).2.2 (i : Int) (by omega) (by omega)
      obtain ⟨ad', he', hy0, hy1⟩ := at_T32 (Kd.R_reads' HO.out).2.2 ((i + 1 : Nat) : Int) (by omega) (by omega)
      rw [rt i _ e4, Int.toNat_natCast] at hx0 hx1
      rw [rt (i + 1) _ e5, Int.toNat_natCast] at hy0 hy1
      have hae := he.symm.trans he'
      obtain rfl := Option.some.inj hae
      subst he
      obtain ⟨l, hl⟩ : ∃ l, l = gapL t (bytesOf s) ((gz us ds).take i) := ⟨_, rfl⟩
      have HLL : Aside0 (l.length = s.size) := ⟨by rw [hl, gapL_len, HBL0.out]⟩
      have HPZ : i < (gz us ds).length := (List.getElem?_eq_some_iff.1 e6).1
      have HNX : Aside0 (gapL t (bytesOf s) ((gz us ds).take (i + 1)) = gapS t l ⟨((a + n : Nat) : Int), ((b - (a + n) : Nat) : Int)⟩) := ⟨by rw [gapL_snoc t _ _ i HPZ, hl, (List.getElem?_eq_some_iff.1 e6).2]⟩
      rw [← hl] at HR
      have RT4 := Aside0.mk (rt i _ e4)
      have RT5 := Aside0.mk (rt (i + 1) _ e5)
      clear e1 e2 e3 e4 e5 e6 r4 r5 hl HPZ he' hae rt
      have q0 := HR
      have q1 := HO
      have q2 := HB
      have s1 : IntKind.i64.wrap ((i : Int) + 1 - 1) = (i : Int) := by rw [IntWalk.i64_in _ ⟨by omega, by omega⟩]; omega
      have s2 : IntKind.i64.wrap ((a : Int) + (n : Int)) = ((a + n : Nat) : Int) := by rw [IntWalk.i64_in _ ⟨by omega, by omega⟩]; omega
      have hlt1 : i < ps.length := by omega
      go_wp2
      go_quiet (fail)
      go_wp2
      by_cases hnt : (((b - (a + n) : Nat) : Int) < t)
      · have HNT : Aside0 (((b - (a + n) : Nat) : Int) < t) := ⟨hnt⟩
        clear hnt
        go_loopg [10] (b - (a + n)) (fun kq v10 wi => ∃ j : Nat, v10 = .int .i64 ((a : Int) + (n : Int) + (j : Int)) ∧ Aside0 (j + kq = b - (a + n)) ∧ Aside0 (BRow wi g (fillN l (a + n) 49 j)) ∧ Aside0 (Kd.R k32 32 wi w.heap.size (fun q => g < q) (.slice (some ad) ps.length co) ps) ∧ Aside0 (Below w.heap.size w wi))
        case atStart => exact ⟨0, by simp, ⟨by omega⟩, ⟨q0.out.move rfl⟩, ⟨Kd.R_drewN q1.out nq⟩, ⟨pw_below_drewN q2.out nq⟩⟩
        case round =>
          clear q0 q1 q2 hx0 hx1 hy0 hy1 HR HO HB
          obtain ⟨j, rfl, HJ, HR, HO, HB⟩ := hrel
          obtain ⟨ad', he', hy0, hy1⟩ := at_T32 (Kd.R_reads' HO.out).2.2 ((i + 1 : Nat) : Int) (by omega) (by omega)
          rw [RT5.out, Int.toNat_natCast] at hy0 hy1
          obtain rfl := Option.some.inj he'
          clear he'
          by_cases hj : j < b - (a + n)
          · cases gk with
            | zero => have := HJ.out; omega
            | succ g2 =>
            have hll := HLL.out
            have hc := HR.out.cell (a + n + j) (by rw [fillN_len]; omega)
            have hf := HR.out.free (a + n + j) (by rw [fillN_len]; omega)
            have b1 : a + n + j < s.size := by omega
            have d1 : decide ((a : Int) + (n : Int) + (j : Int) < (b : Int)) = true := decide_eq_true (by omega)
            have d2 : decide ((b : Int) - ((a : Int) + (n : Int)) < t) = true := decide_eq_true (by have := HNT.out; omega)
            have c1 : (a : Int) + (n : Int) + (j : Int) < (b : Int) := by omega
            have sm : IntKind.i64.wrap ((b : Int) - ((a : Int) + (n : Int))) = (b : Int) - ((a : Int) + (n : Int)) := by rw [IntWalk.i64_in _ ⟨by omega, by omega⟩]
            clear hll
            go_wp2
            go_roundg g2
            case measure => omega
            case rel => exact ⟨j + 1, congrArg (Value.int .i64) (by omega), ⟨by have := HJ.out; omega⟩, ⟨HR.out.put (a + n + j) (by rw [fillN_len, HLL.out]; omega) 49⟩, ⟨Kd.R_far (p := ⟨g, a + n + j, none⟩) HO.out (fun q hq => by show q ≠ g; omega) _⟩, ⟨HB.out.setCell (p := ⟨g, a + n + j, none⟩) HGW.out _⟩⟩
          · have e : j = b - (a + n) := by have := HJ.out; omega
            have d1 : decide ((a : Int) + (n : Int) + (j : Int) < (b : Int)) = false := decide_eq_false (by omega)
            have c1 : ¬ (a : Int) + (n : Int) + (j : Int) < (b : Int) := by omega
            subst e
            go_wp2
            go_roundg g1
            case measure => omega
            case rel => exact ⟨i + 1, by go_num, ⟨by have := HE.out; omega⟩, ⟨by rw [HNX.out]; unfold gapS; rw [if_pos HNT.out]; exact HR.out⟩, HO, HB⟩
      · have HNT : Aside0 (¬ ((b - (a + n) : Nat) : Int) < t) := ⟨hnt⟩
        clear hnt
        go_loopg [10] (b - (a + n)) (fun kq v10 wi => ∃ j : Nat, v10 = .int .i64 ((a : Int) + (n : Int) + (j : Int)) ∧ Aside0 (j + kq = b - (a + n)) ∧ Aside0 (BRow wi g (l)) ∧ Aside0 (Kd.R k32 32 wi w.heap.size (fun q => g < q) (.slice (some ad) ps.length co) ps) ∧ Aside0 (Below w.heap.size w wi))
        case atStart => exact ⟨0, by simp, ⟨by omega⟩, ⟨q0.out.move rfl⟩, ⟨Kd.R_drewN q1.out nq⟩, ⟨pw_below_drewN q2.out nq⟩⟩
        case round =>
          clear q0 q1 q2 hx0 hx1 hy0 hy1 HR HO HB
          obtain ⟨j, rfl, HJ, HR, HO, HB⟩ := hrel
          obtain ⟨ad', he', hy0, hy1⟩ := at_T32 (Kd.R_reads' HO.out).2.2 ((i + 1 : Nat) : Int) (by omega) (by omega)
          rw [RT5.out, Int.toNat_natCast] at hy0 hy1
          obtain rfl := Option.some.inj he'
          clear he'
          by_cases hj : j < b - (a + n)
          · cases gk with
            | zero => have := HJ.out; omega
            | succ g2 =>
            have hll := HLL.out
            have b1 : a + n + j < s.size := by omega
            have d1 : decide ((a : Int) + (n : Int) + (j : Int) < (b : Int)) = true := decide_eq_true (by omega)
            have d2 : decide ((b : Int) - ((a : Int) + (n : Int)) < t) = false := decide_eq_false (by have := HNT.out; omega)
            have c1 : (a : Int) + (n : Int) + (j : Int) < (b : Int) := by omega
            have sm : IntKind.i64.wrap ((b : Int) - ((a : Int) + (n : Int))) = (b : Int) - ((a : Int) + (n : Int)) := by rw [IntWalk.i64_in _ ⟨by omega, by omega⟩]
            clear hll
            go_wp2
            go_roundg g2
            case measure => omega
            case rel => exact ⟨j + 1, congrArg (Value.int .i64) (by omega), ⟨by have := HJ.out; omega⟩, HR, HO, HB⟩
          · have e : j = b - (a + n) := by have := HJ.out; omega
            have d1 : decide ((a : Int) + (n : Int) + (j : Int) < (b : Int)) = false := decide_eq_false (by omega)
            have c1 : ¬ (a : Int) + (n : Int) + (j : Int) < (b : Int) := by omega
            subst e
            go_wp2
            go_roundg g1
            case measure => omega
            case rel => exact ⟨i + 1, by go_num, ⟨by have := HE.out; omega⟩, ⟨by rw [HNX.out]; unfold gapS; rw [if_neg (by first | exact HNT.out | exact Int.not_lt.mpr HNT.out)]; exact HR.out⟩, HO, HB⟩
    · have hR := HR.out
      have hgl := HGL.out
      rw [List.take_of_length_le (by have := HPL.out; have := HE.out; omega)] at hR
      have hl : (gapL t (bytesOf s) (gz us ds)).length = s.size := by rw [gapL_len, HBL0.out]
      have hcv := hR.string (P := Tryd.prog) Tryd.underlying28 Tryd.underlying5 Tryd.underlying9 cp
      rw [hl] at hcv
      clear hl hgl
      go_wp2
      go_ret2
      exact ⟨rfl, HB.out⟩
def impl_FillGaps.f (a0 : ByteArray) (a1 : Int) : Option (ByteArray × Bool) :=
  (impl_isFilter.f a0 a1).bind fun t => if t = true then some (strOfNums (gapL a1 (bytesOf a0) (gz (edg a0 49 a0.size) (dns a0))), true) else some (⟨#[]⟩, false)
theorem impl_FillGaps.calls (a0 : ByteArray) (a1 : Int) (r1 : ByteArray) (r2 : Bool) (w : World) (h : impl_FillGaps.f a0 a1 = some (r1, r2)) :
    Calls Tryd.prog 6 #[.string a0, .int .i64 a1] w fun e w' => e = .returned (.tuple #[.string r1, .bool r2]) ∧ Below w.heap.size w w' := by
  unfold impl_FillGaps.f at h
  obtain ⟨t, ht, h⟩ := Option.bind_eq_some_iff.mp h
  cases t with
  | false =>
    rw [if_neg (by simp)] at h
    simp only [Option.some.injEq, Prod.mk.injEq] at h
    obtain ⟨rfl, rfl⟩ := h
    exact Fill_no a0 a1 w ht
  | true =>
    rw [if_pos rfl] at h
    simp only [Option.some.injEq, Prod.mk.injEq] at h
    obtain ⟨rfl, rfl⟩ := h
    obtain ⟨hs, hL, _, _⟩ := isFilter_true ht
    exact Fill_yes a0 a1 _ _ _ 300001 rfl (gaps_of a0 hL) (Nat.le_trans (pz_len _ _) (Nat.le_trans (edg_len _ _ _) hs)) (runs_all a0 hL).len.symm w ht (pulses_eq 300001 a0 hs hL (by omega))
end Go.Proofs.YtpmdiolkhmfphaaDoor.X

/- The reference's FillGaps: what it answers. Conditions: waves. -/
namespace Go.Proofs.YtpmdiolkhmfphaaDoor.X
open Go.RowKit Go.Proofs.YtpmdiolkhmfphaaDoorW.PrintWords Go.Proofs.YtpmdiolkhmfphaaDoorW.PrintLast Go.Proofs.YtpmdiolkhmfphaaDoorW.PrintMore
set_option linter.unusedVariables false
set_option linter.unusedSimpArgs false
set_option maxHeartbeats 4000000 in
set_option maxRecDepth 100000 in
theorem FillS_no (s : ByteArray) (t : Int) (k : Nat) (w : World) (h1 : spec_l09Filter.f k s t = some false) :
    Calls Tryd.prog 5 #[.string s, .int .i64 t] w fun e w' => e = .returned (.tuple #[.string ⟨#[]⟩, .bool false]) ∧ Below w.heap.size w w' := by
  have H1 := Aside0.mk h1
  clear h1
  go_enter Tryd.func5, Tryd.ntmps5
  go_wp2_with (go_at_call 9; (with_reducible refine (spec_l09Filter.calls k s t false _ H1.out).mono ?_); rintro e wn ⟨rfl, hb0⟩; have hb := to_below_d hb0; have HB := Aside0.mk hb; clear hb hb0)
  go_ret2
  exact ⟨rfl, HB.out⟩
set_option maxHeartbeats 8000000 in
set_option maxRecDepth 100000 in
theorem FillS_yes (s : ByteArray) (t : Int) (us ds : List Int) (k : Nat) (hin : Gaps s us ds) (hlen : us.length ≤ 400) (hdl : ds.length = us.length) (hs : s.size ≤ 400) (ht1 : 1 ≤ t) (ht2 : t ≤ 50) (w : World) (h1 : spec_l09Filter.f k s t = some true) (h2 : spec_l07Pulses.f k s = some (us, ds)) :
    Calls Tryd.prog 5 #[.string s, .int .i64 t] w fun e w' => e = .returned (.tuple #[.string (strOfNums (gapL t (bytesOf s) (gz us ds))), .bool true]) ∧ Below w.heap.size w w' := by
  have H1 := Aside0.mk h1
  have H2 := Aside0.mk h2
  have HIN := Aside0.mk hin
  have HDL := Aside0.mk hdl
  have HGL := Aside0.mk (gz_len us ds hdl)
  clear h1 h2 hin hdl
  have hcv := fun W : World => print_bytes (P := Tryd.prog) 9 28 5 Tryd.underlying9 Tryd.underlying28 Tryd.underlying5 s W
  have HCV := Aside0.mk hcv
  clear hcv
  have HBL0 := Aside0.mk (bytesOf_length s)
  go_enter Tryd.func5, Tryd.ntmps5
  go_wp2_with (first
    | (go_at_call 9; (with_reducible refine (spec_l09Filter.calls k s t true _ H1.out).mono ?_); rintro e w1 ⟨rfl, hb0⟩; have hb := to_below_d hb0; have HB := Aside0.mk hb; clear hb hb0)
    | (go_at_call 10; (with_reducible refine (spec_l07Pulses.calls k s us ds _ H2.out).mono ?_); rintro e w2 ⟨v2, v3, rfl, ho0, ho1, hb⟩; obtain ⟨Au, cu, eo⟩ := Kd.R_slice ho0; subst eo; obtain ⟨Ad, cd, eo⟩ := Kd.R_slice ho1; subst eo; have HU := Aside0.mk (Kd.R_mono (Kd.R_lower (Kd.R_bound ho0) (below_size HB.out)) (ok' := fun q => q < w2.heap.size) (fun q hq => hq.2.2.1)); have HD := Aside0.mk (Kd.R_mono (Kd.R_lower (Kd.R_bound ho1) (below_size HB.out)) (ok' := fun q => q < w2.heap.size) (fun q hq => hq.2.2.1)); have n0_ := Aside0.mk (below_step HB.out hb); clear HB hb ho0 ho1; have HB := n0_; clear n0_; have hcv := HCV.out w2))
  obtain ⟨g, hg⟩ : ∃ g, g = w2.heap.size := ⟨_, rfl⟩
  have q0 := Aside0.mk (BRow.of_bytes w2 5 s)
  have qs := bytes_below (Below.refl w2.heap.size w2) (Nat.le_refl _) 5 s
  have q1 := Aside0.mk (Kd.R_below HU.out qs)
  have q2 := Aside0.mk (Kd.R_below HD.out qs)
  have q3 := Aside0.mk (bytes_below HB.out (below_size HB.out) 5 s)
  have HGW := Aside0.mk (show w.heap.size ≤ g by rw [hg]; exact below_size HB.out)
  rw [← hg] at q0 q1 q2 ⊢
  obtain ⟨cp, hcp⟩ : ∃ cp, grownCap w2 s.size 0 5 = cp := ⟨_, rfl⟩
  rw [hcp]
  clear hcp hg HU HD HB H1 H2 HCV hcv qs
  go_loopg [9] us.length (fun kq v9 wr => ∃ i : Nat, v9 = .int .i64 ((i : Int) + 1) ∧ Aside0 (i + kq = us.length) ∧ Aside0 (BRow wr g (gapL t (bytesOf s) ((gz us ds).take i))) ∧ Aside0 (Kd.R (Kd.int .i64) 2 wr w.heap.size (fun q => q < g) (.slice Au us.length cu) us) ∧ Aside0 (Kd.R (Kd.int .i64) 2 wr w.heap.size (fun q => q < g) (.slice Ad ds.length cd) ds) ∧ Aside0 (Below w.heap.size w wr))
  case atStart => exact ⟨0, rfl, ⟨by omega⟩, q0, q1, q2, q3⟩
  case round =>
    clear q0 q1 q2 q3
    obtain ⟨i, rfl, HE, HR, HU, HD, HB⟩ := hrel
    by_cases hlt : i + 1 < us.length
    · cases gk with
      | zero => have := HE.out; omega
      | succ g1 =>
      have hdl := HDL.out
      obtain ⟨a, n, b, m, e1, e2, e3, e4, e5, e6, hab, hbs⟩ := HIN.out i hlt
      obtain ⟨l, hl⟩ : ∃ l, l = gapL t (bytesOf s) ((gz us ds).take i) := ⟨_, rfl⟩
      have HLL : Aside0 (l.length = s.size) := ⟨by rw [hl, gapL_len, HBL0.out]⟩
      have HPZ : i < (gz us ds).length := (List.getElem?_eq_some_iff.1 e6).1
      have HNX : Aside0 (gapL t (bytesOf s) ((gz us ds).take (i + 1)) = gapS t l ⟨((a + n : Nat) : Int), ((b - (a + n) : Nat) : Int)⟩) := ⟨by rw [gapL_snoc t _ _ i HPZ, hl, (List.getElem?_eq_some_iff.1 e6).2]⟩
      rw [← hl] at HR
      have HRU := Aside0.mk (rd_get e3).1
      have HRD := Aside0.mk (rd_get e2).1
      clear e1 e2 e3 e4 e5 e6 hl HPZ
      have q0 := HR
      have q1 := HU
      have q2 := HD
      have q3 := HB
      obtain ⟨ad, hed, hxd⟩ := Kd.at_int (Kd.R_reads' HD.out).2.2 (i : Int) (by omega) (by omega)
      rw [HRD.out, Int.toNat_natCast, Int.natCast_add] at hxd
      subst hed
      obtain ⟨au, heu, hxu⟩ := Kd.at_int (Kd.R_reads' HU.out).2.2 ((i + 1 : Nat) : Int) (by omega) (by omega)
      rw [HRU.out, Int.toNat_natCast] at hxu
      subst heu
      have s1 : IntKind.i64.wrap ((i : Int) + 1 - 1) = (i : Int) := by rw [IntWalk.i64_in _ ⟨by omega, by omega⟩]; omega
      have hlt1 : i < us.length := by omega
      have hlt2 : i < ds.length := by omega
      clear hdl
      go_wp2
      by_cases hnt : (((b - (a + n) : Nat) : Int) < t)
      · have HNT : Aside0 (((b - (a + n) : Nat) : Int) < t) := ⟨hnt⟩
        clear hnt
        go_loopg [10] (b - (a + n)) (fun kq v10 wi => ∃ j : Nat, v10 = .int .i64 ((a : Int) + (n : Int) + (j : Int)) ∧ Aside0 (j + kq = b - (a + n)) ∧ Aside0 (BRow wi g (fillN l (a + n) 49 j)) ∧ Aside0 (Kd.R (Kd.int .i64) 2 wi w.heap.size (fun q => q < g) (.slice (some au) us.length cu) us) ∧ Aside0 (Kd.R (Kd.int .i64) 2 wi w.heap.size (fun q => q < g) (.slice (some ad) ds.length cd) ds) ∧ Aside0 (Below w.heap.size w wi))
        case atStart => exact ⟨0, by simp, ⟨by omega⟩, q0, q1, q2, q3⟩
        case round =>
          clear q0 q1 q2 q3 hxu hxd HR HU HD HB
          obtain ⟨j, rfl, HJ, HR, HU, HD, HB⟩ := hrel
          obtain ⟨ad', hed, hxd⟩ := Kd.at_int (Kd.R_reads' HD.out).2.2 (i : Int) (by omega) (by rw [HDL.out]; omega)
          rw [HRD.out, Int.toNat_natCast, Int.natCast_add] at hxd
          obtain rfl := Option.some.inj hed
          obtain ⟨au', heu, hxu⟩ := Kd.at_int (Kd.R_reads' HU.out).2.2 ((i + 1 : Nat) : Int) (by omega) (by omega)
          rw [HRU.out, Int.toNat_natCast] at hxu
          obtain rfl := Option.some.inj heu
          clear hed heu
          have hxu' : wr.cell? ⟨au.block, au.off + (i + 1), none⟩ = some (.int .i64 (b : Int)) := by simpa [Addr.add] using hxu
          have e0 : IntKind.i64.wrap ((i : Int) + 1) = (i : Int) + 1 := IntWalk.i64_in _ ⟨by omega, by omega⟩
          have t1 : ((i : Int) + 1).toNat = i + 1 := by omega
          have z1 : 0 ≤ (i : Int) + 1 := by omega
          have hl2 : (i : Int) + 1 < (us.length : Int) := by omega
          by_cases hj : j < b - (a + n)
          · cases gk with
            | zero => have := HJ.out; omega
            | succ g2 =>
            have hll := HLL.out
            have hc := HR.out.cell (a + n + j) (by rw [fillN_len]; omega)
            have hf := HR.out.free (a + n + j) (by rw [fillN_len]; omega)
            have b1 : a + n + j < s.size := by omega
            have d1 : decide ((a : Int) + (n : Int) + (j : Int) < (b : Int)) = true := decide_eq_true (by omega)
            have d2 : decide ((b : Int) - ((a : Int) + (n : Int)) < t) = true := decide_eq_true (by have := HNT.out; omega)
            have sm : IntKind.i64.wrap ((b : Int) - ((a : Int) + (n : Int))) = (b : Int) - ((a : Int) + (n : Int)) := by rw [IntWalk.i64_in _ ⟨by omega, by omega⟩]
            clear hll
            go_wp2
            go_quiet (fail)
            go_wp2
            go_roundg g2
            case measure => omega
            case rel => exact ⟨j + 1, congrArg (Value.int .i64) (by omega), ⟨by have := HJ.out; omega⟩, ⟨(HR.out.move (w1 := wr.drewN nq) rfl).put (a + n + j) (by rw [fillN_len, HLL.out]; omega) 49⟩, ⟨Kd.R_far (p := ⟨g, a + n + j, none⟩) (Kd.R_drewN HU.out nq) (fun q hq => Nat.ne_of_lt hq) _⟩, ⟨Kd.R_far (p := ⟨g, a + n + j, none⟩) (Kd.R_drewN HD.out nq) (fun q hq => Nat.ne_of_lt hq) _⟩, ⟨(pw_below_drewN HB.out nq).setCell (p := ⟨g, a + n + j, none⟩) HGW.out _⟩⟩
          · have e : j = b - (a + n) := by have := HJ.out; omega
            have d1 : decide ((a : Int) + (n : Int) + (j : Int) < (b : Int)) = false := decide_eq_false (by omega)
            subst e
            go_wp2
            go_quiet (fail)
            go_wp2
            go_roundg g1
            case measure => omega
            case rel => exact ⟨i + 1, by go_num, ⟨by have := HE.out; omega⟩, ⟨by rw [HNX.out]; unfold gapS; rw [if_pos HNT.out]; exact HR.out.move rfl⟩, ⟨Kd.R_drewN HU.out nq⟩, ⟨Kd.R_drewN HD.out nq⟩, ⟨pw_below_drewN HB.out nq⟩⟩
      · have HNT : Aside0 (¬ ((b - (a + n) : Nat) : Int) < t) := ⟨hnt⟩
        clear hnt
        go_loopg [10] 1 (fun kq v10 wi => v10 = .int .i64 ((a : Int) + (n : Int)) ∧ Aside0 (BRow wi g (l)) ∧ Aside0 (Kd.R (Kd.int .i64) 2 wi w.heap.size (fun q => q < g) (.slice (some au) us.length cu) us) ∧ Aside0 (Kd.R (Kd.int .i64) 2 wi w.heap.size (fun q => q < g) (.slice (some ad) ds.length cd) ds) ∧ Aside0 (Below w.heap.size w wi))
        case atStart => exact ⟨rfl, q0, q1, q2, q3⟩
        case round =>
          clear q0 q1 q2 q3 hxu hxd HR HU HD HB
          obtain ⟨rfl, HR, HU, HD, HB⟩ := hrel
          obtain ⟨ad', hed, hxd⟩ := Kd.at_int (Kd.R_reads' HD.out).2.2 (i : Int) (by omega) (by rw [HDL.out]; omega)
          rw [HRD.out, Int.toNat_natCast, Int.natCast_add] at hxd
          obtain rfl := Option.some.inj hed
          obtain ⟨au', heu, hxu⟩ := Kd.at_int (Kd.R_reads' HU.out).2.2 ((i + 1 : Nat) : Int) (by omega) (by omega)
          rw [HRU.out, Int.toNat_natCast] at hxu
          obtain rfl := Option.some.inj heu
          clear hed heu
          have hxu' : wr.cell? ⟨au.block, au.off + (i + 1), none⟩ = some (.int .i64 (b : Int)) := by simpa [Addr.add] using hxu
          have e0 : IntKind.i64.wrap ((i : Int) + 1) = (i : Int) + 1 := IntWalk.i64_in _ ⟨by omega, by omega⟩
          have t1 : ((i : Int) + 1).toNat = i + 1 := by omega
          have z1 : 0 ≤ (i : Int) + 1 := by omega
          have hl2 : (i : Int) + 1 < (us.length : Int) := by omega
          have sm : IntKind.i64.wrap ((b : Int) - ((a : Int) + (n : Int))) = (b : Int) - ((a : Int) + (n : Int)) := by rw [IntWalk.i64_in _ ⟨by omega, by omega⟩]
          have d2 : decide ((b : Int) - ((a : Int) + (n : Int)) < t) = false := decide_eq_false (by have := HNT.out; omega)
          by_cases hz : (a : Int) + (n : Int) < (b : Int)
          · have d1 : decide ((a : Int) + (n : Int) < (b : Int)) = true := decide_eq_true hz
            go_wp2
            go_quiet (fail)
            go_wp2
            go_roundg g1
            case measure => omega
            case rel => exact ⟨i + 1, by go_num, ⟨by have := HE.out; omega⟩, ⟨by rw [HNX.out]; unfold gapS; rw [if_neg (by first | exact HNT.out | exact Int.not_lt.mpr HNT.out)]; exact HR.out.move rfl⟩, ⟨Kd.R_drewN HU.out nq⟩, ⟨Kd.R_drewN HD.out nq⟩, ⟨pw_below_drewN HB.out nq⟩⟩
          · exfalso
            have := HNT.out
            omega
    · have hR := HR.out
      have hgl := HGL.out
      rw [List.take_of_length_le (by have := HE.out; omega)] at hR
      have hl : (gapL t (bytesOf s) (gz us ds)).length = s.size := by rw [gapL_len, HBL0.out]
      have hcv := hR.string (P := Tryd.prog) Tryd.underlying28 Tryd.underlying5 Tryd.underlying9 cp
      rw [hl] at hcv
      clear hl hgl
      go_wp2
      go_ret2
      exact ⟨rfl, HB.out⟩
def spec_FillGaps.f (k : Nat) (a0 : ByteArray) (a1 : Int) : Option (ByteArray × Bool) :=
  if a0.size < k ∧ a0.size ≤ 140737488351232 then (impl_isFilter.f a0 a1).bind fun t => if t = true then some (strOfNums (gapL a1 (bytesOf a0) (gz (edg a0 49 a0.size) (dns a0))), true) else some (⟨#[]⟩, false) else none
theorem spec_FillGaps.mono : ∀ a0 a1 k, LeO (spec_FillGaps.f k a0 a1) (spec_FillGaps.f (k + 1) a0 a1) := by
  intro a0 a1 k r h
  unfold spec_FillGaps.f at h ⊢
  by_cases hk : a0.size < k ∧ a0.size ≤ 140737488351232
  · rw [if_pos hk] at h; rw [if_pos ⟨by omega, hk.2⟩]; exact h
  · rw [if_neg hk] at h; cases h
theorem spec_FillGaps.calls (k : Nat) (a0 : ByteArray) (a1 : Int) (r1 : ByteArray) (r2 : Bool) (w : World) (h : spec_FillGaps.f k a0 a1 = some (r1, r2)) :
    Calls Tryd.prog 5 #[.string a0, .int .i64 a1] w fun e w' => e = .returned (.tuple #[.string r1, .bool r2]) ∧ Below w.heap.size w w' := by
  unfold spec_FillGaps.f at h
  by_cases hk : a0.size < k ∧ a0.size ≤ 140737488351232
  · rw [if_pos hk] at h
    obtain ⟨t, ht, h⟩ := Option.bind_eq_some_iff.mp h
    have ht' := (filter_eq k a0 a1 hk.2 hk.1).trans ht
    cases t with
    | false =>
      rw [if_neg (by simp)] at h
      simp only [Option.some.injEq, Prod.mk.injEq] at h
      obtain ⟨rfl, rfl⟩ := h
      exact FillS_no a0 a1 k w ht'
    | true =>
      rw [if_pos rfl] at h
      simp only [Option.some.injEq, Prod.mk.injEq] at h
      obtain ⟨rfl, rfl⟩ := h
      obtain ⟨hs, hL, h1, h2⟩ := isFilter_true ht
      exact FillS_yes a0 a1 _ _ k (gaps_of a0 hL) (Nat.le_trans (edg_len _ _ _) hs) (runs_all a0 hL).len.symm hs h1 h2 w ht' (l07_eq k a0 (by omega) hk.1)
  · rw [if_neg hk] at h; cases h
end Go.Proofs.YtpmdiolkhmfphaaDoor.X

-- Written by a program of this session out of the kit's print of the loaded functions: a plain function of a Go function, and its contract.
namespace Go.Proofs.YtpmdiolkhmfphaaDoor.X
open Go.RowKit Go.Proofs.YtpmdiolkhmfphaaDoorW.PrintWords Go.Proofs.YtpmdiolkhmfphaaDoorW.PrintLast Go.Proofs.YtpmdiolkhmfphaaDoorW.PrintMore
attribute [local go_sem] max2_int min2_int max_two min_two max_three min_three max_four min_four   -- for this text's walks alone
set_option linter.unusedVariables false
set_option linter.unusedSimpArgs false

/-! ### laws_FnExactDropPulses: function 4 -/
def laws_FnExactDropPulses.f (k : Nat) (a0 : ByteArray) (a1 : Int) : Option (Bool) := if (a0.size : Int) > 1048576 then (some true) else ((spec_DropPulses.f k a0 a1).bind fun bt146 => ((impl_DropPulses.f a0 a1).bind fun bt148 => (if bt148.1.toList = bt146.1.toList then (if (bt148.2 != bt146.2) = true then (some false) else (some true)) else (some false))))
theorem laws_FnExactDropPulses.mono : ∀ a0 a1 k, LeO (laws_FnExactDropPulses.f k a0 a1) (laws_FnExactDropPulses.f (k + 1) a0 a1) := by
  intro a0 a1 k
  unfold laws_FnExactDropPulses.f
  repeat' first
      | (with_reducible exact spec_DropPulses.mono _ _ _)
      | (with_reducible exact LeO.refl _)
      | (with_reducible exact LeO.none _)
      | (with_reducible refine LeO.ite ?_ ?_)
      | (with_reducible refine LeO.bind ?_ (fun _ => ?_))
      | exact spec_DropPulses.mono _ _ _
      | exact LeO.none _
      | refine LeO.ite ?_ ?_
      | refine LeO.bind ?_ (fun _ => ?_)
set_option maxHeartbeats 8000000 in
set_option maxRecDepth 100000 in
theorem laws_FnExactDropPulses.calls (k : Nat) (a0 : ByteArray) (a1 : Int) (r : Bool) (w : World) (h : laws_FnExactDropPulses.f k a0 a1 = some r) :
    Calls Tryd.prog 4 #[.string a0, .int .i64 a1] w fun e w' => e = .returned (.bool r) ∧ Below w.heap.size w w' := by
  have HB := Aside0.mk (Below.refl w.heap.size w)
  have H : (if (a0.size : Int) > 1048576 then (some true) else ((spec_DropPulses.f k a0 a1).bind fun bt146 => ((impl_DropPulses.f a0 a1).bind fun bt148 => (if bt148.1.toList = bt146.1.toList then (if (bt148.2 != bt146.2) = true then (some false) else (some true)) else (some false))))) = some r := h
  clear h
  by_cases c3 : (a0.size : Int) > 1048576
  · rw [if_pos c3] at H
    have c3b0 : decide (1048576 < (a0.size : Int)) = true := decide_eq_true c3
    have c3b1 : decide (1048576 < a0.size) = true := decide_eq_true (by omega)
    clear c3
    obtain rfl := Option.some.inj H
    go_enter Tryd.func4, Tryd.ntmps4
    go_wp2
    go_ret
    exact ⟨by first | rfl | (simp [errW_none, errW_some] <;> rfl) | (simp [*, errW_none, errW_some] <;> rfl), by repeat (first | (with_reducible first | exact HB.out | apply below_alloc | apply pw_below_drewN | apply below_drew1) | exact HB.out)⟩
  · rw [if_neg c3] at H
    have c3b0 : decide (1048576 < (a0.size : Int)) = false := decide_eq_false c3
    have c3b1 : decide (1048576 < a0.size) = false := decide_eq_false (by omega)
    clear c3
    replace H := Option.bind_eq_some_iff.mp H
    obtain ⟨⟨t146, t147⟩, A40, H⟩ := H
    replace H : ((impl_DropPulses.f a0 a1).bind fun bt148 => (if bt148.1.toList = t146.toList then (if (bt148.2 != t147) = true then (some false) else (some true)) else (some false))) = some r := H
    have A4 := Aside0.mk A40
    clear A40
    replace H := Option.bind_eq_some_iff.mp H
    obtain ⟨⟨t148, t149⟩, A50, H⟩ := H
    replace H : (if t148.toList = t146.toList then (if (t149 != t147) = true then (some false) else (some true)) else (some false)) = some r := H
    have A5 := Aside0.mk A50
    clear A50
    by_cases c6 : t148.toList = t146.toList
    · rw [if_pos c6] at H
      have c6b0 : (t148.toList == t146.toList) = true := beq_iff_eq.mpr c6
      have c6b1 : (t148.toList != t146.toList) = false := bne_eq_false_iff_eq.mpr c6
      clear c6
      by_cases c7 : (t149 != t147) = true
      · rw [if_pos c7] at H
        have c7b0 : (t149 != t147) = true := c7
        (try (have c7b1 : decide (t149 = t147) = false := by simpa using c7))
        (try (have c7b2 : (t149 == t147) = false := by simpa using c7))
        (try (have c7b3 : ¬ (t149 = t147) := by simpa using c7))
        clear c7
        obtain rfl := Option.some.inj H
        go_enter Tryd.func4, Tryd.ntmps4
        go_wp2_with (first | ((with_reducible refine gate_callee (f := 7) rfl ?_); refine goesL_ (some 15) rfl rfl Tryd.func7 (by kernel_rfl) rfl #[.string a0, .int .i64 a1] rfl (by (try simp only [List.map_toArray, List.map_cons, List.map_nil]); first | done | rfl | (simp only [List.length_drop, List.length_take]; rfl)) ?_; (with_reducible refine (spec_DropPulses.calls k a0 a1 t146 t147 _ A4.out).mono ?_); rintro e w8 ⟨rfl, hb⟩; refine ⟨_, rfl, ?_⟩; have n0_ := Aside0.mk (below_step (by repeat (first | (with_reducible first | exact HB.out | apply below_alloc | apply pw_below_drewN | apply below_drew1) | exact HB.out)) hb); clear HB; have HB := n0_; clear n0_; (try clear hb); (try clear hb2); (try clear hk); (try clear hi)) | ((with_reducible refine gate_callee (f := 8) rfl ?_); refine goesL_ (some 21) rfl rfl Tryd.func8 (by kernel_rfl) rfl #[.string a0, .int .i64 a1] rfl (by (try simp only [List.map_toArray, List.map_cons, List.map_nil]); first | done | rfl | (simp only [List.length_drop, List.length_take]; rfl)) ?_; (with_reducible refine (impl_DropPulses.calls a0 a1 t148 t149 _ A5.out).mono ?_); rintro e w9 ⟨rfl, hb⟩; refine ⟨_, rfl, ?_⟩; have n0_ := Aside0.mk (below_step (by repeat (first | (with_reducible first | exact HB.out | apply below_alloc | apply pw_below_drewN | apply below_drew1) | exact HB.out)) hb); clear HB; have HB := n0_; clear n0_; (try clear hb); (try clear hb2); (try clear hk); (try clear hi)))
        go_ret
        exact ⟨by first | rfl | (simp [errW_none, errW_some] <;> rfl) | (simp [*, errW_none, errW_some] <;> rfl), by repeat (first | (with_reducible first | exact HB.out | apply below_alloc | apply pw_below_drewN | apply below_drew1) | exact HB.out)⟩
      · rw [if_neg c7] at H
        have c7b0 : (t149 != t147) = false := by simpa using c7
        (try (have c7b1 : decide (t149 = t147) = true := by simpa using c7))
        (try (have c7b2 : (t149 == t147) = true := by simpa using c7))
        clear c7
        obtain rfl := Option.some.inj H
        go_enter Tryd.func4, Tryd.ntmps4
        go_wp2_with (first | ((with_reducible refine gate_callee (f := 7) rfl ?_); refine goesL_ (some 15) rfl rfl Tryd.func7 (by kernel_rfl) rfl #[.string a0, .int .i64 a1] rfl (by (try simp only [List.map_toArray, List.map_cons, List.map_nil]); first | done | rfl | (simp only [List.length_drop, List.length_take]; rfl)) ?_; (with_reducible refine (spec_DropPulses.calls k a0 a1 t146 t147 _ A4.out).mono ?_); rintro e w10 ⟨rfl, hb⟩; refine ⟨_, rfl, ?_⟩; have n0_ := Aside0.mk (below_step (by repeat (first | (with_reducible first | exact HB.out | apply below_alloc | apply pw_below_drewN | apply below_drew1) | exact HB.out)) hb); clear HB; have HB := n0_; clear n0_; (try clear hb); (try clear hb2); (try clear hk); (try clear hi)) | ((with_reducible refine gate_callee (f := 8) rfl ?_); refine goesL_ (some 21) rfl rfl Tryd.func8 (by kernel_rfl) rfl #[.string a0, .int .i64 a1] rfl (by (try simp only [List.map_toArray, List.map_cons, List.map_nil]); first | done | rfl | (simp only [List.length_drop, List.length_take]; rfl)) ?_; (with_reducible refine (impl_DropPulses.calls a0 a1 t148 t149 _ A5.out).mono ?_); rintro e w11 ⟨rfl, hb⟩; refine ⟨_, rfl, ?_⟩; have n0_ := Aside0.mk (below_step (by repeat (first | (with_reducible first | exact HB.out | apply below_alloc | apply pw_below_drewN | apply below_drew1) | exact HB.out)) hb); clear HB; have HB := n0_; clear n0_; (try clear hb); (try clear hb2); (try clear hk); (try clear hi)))
        go_ret
        exact ⟨by first | rfl | (simp [errW_none, errW_some] <;> rfl) | (simp [*, errW_none, errW_some] <;> rfl), by repeat (first | (with_reducible first | exact HB.out | apply below_alloc | apply pw_below_drewN | apply below_drew1) | exact HB.out)⟩
    · rw [if_neg c6] at H
      have c6b0 : (t148.toList == t146.toList) = false := beq_eq_false_iff_ne.mpr c6
      have c6b1 : (t148.toList != t146.toList) = true := bne_iff_ne.mpr c6
      obtain rfl := Option.some.inj H
      go_enter Tryd.func4, Tryd.ntmps4
      go_wp2_with (first | ((with_reducible refine gate_callee (f := 7) rfl ?_); refine goesL_ (some 15) rfl rfl Tryd.func7 (by kernel_rfl) rfl #[.string a0, .int .i64 a1] rfl (by (try simp only [List.map_toArray, List.map_cons, List.map_nil]); first | done | rfl | (simp only [List.length_drop, List.length_take]; rfl)) ?_; (with_reducible refine (spec_DropPulses.calls k a0 a1 t146 t147 _ A4.out).mono ?_); rintro e w12 ⟨rfl, hb⟩; refine ⟨_, rfl, ?_⟩; have n0_ := Aside0.mk (below_step (by repeat (first | (with_reducible first | exact HB.out | apply below_alloc | apply pw_below_drewN | apply below_drew1) | exact HB.out)) hb); clear HB; have HB := n0_; clear n0_; (try clear hb); (try clear hb2); (try clear hk); (try clear hi)) | ((with_reducible refine gate_callee (f := 8) rfl ?_); refine goesL_ (some 21) rfl rfl Tryd.func8 (by kernel_rfl) rfl #[.string a0, .int .i64 a1] rfl (by (try simp only [List.map_toArray, List.map_cons, List.map_nil]); first | done | rfl | (simp only [List.length_drop, List.length_take]; rfl)) ?_; (with_reducible refine (impl_DropPulses.calls a0 a1 t148 t149 _ A5.out).mono ?_); rintro e w13 ⟨rfl, hb⟩; refine ⟨_, rfl, ?_⟩; have n0_ := Aside0.mk (below_step (by repeat (first | (with_reducible first | exact HB.out | apply below_alloc | apply pw_below_drewN | apply below_drew1) | exact HB.out)) hb); clear HB; have HB := n0_; clear n0_; (try clear hb); (try clear hb2); (try clear hk); (try clear hi)))
      go_ret
      exact ⟨by first | rfl | (simp [errW_none, errW_some] <;> rfl) | (simp [*, errW_none, errW_some] <;> rfl), by repeat (first | (with_reducible first | exact HB.out | apply below_alloc | apply pw_below_drewN | apply below_drew1) | exact HB.out)⟩

/-- THE ONE PURE STATEMENT of laws_FnExactDropPulses: yours. -/
def laws_FnExactDropPulses.Pure : Prop := ∀ (a0 : ByteArray) (a1 : Int), a0.size ≤ 140737488351232 → (Lit.int .i64 a1).wf = true → ∃ k, laws_FnExactDropPulses.f k a0 a1 = some true
theorem laws_FnExactDropPulses.walk (P : laws_FnExactDropPulses.Pure) (a0 : ByteArray) (a1 : Int) (w : World) (w0 : a0.size ≤ 140737488351232) (w1 : (Lit.int .i64 a1).wf = true) :
    Calls Tryd.prog 4 #[.string a0, .int .i64 a1] w fun e w' => e = .returned (.bool true) ∧ Below w.heap.size w w' := by
  obtain ⟨k, h⟩ := P a0 a1 w0 w1
  refine (laws_FnExactDropPulses.calls k a0 a1 true w h).mono ?_
  rintro e w' ⟨rfl, hd⟩
  exact ⟨rfl, hd⟩

end Go.Proofs.YtpmdiolkhmfphaaDoor.X

-- Written by a program of this session out of the kit's print of the loaded functions: a plain function of a Go function, and its contract.
namespace Go.Proofs.YtpmdiolkhmfphaaDoor.X
open Go.RowKit Go.Proofs.YtpmdiolkhmfphaaDoorW.PrintWords Go.Proofs.YtpmdiolkhmfphaaDoorW.PrintLast Go.Proofs.YtpmdiolkhmfphaaDoorW.PrintMore
attribute [local go_sem] max2_int min2_int max_two min_two max_three min_three max_four min_four   -- for this text's walks alone
set_option linter.unusedVariables false
set_option linter.unusedSimpArgs false

/-! ### laws_FnExactFillGaps: function 3 -/
def laws_FnExactFillGaps.f (k : Nat) (a0 : ByteArray) (a1 : Int) : Option (Bool) := if (a0.size : Int) > 1048576 then (some true) else ((spec_FillGaps.f k a0 a1).bind fun bt142 => ((impl_FillGaps.f a0 a1).bind fun bt144 => (if bt144.1.toList = bt142.1.toList then (if (bt144.2 != bt142.2) = true then (some false) else (some true)) else (some false))))
theorem laws_FnExactFillGaps.mono : ∀ a0 a1 k, LeO (laws_FnExactFillGaps.f k a0 a1) (laws_FnExactFillGaps.f (k + 1) a0 a1) := by
  intro a0 a1 k
  unfold laws_FnExactFillGaps.f
  repeat' first
      | (with_reducible exact spec_FillGaps.mono _ _ _)
      | (with_reducible exact LeO.refl _)
      | (with_reducible exact LeO.none _)
      | (with_reducible refine LeO.ite ?_ ?_)
      | (with_reducible refine LeO.bind ?_ (fun _ => ?_))
      | exact spec_FillGaps.mono _ _ _
      | exact LeO.none _
      | refine LeO.ite ?_ ?_
      | refine LeO.bind ?_ (fun _ => ?_)
set_option maxHeartbeats 8000000 in
set_option maxRecDepth 100000 in
theorem laws_FnExactFillGaps.calls (k : Nat) (a0 : ByteArray) (a1 : Int) (r : Bool) (w : World) (h : laws_FnExactFillGaps.f k a0 a1 = some r) :
    Calls Tryd.prog 3 #[.string a0, .int .i64 a1] w fun e w' => e = .returned (.bool r) ∧ Below w.heap.size w w' := by
  have HB := Aside0.mk (Below.refl w.heap.size w)
  have H : (if (a0.size : Int) > 1048576 then (some true) else ((spec_FillGaps.f k a0 a1).bind fun bt142 => ((impl_FillGaps.f a0 a1).bind fun bt144 => (if bt144.1.toList = bt142.1.toList then (if (bt144.2 != bt142.2) = true then (some false) else (some true)) else (some false))))) = some r := h
  clear h
  by_cases c3 : (a0.size : Int) > 1048576
  · rw [if_pos c3] at H
    have c3b0 : decide (1048576 < (a0.size : Int)) = true := decide_eq_true c3
    have c3b1 : decide (1048576 < a0.size) = true := decide_eq_true (by omega)
    clear c3
    obtain rfl := Option.some.inj H
    go_enter Tryd.func3, Tryd.ntmps3
    go_wp2
    go_ret
    exact ⟨by first | rfl | (simp [errW_none, errW_some] <;> rfl) | (simp [*, errW_none, errW_some] <;> rfl), by repeat (first | (with_reducible first | exact HB.out | apply below_alloc | apply pw_below_drewN | apply below_drew1) | exact HB.out)⟩
  · rw [if_neg c3] at H
    have c3b0 : decide (1048576 < (a0.size : Int)) = false := decide_eq_false c3
    have c3b1 : decide (1048576 < a0.size) = false := decide_eq_false (by omega)
    clear c3
    replace H := Option.bind_eq_some_iff.mp H
    obtain ⟨⟨t142, t143⟩, A40, H⟩ := H
    replace H : ((impl_FillGaps.f a0 a1).bind fun bt144 => (if bt144.1.toList = t142.toList then (if (bt144.2 != t143) = true then (some false) else (some true)) else (some false))) = some r := H
    have A4 := Aside0.mk A40
    clear A40
    replace H := Option.bind_eq_some_iff.mp H
    obtain ⟨⟨t144, t145⟩, A50, H⟩ := H
    replace H : (if t144.toList = t142.toList then (if (t145 != t143) = true then (some false) else (some true)) else (some false)) = some r := H
    have A5 := Aside0.mk A50
    clear A50
    by_cases c6 : t144.toList = t142.toList
    · rw [if_pos c6] at H
      have c6b0 : (t144.toList == t142.toList) = true := beq_iff_eq.mpr c6
      have c6b1 : (t144.toList != t142.toList) = false := bne_eq_false_iff_eq.mpr c6
      clear c6
      by_cases c7 : (t145 != t143) = true
      · rw [if_pos c7] at H
        have c7b0 : (t145 != t143) = true := c7
        (try (have c7b1 : decide (t145 = t143) = false := by simpa using c7))
        (try (have c7b2 : (t145 == t143) = false := by simpa using c7))
        (try (have c7b3 : ¬ (t145 = t143) := by simpa using c7))
        clear c7
        obtain rfl := Option.some.inj H
        go_enter Tryd.func3, Tryd.ntmps3
        go_wp2_with (first | ((with_reducible refine gate_callee (f := 5) rfl ?_); refine goesL_ (some 15) rfl rfl Tryd.func5 (by kernel_rfl) rfl #[.string a0, .int .i64 a1] rfl (by (try simp only [List.map_toArray, List.map_cons, List.map_nil]); first | done | rfl | (simp only [List.length_drop, List.length_take]; rfl)) ?_; (with_reducible refine (spec_FillGaps.calls k a0 a1 t142 t143 _ A4.out).mono ?_); rintro e w8 ⟨rfl, hb⟩; refine ⟨_, rfl, ?_⟩; have n0_ := Aside0.mk (below_step (by repeat (first | (with_reducible first | exact HB.out | apply below_alloc | apply pw_below_drewN | apply below_drew1) | exact HB.out)) hb); clear HB; have HB := n0_; clear n0_; (try clear hb); (try clear hb2); (try clear hk); (try clear hi)) | ((with_reducible refine gate_callee (f := 6) rfl ?_); refine goesL_ (some 21) rfl rfl Tryd.func6 (by kernel_rfl) rfl #[.string a0, .int .i64 a1] rfl (by (try simp only [List.map_toArray, List.map_cons, List.map_nil]); first | done | rfl | (simp only [List.length_drop, List.length_take]; rfl)) ?_; (with_reducible refine (impl_FillGaps.calls a0 a1 t144 t145 _ A5.out).mono ?_); rintro e w9 ⟨rfl, hb⟩; refine ⟨_, rfl, ?_⟩; have n0_ := Aside0.mk (below_step (by repeat (first | (with_reducible first | exact HB.out | apply below_alloc | apply pw_below_drewN | apply below_drew1) | exact HB.out)) hb); clear HB; have HB := n0_; clear n0_; (try clear hb); (try clear hb2); (try clear hk); (try clear hi)))
        go_ret
        exact ⟨by first | rfl | (simp [errW_none, errW_some] <;> rfl) | (simp [*, errW_none, errW_some] <;> rfl), by repeat (first | (with_reducible first | exact HB.out | apply below_alloc | apply pw_below_drewN | apply below_drew1) | exact HB.out)⟩
      · rw [if_neg c7] at H
        have c7b0 : (t145 != t143) = false := by simpa using c7
        (try (have c7b1 : decide (t145 = t143) = true := by simpa using c7))
        (try (have c7b2 : (t145 == t143) = true := by simpa using c7))
        clear c7
        obtain rfl := Option.some.inj H
        go_enter Tryd.func3, Tryd.ntmps3
        go_wp2_with (first | ((with_reducible refine gate_callee (f := 5) rfl ?_); refine goesL_ (some 15) rfl rfl Tryd.func5 (by kernel_rfl) rfl #[.string a0, .int .i64 a1] rfl (by (try simp only [List.map_toArray, List.map_cons, List.map_nil]); first | done | rfl | (simp only [List.length_drop, List.length_take]; rfl)) ?_; (with_reducible refine (spec_FillGaps.calls k a0 a1 t142 t143 _ A4.out).mono ?_); rintro e w10 ⟨rfl, hb⟩; refine ⟨_, rfl, ?_⟩; have n0_ := Aside0.mk (below_step (by repeat (first | (with_reducible first | exact HB.out | apply below_alloc | apply pw_below_drewN | apply below_drew1) | exact HB.out)) hb); clear HB; have HB := n0_; clear n0_; (try clear hb); (try clear hb2); (try clear hk); (try clear hi)) | ((with_reducible refine gate_callee (f := 6) rfl ?_); refine goesL_ (some 21) rfl rfl Tryd.func6 (by kernel_rfl) rfl #[.string a0, .int .i64 a1] rfl (by (try simp only [List.map_toArray, List.map_cons, List.map_nil]); first | done | rfl | (simp only [List.length_drop, List.length_take]; rfl)) ?_; (with_reducible refine (impl_FillGaps.calls a0 a1 t144 t145 _ A5.out).mono ?_); rintro e w11 ⟨rfl, hb⟩; refine ⟨_, rfl, ?_⟩; have n0_ := Aside0.mk (below_step (by repeat (first | (with_reducible first | exact HB.out | apply below_alloc | apply pw_below_drewN | apply below_drew1) | exact HB.out)) hb); clear HB; have HB := n0_; clear n0_; (try clear hb); (try clear hb2); (try clear hk); (try clear hi)))
        go_ret
        exact ⟨by first | rfl | (simp [errW_none, errW_some] <;> rfl) | (simp [*, errW_none, errW_some] <;> rfl), by repeat (first | (with_reducible first | exact HB.out | apply below_alloc | apply pw_below_drewN | apply below_drew1) | exact HB.out)⟩
    · rw [if_neg c6] at H
      have c6b0 : (t144.toList == t142.toList) = false := beq_eq_false_iff_ne.mpr c6
      have c6b1 : (t144.toList != t142.toList) = true := bne_iff_ne.mpr c6
      obtain rfl := Option.some.inj H
      go_enter Tryd.func3, Tryd.ntmps3
      go_wp2_with (first | ((with_reducible refine gate_callee (f := 5) rfl ?_); refine goesL_ (some 15) rfl rfl Tryd.func5 (by kernel_rfl) rfl #[.string a0, .int .i64 a1] rfl (by (try simp only [List.map_toArray, List.map_cons, List.map_nil]); first | done | rfl | (simp only [List.length_drop, List.length_take]; rfl)) ?_; (with_reducible refine (spec_FillGaps.calls k a0 a1 t142 t143 _ A4.out).mono ?_); rintro e w12 ⟨rfl, hb⟩; refine ⟨_, rfl, ?_⟩; have n0_ := Aside0.mk (below_step (by repeat (first | (with_reducible first | exact HB.out | apply below_alloc | apply pw_below_drewN | apply below_drew1) | exact HB.out)) hb); clear HB; have HB := n0_; clear n0_; (try clear hb); (try clear hb2); (try clear hk); (try clear hi)) | ((with_reducible refine gate_callee (f := 6) rfl ?_); refine goesL_ (some 21) rfl rfl Tryd.func6 (by kernel_rfl) rfl #[.string a0, .int .i64 a1] rfl (by (try simp only [List.map_toArray, List.map_cons, List.map_nil]); first | done | rfl | (simp only [List.length_drop, List.length_take]; rfl)) ?_; (with_reducible refine (impl_FillGaps.calls a0 a1 t144 t145 _ A5.out).mono ?_); rintro e w13 ⟨rfl, hb⟩; refine ⟨_, rfl, ?_⟩; have n0_ := Aside0.mk (below_step (by repeat (first | (with_reducible first | exact HB.out | apply below_alloc | apply pw_below_drewN | apply below_drew1) | exact HB.out)) hb); clear HB; have HB := n0_; clear n0_; (try clear hb); (try clear hb2); (try clear hk); (try clear hi)))
      go_ret
      exact ⟨by first | rfl | (simp [errW_none, errW_some] <;> rfl) | (simp [*, errW_none, errW_some] <;> rfl), by repeat (first | (with_reducible first | exact HB.out | apply below_alloc | apply pw_below_drewN | apply below_drew1) | exact HB.out)⟩

/-- THE ONE PURE STATEMENT of laws_FnExactFillGaps: yours. -/
def laws_FnExactFillGaps.Pure : Prop := ∀ (a0 : ByteArray) (a1 : Int), a0.size ≤ 140737488351232 → (Lit.int .i64 a1).wf = true → ∃ k, laws_FnExactFillGaps.f k a0 a1 = some true
theorem laws_FnExactFillGaps.walk (P : laws_FnExactFillGaps.Pure) (a0 : ByteArray) (a1 : Int) (w : World) (w0 : a0.size ≤ 140737488351232) (w1 : (Lit.int .i64 a1).wf = true) :
    Calls Tryd.prog 3 #[.string a0, .int .i64 a1] w fun e w' => e = .returned (.bool true) ∧ Below w.heap.size w w' := by
  obtain ⟨k, h⟩ := P a0 a1 w0 w1
  refine (laws_FnExactFillGaps.calls k a0 a1 true w h).mono ?_
  rintro e w' ⟨rfl, hd⟩
  exact ⟨rfl, hd⟩

end Go.Proofs.YtpmdiolkhmfphaaDoor.X

/- The laws FnExactDropPulses and FnExactFillGaps in plain numbers. Conditions: none. -/
namespace Go.Proofs.YtpmdiolkhmfphaaDoor.X
open Go.RowKit Go.Proofs.YtpmdiolkhmfphaaDoorW.PrintWords Go.Proofs.YtpmdiolkhmfphaaDoorW.PrintLast Go.Proofs.YtpmdiolkhmfphaaDoorW.PrintMore
set_option linter.unusedVariables false
set_option linter.unusedSimpArgs false
theorem isF_some (s : ByteArray) (t : Int) (hs : s.size ≤ 140737488351232) : ∃ b, impl_isFilter.f s t = some b := by
  unfold impl_isFilter.f
  rw [wave_eq s hs, Option.bind_some]
  split
  · rw [within_eq, Option.bind_some]; exact ⟨_, rfl⟩
  · exact ⟨_, rfl⟩
theorem FnExactDropPulses_same (s : ByteArray) (t : Int) (hs : s.size ≤ 140737488351232) : ∃ (r : ByteArray) (b : Bool), impl_DropPulses.f s t = some (r, b) ∧ ∀ k, s.size < k → spec_DropPulses.f k s t = some (r, b) := by
  obtain ⟨b, hb⟩ := isF_some s t hs
  unfold impl_DropPulses.f spec_DropPulses.f
  cases b with
  | false => exact ⟨_, _, by rw [hb, Option.bind_some, if_neg (by simp)], fun k hk => by rw [if_pos ⟨hk, hs⟩, hb, Option.bind_some, if_neg (by simp)]⟩
  | true =>
    obtain ⟨_, hL, _, _⟩ := isFilter_true hb
    refine ⟨_, _, by rw [hb, Option.bind_some, if_pos rfl], fun k hk => ?_⟩
    rw [if_pos ⟨hk, hs⟩, hb, Option.bind_some, if_pos rfl]
    have := drop_same s hL t
    unfold pls at this
    rw [this]
theorem FnExactFillGaps_same (s : ByteArray) (t : Int) (hs : s.size ≤ 140737488351232) : ∃ (r : ByteArray) (b : Bool), impl_FillGaps.f s t = some (r, b) ∧ ∀ k, s.size < k → spec_FillGaps.f k s t = some (r, b) := by
  obtain ⟨b, hb⟩ := isF_some s t hs
  unfold impl_FillGaps.f spec_FillGaps.f
  cases b with
  | false => exact ⟨_, _, by rw [hb, Option.bind_some, if_neg (by simp)], fun k hk => by rw [if_pos ⟨hk, hs⟩, hb, Option.bind_some, if_neg (by simp)]⟩
  | true => exact ⟨_, _, by rw [hb, Option.bind_some, if_pos rfl], fun k hk => by rw [if_pos ⟨hk, hs⟩, hb, Option.bind_some, if_pos rfl]⟩
theorem FnExactDropPulses_pure : laws_FnExactDropPulses.Pure := by
  intro s a hs _
  obtain ⟨r, b, h1, h2⟩ := FnExactDropPulses_same s a hs
  refine ⟨s.size + 2001, ?_⟩
  unfold laws_FnExactDropPulses.f
  split
  · rfl
  · rw [h2 _ (by omega), h1, Option.bind_some, Option.bind_some, if_pos rfl, if_neg (by simp)]
theorem FnExactFillGaps_pure : laws_FnExactFillGaps.Pure := by
  intro s a hs _
  obtain ⟨r, b, h1, h2⟩ := FnExactFillGaps_same s a hs
  refine ⟨s.size + 2001, ?_⟩
  unfold laws_FnExactFillGaps.f
  split
  · rfl
  · rw [h2 _ (by omega), h1, Option.bind_some, Option.bind_some, if_pos rfl, if_neg (by simp)]
end Go.Proofs.YtpmdiolkhmfphaaDoor.X

