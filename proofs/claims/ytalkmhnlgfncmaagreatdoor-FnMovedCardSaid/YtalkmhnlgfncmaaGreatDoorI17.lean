/- My own texts of this seat and its words, merged: WRepsOne. Conditions: as each lemma says. -/
import Derived.Test.YtalkmhnlgfncmaaGreatDoorI0
set_option linter.unusedVariables false
set_option linter.unusedSimpArgs false
section
/-! ### 55. Reps told from the front, no append: for rows of one-cell elements and of wider ones -/
namespace Go.Proofs.YtalkmhnlgfncmaaGreatDoorW.aC
/-- One cell an element. -/
theorem jO.one {α:Type} {R:α→List Value→Prop} {ps:List α} {cs:List Value} {p:α} {v:Value} (hp:R p [v]) (h:jO R 1 ps cs):jO R 1 (p::ps) (v::cs):=by
 refine⟨by simp[h.1],fun j q hq=>?_⟩
 cases j with
 |zero=>
  simp only[List.getElem?_cons_zero,Option.some.injEq]at hq
  subst hq
  simpa using hp
 |succ j=>
  simp only[List.getElem?_cons_succ]at hq
  have h1:=h.2 j q hq
  simpa [Nat.mul_one]using h1
/-- More cells an element: told apart by the cells' list. -/
theorem jO.front {α:Type} {R:α→List Value→Prop} {size:Nat} {ps:List α} {cs c all:List Value} {p:α} (hp:R p c) (hc:c.length=size) (h:jO R size ps cs) (ha:c++cs=all):jO R size (p::ps) all:=by
 subst ha
 refine⟨by rw[List.length_append,hc,h.1,List.length_cons,Nat.succ_mul,Nat.add_comm],fun j q hq=>?_⟩
 cases j with
 |zero=>
  simp only[List.getElem?_cons_zero,Option.some.injEq]at hq
  subst hq
  rw[Nat.zero_mul,List.drop_zero,List.take_append_of_le_length (by omega),List.take_of_length_le (by omega)]
  exact hp
 |succ j=>
  simp only[List.getElem?_cons_succ]at hq
  have h1:=h.2 j q hq
  rw[Nat.succ_mul,List.drop_append,List.drop_of_length_le (by rw[hc];exact Nat.le_add_left _ _),List.nil_append,hc,Nat.add_sub_cancel]
  exact h1
theorem jO.c2 {α:Type} {R:α→List Value→Prop} {ps:List α} {cs:List Value} {p:α} {va vb:Value} (hp:R p [va,vb]) (h:jO R 2 ps cs):jO R 2 (p::ps) (va::vb::cs):=jO.front hp rfl h rfl
theorem jO.c3 {α:Type} {R:α→List Value→Prop} {ps:List α} {cs:List Value} {p:α} {va vb vc:Value} (hp:R p [va,vb,vc]) (h:jO R 3 ps cs):jO R 3 (p::ps) (va::vb::vc::cs):=jO.front hp rfl h rfl
theorem jO.c4 {α:Type} {R:α→List Value→Prop} {ps:List α} {cs:List Value} {p:α} {va vb vc vd:Value} (hp:R p [va,vb,vc,vd]) (h:jO R 4 ps cs):jO R 4 (p::ps) (va::vb::vc::vd::cs):=jO.front hp rfl h rfl
theorem jO.c5 {α:Type} {R:α→List Value→Prop} {ps:List α} {cs:List Value} {p:α} {va vb vc vd ve:Value} (hp:R p [va,vb,vc,vd,ve]) (h:jO R 5 ps cs):jO R 5 (p::ps) (va::vb::vc::vd::ve::cs):=jO.front hp rfl h rfl
theorem jO.c6 {α:Type} {R:α→List Value→Prop} {ps:List α} {cs:List Value} {p:α} {va vb vc vd ve vf:Value} (hp:R p [va,vb,vc,vd,ve,vf]) (h:jO R 6 ps cs):jO R 6 (p::ps) (va::vb::vc::vd::ve::vf::cs):=jO.front hp rfl h rfl
theorem jO.c7 {α:Type} {R:α→List Value→Prop} {ps:List α} {cs:List Value} {p:α} {va vb vc vd ve vf vg:Value} (hp:R p [va,vb,vc,vd,ve,vf,vg]) (h:jO R 7 ps cs):jO R 7 (p::ps) (va::vb::vc::vd::ve::vf::vg::cs):=jO.front hp rfl h rfl
theorem jO.c8 {α:Type} {R:α→List Value→Prop} {ps:List α} {cs:List Value} {p:α} {va vb vc vd ve vf vg vh:Value} (hp:R p [va,vb,vc,vd,ve,vf,vg,vh]) (h:jO R 8 ps cs):jO R 8 (p::ps) (va::vb::vc::vd::ve::vf::vg::vh::cs):=jO.front hp rfl h rfl
theorem jO.c9 {α:Type} {R:α→List Value→Prop} {ps:List α} {cs:List Value} {p:α} {va vb vc vd ve vf vg vh vi:Value} (hp:R p [va,vb,vc,vd,ve,vf,vg,vh,vi]) (h:jO R 9 ps cs):jO R 9 (p::ps) (va::vb::vc::vd::ve::vf::vg::vh::vi::cs):=jO.front hp rfl h rfl
theorem jO.c10 {α:Type} {R:α→List Value→Prop} {ps:List α} {cs:List Value} {p:α} {va vb vc vd ve vf vg vh vi vj:Value} (hp:R p [va,vb,vc,vd,ve,vf,vg,vh,vi,vj]) (h:jO R 10 ps cs):jO R 10 (p::ps) (va::vb::vc::vd::ve::vf::vg::vh::vi::vj::cs):=jO.front hp rfl h rfl
end Go.Proofs.YtalkmhnlgfncmaaGreatDoorW.aC
end
