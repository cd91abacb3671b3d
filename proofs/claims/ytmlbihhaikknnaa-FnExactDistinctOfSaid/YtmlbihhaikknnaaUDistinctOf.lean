/- The law FnExactDistinctOf over numbers and lists alone. No condition. -/
import Derived.Test.YtmlbihhaikknnaaPr0
import Derived.Test.YtmlbihhaikknnaaPr2
import Derived.Test.YtmlbihhaikknnaaPr4
import Derived.Test.YtmlbihhaikknnaaPr5
import Derived.Test.YtmlbihhaikknnaaPr6
import Derived.Test.YtmlbihhaikknnaaOps
import Derived.Test.YtmlbihhaikknnaaADis
namespace Go.Proofs.Ytmlbihhaikknnaa.Pu
open Go.RowKit Go.Proofs.Ytmlbihhaikknnaa.Pr Go.Proofs.Ytmlbihhaikknnaa.Pl Go.Proofs.Ytmlbihhaikknnaa.Ax Go.Proofs.Ytmlbihhaikknnaa.Ops Go.Proofs.YtmlbihhaikknnaaW.PrintWords Go.Proofs.YtmlbihhaikknnaaW.PrintLast Go.Proofs.YtmlbihhaikknnaaW.PrintMore
set_option linter.unusedVariables false
set_option linter.unusedSimpArgs false
theorem all_gv {l : List S43} (h : l.all gvS = true) : ∀ x ∈ l, gvS x = true := fun x hx => List.all_eq_true.1 h x hx
theorem l4V_l0 (zs xs : List S43) (hb : xs.length < 9223372036854775807) : ∀ (ys : List S43) (j : Nat), xs.drop j = ys →
    Ev (fun k => spec_l4Values.l0 k zs xs (xs.length : Int) (j : Int)) (ys.all gvS && decide ((zs.length : Int) ≤ 40))
  | [], j, h => by
    have h1 := drop_nil h
    refine ev_succ ?_
    simp only [spec_l4Values.l0]
    simp only [if_neg (show ¬ ((j : Int) < (xs.length : Int)) by omega)]
    exact ev_now (by simp)
  | y :: ys, j, h => by
    obtain ⟨h1, h2, h3⟩ := drop_cons h
    refine ev_succ ?_
    simp only [spec_l4Values.l0]
    simp only [if_pos (show (j : Int) < (xs.length : Int) by omega), if_pos (show (0 : Int) ≤ (j : Int) by omega), rd_T43_drop h, sGoodValue_eq, Option.bind_some, wrap_succ (show j < 9223372036854775807 by omega)]
    cases e : gv y.f0 y.f1
    · simp only [Bool.false_eq_true, if_false]
      exact ev_now (by simp [gvS, e])
    · simp only [if_true]
      have := l4V_l0 zs xs hb ys (j + 1) h3
      simpa [gvS, e] using this
theorem DistinctOf_both (l : List S43) (hb : l.length < 9223372036854775807) : ∃ (out : List S43) (ok : Bool), Ev (fun k => spec_DistinctOf.f k l) (out, ok) ∧ Ev (fun k => impl_DistinctOf.f k l) (out, ok) ∧ out.length ≤ 40 := by
  have sv : Ev (fun k => spec_l4Values.f k l) (l.all gvS && decide ((l.length : Int) ≤ 40)) := by
    simp only [spec_l4Values.f]
    exact l4V_l0 l l hb l 0 rfl
  simp only [spec_DistinctOf.f, impl_DistinctOf.f]
  by_cases hl : (l.length : Int) > 40
  · refine ⟨[], false, Ev.bind sv ?_, ?_, by simp⟩
    · simp only [show decide ((l.length : Int) ≤ 40) = false by simp; omega, Bool.and_false, Bool.false_eq_true, if_false]
      exact ev_now rfl
    · simp only [if_pos hl]
      exact ev_now rfl
  · cases e : l.all gvS
    · refine ⟨[], false, Ev.bind sv ?_, ?_, by simp⟩
      · simp only [e, Bool.false_and, Bool.false_eq_true, if_false]
        exact ev_now rfl
      · simp only [if_neg hl]
        refine Ev.bind (areValues_ev l hb) ?_
        simp only [e, Bool.false_eq_true, if_false]
        exact ev_now rfl
    · refine ⟨risen ltVal l, true, Ev.bind sv ?_, ?_, ?_⟩
      · simp only [e, show decide ((l.length : Int) ≤ 40) = true by simp; omega, Bool.and_true, if_true]
        exact Ev.bind (l4D_ev l (all_gv e) (by omega)) (ev_now rfl)
      · simp only [if_neg hl]
        refine Ev.bind (areValues_ev l hb) ?_
        simp only [e, if_true, impl_distinct.f, if_pos (show l.length * 16 ≤ 140737488355328 by omega), Option.bind_some]
        exact ev_now rfl
      · have := risen_length (lt := ltVal) l
        omega
theorem DistinctOf (y0 : (List S45)) (h0 : FL45 y0) : ∃ k, laws_FnExactDistinctOf.f k y0 = some true := by
  refine Ev.rounds ?_
  simp only [laws_FnExactDistinctOf.f]
  obtain ⟨r, e1, _, b⟩ := szValueS_ev y0 1048576 h0 (by omega) (by omega)
  refine Ev.bind e1 ?_
  by_cases hr : r < 0
  · simp only [if_pos hr]
    exact ev_now rfl
  · simp only [if_neg hr]
    have hB := b (by omega)
    have hc := toValueS_ev y0 hB
    have hl := hB.1
    obtain ⟨out, ok, es, ei, hlo⟩ := DistinctOf_both (y0.map cvValue) (by simp; omega)
    have ho : OkValueS out := ⟨by omega, fun _ _ => trivial⟩
    refine Ev.bind hc (Ev.bind es (Ev.bind hc (Ev.bind ei (Ev.bind (eqValueS_ev out ho) ?_))))
    simp only [if_true, bne_self_eq_false]
    refine ev_succ ?_
    simp only [laws_FnExactDistinctOf.j0, Bool.false_eq_true, if_false]
    refine Ev.bind hc (Ev.bind (eqValueS_ev _ (ok_ValueS hB)) ?_)
    simp only [if_true]
    refine Ev.bind (markValueS_ev _ 1 (by omega) (by simp; omega)) ?_
    simp only [if_neg (show ¬ (1 + 2 * ((y0.map cvValue).length : Int) < 0) by omega)]
    refine Ev.bind (eqValueS_ev out ho) ?_
    simp only [if_true, bne_self_eq_false]
    refine ev_succ ?_
    simp only [laws_FnExactDistinctOf.j1, Bool.false_eq_true, if_false]
    refine Ev.bind (markValueS_ev out 1 (by omega) (by omega)) (Ev.bind (heldValueS_ev _ 1 (by omega) (by omega)) ?_)
    simp only [if_neg (show ¬ (1 + 2 * (out.length : Int) < 0) by omega), if_true]
    refine Ev.bind hc (Ev.bind ei (Ev.bind (eqValueS_ev out ho) ?_))
    simp only [if_true, bne_self_eq_false]
    refine ev_succ ?_
    simp only [laws_FnExactDistinctOf.j2, Bool.false_eq_true, if_false]
    refine Ev.bind (heldValueS_ev _ 1 (by omega) (by omega)) ?_
    simp only [if_neg (show ¬ (1 + 2 * (out.length : Int) < 0) by omega), if_true]
    exact ev_now rfl
end Go.Proofs.Ytmlbihhaikknnaa.Pu
