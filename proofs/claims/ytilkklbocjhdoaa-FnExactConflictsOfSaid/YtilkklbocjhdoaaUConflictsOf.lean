/- The law FnExactConflictsOf over numbers and lists alone. No condition. -/
import Derived.Test.YtilkklbocjhdoaaPr0
import Derived.Test.YtilkklbocjhdoaaPr3
import Derived.Test.YtilkklbocjhdoaaPr4
import Derived.Test.YtilkklbocjhdoaaPr6
import Derived.Test.YtilkklbocjhdoaaOps
import Derived.Test.YtilkklbocjhdoaaA7c
import Derived.Test.YtilkklbocjhdoaaAm
namespace Go.Proofs.Ytilkklbocjhdoaa.Pu
open Go.RowKit Go.Proofs.Ytilkklbocjhdoaa.Pr Go.Proofs.Ytilkklbocjhdoaa.Pl Go.Proofs.Ytilkklbocjhdoaa.Ax Go.Proofs.Ytilkklbocjhdoaa.Ops Go.Proofs.YtilkklbocjhdoaaW.PrintWords Go.Proofs.YtilkklbocjhdoaaW.PrintLast Go.Proofs.YtilkklbocjhdoaaW.PrintMore
set_option linter.unusedVariables false
set_option linter.unusedSimpArgs false
theorem ConflictsOf_both (l : List S47) (hb : l.length < 9223372036854775807) : ∃ out ok, Ev (fun k => spec_ConflictsOf.f k l) (out, ok) ∧ Ev (fun k => impl_ConflictsOf.f k l) (out, ok) ∧ out.length ≤ 16 := by
  simp only [spec_ConflictsOf.f, impl_ConflictsOf.f]
  cases e : gp l
  · exact ⟨[], false, Ev.bind (sGoodPlay_ev l hb) (by simp only [e, Bool.false_eq_true, if_false]; exact ev_now rfl), Ev.bind (iGoodPlay_ev l) (by simp only [e, Bool.false_eq_true, if_false]; exact ev_now rfl), by simp⟩
  · obtain ⟨r, h1, h2, h3⟩ := conflicts_ev e
    exact ⟨r, true, Ev.bind (sGoodPlay_ev l hb) (by simp only [e, if_true]; exact Ev.bind h2 (ev_now rfl)), Ev.bind (iGoodPlay_ev l) (by simp only [e, if_true]; exact Ev.bind h3 (ev_now rfl)), by omega⟩
theorem ConflictsOf (y0 : (List S50)) (h0 : FL50 y0) : ∃ k, laws_FnExactConflictsOf.f k y0 = some true := by
  refine Ev.rounds ?_
  simp only [laws_FnExactConflictsOf.f]
  obtain ⟨r, e1, _, b⟩ := szActS_ev y0 1048576 h0 (by omega) (by omega)
  refine Ev.bind e1 ?_
  by_cases hr : r < 0
  · simp only [if_pos hr]
    exact ev_now rfl
  · simp only [if_neg hr]
    have hB := b (by omega)
    have hc := toActS_ev y0 hB
    have hl := hB.1
    obtain ⟨out, ok, es, ei, hlo⟩ := ConflictsOf_both (y0.map cvAct) (by simp; omega)
    have ho : OkIntS out := ⟨by omega, fun _ _ => trivial⟩
    refine Ev.bind hc (Ev.bind es (Ev.bind hc (Ev.bind ei (Ev.bind (eqIntS_ev out ho) ?_))))
    simp only [if_true, bne_self_eq_false]
    refine ev_succ ?_
    simp only [laws_FnExactConflictsOf.j0, Bool.false_eq_true, if_false]
    refine Ev.bind hc (Ev.bind (eqActS_ev _ (ok_ActS hB)) ?_)
    simp only [if_true]
    refine Ev.bind (markActS_ev _ 1 (by omega) (by simp; omega)) ?_
    simp only [if_neg (show ¬ (1 + 3 * ((y0.map cvAct).length : Int) < 0) by omega)]
    refine Ev.bind (eqIntS_ev out ho) ?_
    simp only [if_true, bne_self_eq_false]
    refine ev_succ ?_
    simp only [laws_FnExactConflictsOf.j1, Bool.false_eq_true, if_false]
    refine Ev.bind (markIntS_ev out 1 (by omega) (by omega)) (Ev.bind (heldIntS_ev _ 1 (by omega) (by omega)) ?_)
    simp only [if_neg (show ¬ (1 + (out.length : Int) < 0) by omega), if_true]
    refine Ev.bind hc (Ev.bind ei (Ev.bind (eqIntS_ev out ho) ?_))
    simp only [if_true, bne_self_eq_false]
    refine ev_succ ?_
    simp only [laws_FnExactConflictsOf.j2, Bool.false_eq_true, if_false]
    refine Ev.bind (heldIntS_ev _ 1 (by omega) (by omega)) ?_
    simp only [if_neg (show ¬ (1 + (out.length : Int) < 0) by omega), if_true]
    exact ev_now rfl
end Go.Proofs.Ytilkklbocjhdoaa.Pu
