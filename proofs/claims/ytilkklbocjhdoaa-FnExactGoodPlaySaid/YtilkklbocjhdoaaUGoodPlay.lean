/- The law FnExactGoodPlay over numbers and lists alone. No condition. -/
import Derived.Test.YtilkklbocjhdoaaPr0
import Derived.Test.YtilkklbocjhdoaaPr3
import Derived.Test.YtilkklbocjhdoaaOps
import Derived.Test.YtilkklbocjhdoaaA7
import Derived.Test.YtilkklbocjhdoaaCv
namespace Go.Proofs.Ytilkklbocjhdoaa.Pu
open Go.RowKit Go.Proofs.Ytilkklbocjhdoaa.Pr Go.Proofs.Ytilkklbocjhdoaa.Pl Go.Proofs.Ytilkklbocjhdoaa.Ax Go.Proofs.Ytilkklbocjhdoaa.Ops Go.Proofs.YtilkklbocjhdoaaW.PrintWords Go.Proofs.YtilkklbocjhdoaaW.PrintLast Go.Proofs.YtilkklbocjhdoaaW.PrintMore
set_option linter.unusedVariables false
set_option linter.unusedSimpArgs false
theorem GoodPlay (y0 : (List S50)) (h0 : FL50 y0) : ∃ k, laws_FnExactGoodPlay.f k y0 = some true := by
  refine Ev.rounds ?_
  simp only [laws_FnExactGoodPlay.f]
  obtain ⟨r, e1, _, b⟩ := szActS_ev y0 1048576 h0 (by omega) (by omega)
  refine Ev.bind e1 ?_
  by_cases hr : r < 0
  · simp only [if_pos hr]
    exact ev_now rfl
  · simp only [if_neg hr]
    have hB := b (by omega)
    have hc := toActS_ev y0 hB
    have hl := hB.1
    refine Ev.bind hc (Ev.bind (sGoodPlay_ev _ (by simp; omega)) (Ev.bind hc (Ev.bind (iGoodPlay_ev _) ?_)))
    simp only [bne_self_eq_false, Bool.false_eq_true, if_false]
    refine Ev.bind hc (Ev.bind (eqActS_ev _ (ok_ActS hB)) ?_)
    simp only [if_true]
    exact ev_now rfl
end Go.Proofs.Ytilkklbocjhdoaa.Pu
