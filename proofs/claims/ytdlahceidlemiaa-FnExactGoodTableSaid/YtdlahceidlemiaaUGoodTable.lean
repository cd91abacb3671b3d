/- The law FnExactGoodTable over numbers and lists alone. No condition. -/
import Derived.Test.YtdlahceidlemiaaPr0
import Derived.Test.YtdlahceidlemiaaPr10
import Derived.Test.YtdlahceidlemiaaOps
import Derived.Test.YtdlahceidlemiaaA2t
import Derived.Test.YtdlahceidlemiaaCv
namespace Go.Proofs.Ytdlahceidlemiaa.Pu
open Go.RowKit Go.Proofs.Ytdlahceidlemiaa.Pr Go.Proofs.Ytdlahceidlemiaa.Pl Go.Proofs.Ytdlahceidlemiaa.Ax Go.Proofs.Ytdlahceidlemiaa.Ops Go.Proofs.YtdlahceidlemiaaW.PrintWords Go.Proofs.YtdlahceidlemiaaW.PrintLast Go.Proofs.YtdlahceidlemiaaW.PrintMore
set_option linter.unusedVariables false
set_option linter.unusedSimpArgs false
theorem GoodTable (y0 : (List S77)) (h0 : FL77 y0) : ∃ k, laws_FnExactGoodTable.f k y0 = some true := by
  refine Ev.rounds ?_
  simp only [laws_FnExactGoodTable.f]
  obtain ⟨r, e1, _, b⟩ := szRowS_ev y0 1048576 h0 (by omega) (by omega)
  refine Ev.bind e1 ?_
  by_cases hr : r < 0
  · simp only [if_pos hr]
    exact ev_now rfl
  · simp only [if_neg hr]
    have hB := b (by omega)
    have hc := toRowS_ev y0 hB
    have hO := ok_RowS hB
    refine Ev.bind hc (Ev.bind (sGT_ev _ hO) (Ev.bind hc (Ev.bind (iGT_ev _ hO) ?_)))
    simp only [bne_self_eq_false, Bool.false_eq_true, if_false]
    refine Ev.bind hc (Ev.bind (eqRowS_ev _ hO) ?_)
    simp only [if_true]
    exact ev_now rfl
end Go.Proofs.Ytdlahceidlemiaa.Pu
