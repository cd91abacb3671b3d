/- The law FnExactGoodRelation over numbers and lists alone. No condition. -/
import Derived.Test.YtimmjgpagpkioaaPr0
import Derived.Test.YtimmjgpagpkioaaPr6
import Derived.Test.YtimmjgpagpkioaaOps
import Derived.Test.YtimmjgpagpkioaaA3
import Derived.Test.YtimmjgpagpkioaaCv
namespace Go.Proofs.Ytimmjgpagpkioaa.Pu
open Go.RowKit Go.Proofs.Ytimmjgpagpkioaa.Pr Go.Proofs.Ytimmjgpagpkioaa.Pl Go.Proofs.Ytimmjgpagpkioaa.Ax Go.Proofs.Ytimmjgpagpkioaa.Ops Go.Proofs.YtimmjgpagpkioaaW.PrintWords Go.Proofs.YtimmjgpagpkioaaW.PrintLast Go.Proofs.YtimmjgpagpkioaaW.PrintMore
set_option linter.unusedVariables false
set_option linter.unusedSimpArgs false
theorem GoodRelation (y0 : S25) (h0 : F25 y0) : ∃ k, laws_FnExactGoodRelation.f k y0.f0 y0.f1 = some true := by
  refine Ev.rounds ?_
  simp only [laws_FnExactGoodRelation.f]
  obtain ⟨r, e1, _, b⟩ := szRelation_ev y0 1048576 h0 (by omega) (by omega)
  refine Ev.bind e1 ?_
  by_cases hr : r < 0
  · simp only [if_pos hr]
    exact ev_now rfl
  · simp only [if_neg hr]
    have hB := b (by omega)
    have hc := toRelation_ev y0 hB
    have hO := ok_Relation hB
    refine Ev.bind hc (Ev.bind (sGR_ev _ _ hO.1 hO.2) (Ev.bind hc (Ev.bind (iGR_ev _ _ hO.1 hO.2) ?_)))
    simp only [bne_self_eq_false, Bool.false_eq_true, if_false]
    refine Ev.bind hc (Ev.bind (eqRelation_ev _ hO) ?_)
    simp only [if_true]
    exact ev_now rfl
end Go.Proofs.Ytimmjgpagpkioaa.Pu
