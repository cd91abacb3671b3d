/- The law FnExactGoodDeps over numbers and lists alone. No condition. -/
import Derived.Test.YtdcfndjiicjlaaaPr0
import Derived.Test.YtdcfndjiicjlaaaPr5
import Derived.Test.YtdcfndjiicjlaaaOps
import Derived.Test.YtdcfndjiicjlaaaA5
import Derived.Test.YtdcfndjiicjlaaaCv
namespace Go.Proofs.Ytdcfndjiicjlaaa.Pu
open Go.RowKit Go.Proofs.Ytdcfndjiicjlaaa.Pr Go.Proofs.Ytdcfndjiicjlaaa.Pl Go.Proofs.Ytdcfndjiicjlaaa.Ax Go.Proofs.Ytdcfndjiicjlaaa.Ops Go.Proofs.YtdcfndjiicjlaaaW.PrintWords Go.Proofs.YtdcfndjiicjlaaaW.PrintLast Go.Proofs.YtdcfndjiicjlaaaW.PrintMore
set_option linter.unusedVariables false
set_option linter.unusedSimpArgs false
theorem GoodDeps (a0 : Int) (y1 : (List S31)) (h0 : Fii64 a0) (h1 : FL31 y1) : ∃ k, laws_FnExactGoodDeps.f k a0 y1 = some true := by
  refine Ev.rounds ?_
  simp only [laws_FnExactGoodDeps.f]
  obtain ⟨r, e1, _, b⟩ := szDepS_ev y1 1048576 h1 (by omega) (by omega)
  refine Ev.bind e1 ?_
  by_cases hr : r < 0
  · simp only [if_pos hr]
    exact ev_now rfl
  · simp only [if_neg hr]
    have hB := b (by omega)
    have hc := toDepS_ev y1 hB
    have hO := ok_DepS hB
    refine Ev.bind hc (Ev.bind (sGD_ev a0 _ hO) (Ev.bind hc ?_))
    simp only [impl_GoodDeps.f, gdV, Option.bind_some, bne_self_eq_false, Bool.false_eq_true, if_false]
    refine Ev.bind hc (Ev.bind (eqDepS_ev _ hO) ?_)
    simp only [if_true]
    exact ev_now rfl
end Go.Proofs.Ytdcfndjiicjlaaa.Pu
