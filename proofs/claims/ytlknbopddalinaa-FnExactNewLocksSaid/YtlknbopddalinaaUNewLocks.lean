/- The law FnExactNewLocks over numbers and lists alone. No condition. -/
import Derived.Test.YtlknbopddalinaaPr1
import Derived.Test.YtlknbopddalinaaOps
import Derived.Test.YtlknbopddalinaaCv
namespace Go.Proofs.Ytlknbopddalinaa.Pu
open Go.RowKit Go.Proofs.Ytlknbopddalinaa.Pr Go.Proofs.Ytlknbopddalinaa.Pl Go.Proofs.Ytlknbopddalinaa.Ax Go.Proofs.Ytlknbopddalinaa.Ops Go.Proofs.YtlknbopddalinaaW.PrintWords Go.Proofs.YtlknbopddalinaaW.PrintLast Go.Proofs.YtlknbopddalinaaW.PrintMore
set_option linter.unusedVariables false
set_option linter.unusedSimpArgs false
theorem NewLocks_both : ∃ (y0 : List (List Int)) (y1 y2 : List Int), spec_NewLocks.f = some (y0, y1, y2) ∧ impl_NewLocks.f = some (y0, y1, y2) ∧ BdIntSS y0 ∧ BdIntS y1 ∧ BdIntS y2 := by
  refine ⟨_, _, _, by unfold spec_NewLocks.f; rw [if_pos (by omega)], by unfold impl_NewLocks.f; rw [if_pos (by omega)], ⟨by simp, fun e he => ?_⟩, ⟨by simp, fun _ _ => trivial⟩, ⟨by simp, fun _ _ => trivial⟩⟩
  have : e = [] := List.eq_of_mem_replicate he
  subst this
  exact ⟨by simp, fun _ _ => trivial⟩
end Go.Proofs.Ytlknbopddalinaa.Pu
