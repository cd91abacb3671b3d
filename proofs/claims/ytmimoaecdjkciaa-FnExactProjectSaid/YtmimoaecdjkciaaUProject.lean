/- The law FnExactProject over numbers and lists alone. No condition. -/
import Derived.Test.YtmimoaecdjkciaaPr4
import Derived.Test.YtmimoaecdjkciaaOps
import Derived.Test.YtmimoaecdjkciaaMerge1
namespace Go.Proofs.Ytmimoaecdjkciaa.Pu
open Go.RowKit Go.Proofs.Ytmimoaecdjkciaa.Pr Go.Proofs.Ytmimoaecdjkciaa.Pl Go.Proofs.Ytmimoaecdjkciaa.Ax Go.Proofs.Ytmimoaecdjkciaa.Ops Go.Proofs.YtmimoaecdjkciaaW.PrintWords Go.Proofs.YtmimoaecdjkciaaW.PrintLast Go.Proofs.YtmimoaecdjkciaaW.PrintMore
set_option linter.unusedVariables false
set_option linter.unusedSimpArgs false
theorem Project_both (ns : List Int) (ts : List (List Int)) (l1 : List Int) (h0 : BdIntS ns) (h1 : BdIntSS ts) (h2 : BdIntS l1) : ∃ (y0 : List Int) (y1 : List (List Int)) (b : Bool), Ev (fun k => spec_Project.f k ns ts l1) (y0, y1, b) ∧ Ev (fun k => impl_Project.f k ns ts l1) (y0, y1, b) ∧ BdIntS y0 ∧ BdIntSS y1 :=
  ⟨(prV ns ts l1).1, (prV ns ts l1).2.1, (prV ns ts l1).2.2, projectS_ev ns ts l1 (ok_IntS h0) (ok_IntSS h1) (ok_IntS h2), projectI_ev ns ts l1 (ok_IntS h0) (ok_IntSS h1) (ok_IntS h2), (prV_bd ns ts l1).1, (prV_bd ns ts l1).2⟩
end Go.Proofs.Ytmimoaecdjkciaa.Pu
