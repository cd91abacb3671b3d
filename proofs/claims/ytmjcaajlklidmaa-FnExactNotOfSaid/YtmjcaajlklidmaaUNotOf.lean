/- The law FnExactNotOf over numbers and lists alone. No condition. -/
import Derived.Test.YtmjcaajlklidmaaPr2
import Derived.Test.YtmjcaajlklidmaaOps
import Derived.Test.YtmjcaajlklidmaaA1t
namespace Go.Proofs.Ytmjcaajlklidmaa.Pu
open Go.RowKit Go.Proofs.Ytmjcaajlklidmaa.Pr Go.Proofs.Ytmjcaajlklidmaa.Pl Go.Proofs.Ytmjcaajlklidmaa.Ax Go.Proofs.Ytmjcaajlklidmaa.Ops Go.Proofs.YtmjcaajlklidmaaW.PrintWords Go.Proofs.YtmjcaajlklidmaaW.PrintLast Go.Proofs.YtmjcaajlklidmaaW.PrintMore
set_option linter.unusedVariables false
set_option linter.unusedSimpArgs false
theorem NotOf (a0 : Int) (h0 : Fii64 a0) : laws_FnExactNotOf.f a0 = some true := by
  simp only [laws_FnExactNotOf.f, spec_NotOf.f, impl_NotOf.f, l1Truth_eq, isTruth_eq, Option.bind_some]
  split <;> simp
end Go.Proofs.Ytmjcaajlklidmaa.Pu
