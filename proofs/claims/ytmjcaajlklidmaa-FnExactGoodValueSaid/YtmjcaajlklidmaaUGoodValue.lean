/- The law FnExactGoodValue over numbers and lists alone. No condition. -/
import Derived.Test.YtmjcaajlklidmaaPr0
import Derived.Test.YtmjcaajlklidmaaPr2
import Derived.Test.YtmjcaajlklidmaaOps
import Derived.Test.YtmjcaajlklidmaaA1
namespace Go.Proofs.Ytmjcaajlklidmaa.Pu
open Go.RowKit Go.Proofs.Ytmjcaajlklidmaa.Pr Go.Proofs.Ytmjcaajlklidmaa.Pl Go.Proofs.Ytmjcaajlklidmaa.Ax Go.Proofs.Ytmjcaajlklidmaa.Ops Go.Proofs.YtmjcaajlklidmaaW.PrintWords Go.Proofs.YtmjcaajlklidmaaW.PrintLast Go.Proofs.YtmjcaajlklidmaaW.PrintMore
set_option linter.unusedVariables false
set_option linter.unusedSimpArgs false
theorem GoodValue (y0 : S24) (h0 : F24 y0) : laws_FnExactGoodValue.f y0.f0 y0.f1 = some true := by
  simp [laws_FnExactGoodValue.f, laws_toValue.f, sGoodValue_eq, iGoodValue_eq]
end Go.Proofs.Ytmjcaajlklidmaa.Pu
