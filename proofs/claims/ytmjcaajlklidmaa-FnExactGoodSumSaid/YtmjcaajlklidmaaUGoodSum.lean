/- The law FnExactGoodSum over numbers and lists alone. No condition. -/
import Derived.Test.YtmjcaajlklidmaaPr0
import Derived.Test.YtmjcaajlklidmaaPr2
import Derived.Test.YtmjcaajlklidmaaPr5
import Derived.Test.YtmjcaajlklidmaaPr6
import Derived.Test.YtmjcaajlklidmaaOps
import Derived.Test.YtmjcaajlklidmaaA4g
namespace Go.Proofs.Ytmjcaajlklidmaa.Pu
open Go.RowKit Go.Proofs.Ytmjcaajlklidmaa.Pr Go.Proofs.Ytmjcaajlklidmaa.Pl Go.Proofs.Ytmjcaajlklidmaa.Ax Go.Proofs.Ytmjcaajlklidmaa.Ops Go.Proofs.YtmjcaajlklidmaaW.PrintWords Go.Proofs.YtmjcaajlklidmaaW.PrintLast Go.Proofs.YtmjcaajlklidmaaW.PrintMore
set_option linter.unusedVariables false
set_option linter.unusedSimpArgs false
theorem GoodSum (y0 : S38) (h0 : F38 y0) : ∃ k, laws_FnExactGoodSum.f k y0.f0 y0.f1 y0.f2 y0.f3.f0 y0.f3.f1 y0.f4.f0 y0.f4.f1 = some true :=
  ⟨1, by simp [laws_FnExactGoodSum.f, laws_toSum.f, laws_toValue.f, sGoodSum_eq 0, iGoodSum_eq 0]⟩
end Go.Proofs.Ytmjcaajlklidmaa.Pu
