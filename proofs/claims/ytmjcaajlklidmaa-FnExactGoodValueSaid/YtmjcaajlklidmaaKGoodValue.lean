/- The walk of the law FnExactGoodValue (printed) and its pure statement (UGoodValue) together. No condition. -/
import Derived.Test.YtmjcaajlklidmaaPr2
import Derived.Test.YtmjcaajlklidmaaUGoodValue
import Derived.Test.YtmjcaajlklidmaaOps
namespace Go.Proofs.Ytmjcaajlklidmaa.K
open Go.RowKit Go.Proofs.Ytmjcaajlklidmaa.Ops Go.Proofs.Ytmjcaajlklidmaa.Pr Go.Proofs.YtmjcaajlklidmaaW.PrintWords
set_option linter.unusedVariables false
theorem GoodValue (y0 : S24) (w : World) (h0 : F24 y0) :
    Calls Try.prog 4 #[.agg #[.bool y0.f0, .int .i64 y0.f1]] w fun e w' => e = .returned (.bool true) ∧ Below w.heap.size w w' := by
  have h := Pu.GoodValue y0 h0
  refine (laws_FnExactGoodValue.calls y0.f0 y0.f1 true w  h).mono ?_
  rintro e w' ⟨rfl, hb⟩
  exact ⟨rfl, hb⟩
end Go.Proofs.Ytmjcaajlklidmaa.K
