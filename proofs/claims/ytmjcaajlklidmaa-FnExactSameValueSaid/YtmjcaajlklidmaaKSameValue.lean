/- The walk of the law FnExactSameValue (printed) and its pure statement (USameValue) together. No condition. -/
import Derived.Test.YtmjcaajlklidmaaPr4
import Derived.Test.YtmjcaajlklidmaaUSameValue
import Derived.Test.YtmjcaajlklidmaaOps
namespace Go.Proofs.Ytmjcaajlklidmaa.K
open Go.RowKit Go.Proofs.Ytmjcaajlklidmaa.Ops Go.Proofs.Ytmjcaajlklidmaa.Pr Go.Proofs.YtmjcaajlklidmaaW.PrintWords
set_option linter.unusedVariables false
theorem SameValue (y0 : S24) (y1 : S24) (w : World) (h0 : F24 y0) (h1 : F24 y1) :
    Calls Try.prog 8 #[.agg #[.bool y0.f0, .int .i64 y0.f1], .agg #[.bool y1.f0, .int .i64 y1.f1]] w fun e w' => e = .returned (.bool true) ∧ Below w.heap.size w w' := by
  have h := Pu.SameValue y0 y1 h0 h1
  refine (laws_FnExactSameValue.calls y0.f0 y0.f1 y1.f0 y1.f1 true w  h).mono ?_
  rintro e w' ⟨rfl, hb⟩
  exact ⟨rfl, hb⟩
end Go.Proofs.Ytmjcaajlklidmaa.K
