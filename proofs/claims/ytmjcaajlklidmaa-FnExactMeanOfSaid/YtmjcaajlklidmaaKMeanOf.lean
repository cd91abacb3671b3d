/- The walk of the law FnExactMeanOf (printed) and its pure statement (UMeanOf) together. No condition. -/
import Derived.Test.YtmjcaajlklidmaaPr11
import Derived.Test.YtmjcaajlklidmaaUMeanOf
import Derived.Test.YtmjcaajlklidmaaOps
namespace Go.Proofs.Ytmjcaajlklidmaa.K
open Go.RowKit Go.Proofs.Ytmjcaajlklidmaa.Ops Go.Proofs.Ytmjcaajlklidmaa.Pr Go.Proofs.YtmjcaajlklidmaaW.PrintWords
set_option linter.unusedVariables false
theorem MeanOf (y0 : S38) (w : World) (h0 : F38 y0) :
    Calls Try.prog 12 #[.agg #[.int .i64 y0.f0, .int .i64 y0.f1, .int .i64 y0.f2, .bool y0.f3.f0, .int .i64 y0.f3.f1, .bool y0.f4.f0, .int .i64 y0.f4.f1]] w fun e w' => e = .returned (.bool true) ∧ Below w.heap.size w w' := by
  obtain ⟨k, h⟩ := Pu.MeanOf y0 h0
  refine (laws_FnExactMeanOf.calls k y0.f0 y0.f1 y0.f2 y0.f3.f0 y0.f3.f1 y0.f4.f0 y0.f4.f1 true w  h).mono ?_
  rintro e w' ⟨rfl, hb⟩
  exact ⟨rfl, hb⟩
end Go.Proofs.Ytmjcaajlklidmaa.K
