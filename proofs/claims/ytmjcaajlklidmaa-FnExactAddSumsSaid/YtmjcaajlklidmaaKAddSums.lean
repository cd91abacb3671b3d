/- The walk of the law FnExactAddSums (printed) and its pure statement (UAddSums) together. No condition. -/
import Derived.Test.YtmjcaajlklidmaaPr6
import Derived.Test.YtmjcaajlklidmaaUAddSums
import Derived.Test.YtmjcaajlklidmaaOps
namespace Go.Proofs.Ytmjcaajlklidmaa.K
open Go.RowKit Go.Proofs.Ytmjcaajlklidmaa.Ops Go.Proofs.Ytmjcaajlklidmaa.Pr Go.Proofs.YtmjcaajlklidmaaW.PrintWords
set_option linter.unusedVariables false
theorem AddSums (y0 : S38) (y1 : S38) (w : World) (h0 : F38 y0) (h1 : F38 y1) :
    Calls Try.prog 14 #[.agg #[.int .i64 y0.f0, .int .i64 y0.f1, .int .i64 y0.f2, .bool y0.f3.f0, .int .i64 y0.f3.f1, .bool y0.f4.f0, .int .i64 y0.f4.f1], .agg #[.int .i64 y1.f0, .int .i64 y1.f1, .int .i64 y1.f2, .bool y1.f3.f0, .int .i64 y1.f3.f1, .bool y1.f4.f0, .int .i64 y1.f4.f1]] w fun e w' => e = .returned (.bool true) ∧ Below w.heap.size w w' := by
  obtain ⟨k, h⟩ := Pu.AddSums y0 y1 h0 h1
  refine (laws_FnExactAddSums.calls k y0.f0 y0.f1 y0.f2 y0.f3.f0 y0.f3.f1 y0.f4.f0 y0.f4.f1 y1.f0 y1.f1 y1.f2 y1.f3.f0 y1.f3.f1 y1.f4.f0 y1.f4.f1 true w  h).mono ?_
  rintro e w' ⟨rfl, hb⟩
  exact ⟨rfl, hb⟩
end Go.Proofs.Ytmjcaajlklidmaa.K
