/- The walk of the law FnExactCompare (printed) and its pure statement (UCompare) together. No condition. -/
import Derived.Test.YtmjcaajlklidmaaPr10
import Derived.Test.YtmjcaajlklidmaaUCompare
import Derived.Test.YtmjcaajlklidmaaOps
namespace Go.Proofs.Ytmjcaajlklidmaa.K
open Go.RowKit Go.Proofs.Ytmjcaajlklidmaa.Ops Go.Proofs.Ytmjcaajlklidmaa.Pr Go.Proofs.YtmjcaajlklidmaaW.PrintWords
set_option linter.unusedVariables false
theorem Compare (a0 : Int) (y1 : S24) (y2 : S24) (w : World) (h0 : Fii64 a0) (h1 : F24 y1) (h2 : F24 y2) :
    Calls Try.prog 11 #[.int .i64 a0, .agg #[.bool y1.f0, .int .i64 y1.f1], .agg #[.bool y2.f0, .int .i64 y2.f1]] w fun e w' => e = .returned (.bool true) ∧ Below w.heap.size w w' := by
  obtain ⟨k, h⟩ := Pu.Compare a0 y1 y2 h0 h1 h2
  refine (laws_FnExactCompare.calls k a0 y1.f0 y1.f1 y2.f0 y2.f1 true w  h).mono ?_
  rintro e w' ⟨rfl, hb⟩
  exact ⟨rfl, hb⟩
end Go.Proofs.Ytmjcaajlklidmaa.K
