/- The walk of the law FnExactOrOf (printed) and its pure statement (UOrOf) together. No condition. -/
import Derived.Test.YtmjcaajlklidmaaPr3
import Derived.Test.YtmjcaajlklidmaaUOrOf
import Derived.Test.YtmjcaajlklidmaaOps
namespace Go.Proofs.Ytmjcaajlklidmaa.K
open Go.RowKit Go.Proofs.Ytmjcaajlklidmaa.Ops Go.Proofs.Ytmjcaajlklidmaa.Pr Go.Proofs.YtmjcaajlklidmaaW.PrintWords
set_option linter.unusedVariables false
theorem OrOf (a0 : Int) (a1 : Int) (w : World) (h0 : Fii64 a0) (h1 : Fii64 a1) :
    Calls Try.prog 7 #[.int .i64 a0, .int .i64 a1] w fun e w' => e = .returned (.bool true) ∧ Below w.heap.size w w' := by
  have h := Pu.OrOf a0 a1 h0 h1
  refine (laws_FnExactOrOf.calls a0 a1 true w  h).mono ?_
  rintro e w' ⟨rfl, hb⟩
  exact ⟨rfl, hb⟩
end Go.Proofs.Ytmjcaajlklidmaa.K
