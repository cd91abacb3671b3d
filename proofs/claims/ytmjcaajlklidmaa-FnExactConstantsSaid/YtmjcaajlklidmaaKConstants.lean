/- The walk of the law FnExactConstants (printed) and its pure statement (UConstants) together. No condition. -/
import Derived.Test.YtmjcaajlklidmaaPr2
import Derived.Test.YtmjcaajlklidmaaUConstants
import Derived.Test.YtmjcaajlklidmaaOps
namespace Go.Proofs.Ytmjcaajlklidmaa.K
open Go.RowKit Go.Proofs.Ytmjcaajlklidmaa.Ops Go.Proofs.Ytmjcaajlklidmaa.Pr Go.Proofs.YtmjcaajlklidmaaW.PrintWords
set_option linter.unusedVariables false
theorem Constants  (w : World)  :
    Calls Try.prog 3 #[] w fun e w' => e = .returned (.bool true) ∧ Below w.heap.size w w' := by
  have h := Pu.Constants  
  refine (laws_FnExactConstants.calls  true w  h).mono ?_
  rintro e w' ⟨rfl, hb⟩
  exact ⟨rfl, hb.below⟩
end Go.Proofs.Ytmjcaajlklidmaa.K
