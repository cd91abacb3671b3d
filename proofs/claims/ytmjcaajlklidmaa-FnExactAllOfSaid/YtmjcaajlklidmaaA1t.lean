/- What the functions of chapter 1 tell of truths, in plain words. No condition. -/
import Derived.Test.YtmjcaajlklidmaaPr2
import Derived.Test.YtmjcaajlklidmaaA1
namespace Go.Proofs.Ytmjcaajlklidmaa.Ax
open Go.RowKit Go.Proofs.Ytmjcaajlklidmaa.Pr Go.Proofs.Ytmjcaajlklidmaa.Pl Go.Proofs.YtmjcaajlklidmaaW.PrintWords Go.Proofs.YtmjcaajlklidmaaW.PrintLast Go.Proofs.YtmjcaajlklidmaaW.PrintMore
set_option linter.unusedVariables false
set_option linter.unusedSimpArgs false
theorem l1Truth_eq (a : Int) : spec_l1Truth.f a = some (win a 0 2) := by
  unfold spec_l1Truth.f
  rw [l1In_eq]
  rfl
theorem isTruth_eq (a : Int) : impl_isTruth.f a = some (win a 0 2) := by
  unfold impl_isTruth.f
  rw [within_eq]
  rfl
end Go.Proofs.Ytmjcaajlklidmaa.Ax
