/- The law FnExactMeanOf over numbers and lists alone. No condition. -/
import Derived.Test.YtmjcaajlklidmaaPr0
import Derived.Test.YtmjcaajlklidmaaPr11
import Derived.Test.YtmjcaajlklidmaaPr2
import Derived.Test.YtmjcaajlklidmaaPr5
import Derived.Test.YtmjcaajlklidmaaOps
import Derived.Test.YtmjcaajlklidmaaA4g
namespace Go.Proofs.Ytmjcaajlklidmaa.Pu
open Go.RowKit Go.Proofs.Ytmjcaajlklidmaa.Pr Go.Proofs.Ytmjcaajlklidmaa.Pl Go.Proofs.Ytmjcaajlklidmaa.Ax Go.Proofs.Ytmjcaajlklidmaa.Ops Go.Proofs.YtmjcaajlklidmaaW.PrintWords Go.Proofs.YtmjcaajlklidmaaW.PrintLast Go.Proofs.YtmjcaajlklidmaaW.PrintMore
set_option linter.unusedVariables false
set_option linter.unusedSimpArgs false
theorem MeanOf (y0 : S38) (h0 : F38 y0) : ∃ k, laws_FnExactMeanOf.f k y0.f0 y0.f1 y0.f2 y0.f3.f0 y0.f3.f1 y0.f4.f0 y0.f4.f1 = some true := by
  refine ⟨1, ?_⟩
  have e : ∀ a b c d e f g, spec_MeanOf.f 1 a b c d e f g = impl_MeanOf.f 1 a b c d e f g := fun a b c d e f g => by
    simp only [spec_MeanOf.f, impl_MeanOf.f, sGoodSum_eq 0, iGoodSum_eq 0]
  have : ∀ a b c d e f g, ∃ r, impl_MeanOf.f 1 a b c d e f g = some r := fun a b c d e f g => by
    simp only [impl_MeanOf.f, iGoodSum_eq 0, Option.bind_some]
    split
    · split
      · exact ⟨_, rfl⟩
      · split <;> exact ⟨_, rfl⟩
    · exact ⟨_, rfl⟩
  obtain ⟨r, hr⟩ := this y0.f0 y0.f1 y0.f2 y0.f3.f0 y0.f3.f1 y0.f4.f0 y0.f4.f1
  simp [laws_FnExactMeanOf.f, laws_toSum.f, laws_toValue.f, laws_eqValue.f, e, hr]
end Go.Proofs.Ytmjcaajlklidmaa.Pu
