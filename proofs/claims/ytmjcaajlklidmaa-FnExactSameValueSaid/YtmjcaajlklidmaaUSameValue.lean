/- The law FnExactSameValue over numbers and lists alone. No condition. -/
import Derived.Test.YtmjcaajlklidmaaPr0
import Derived.Test.YtmjcaajlklidmaaPr2
import Derived.Test.YtmjcaajlklidmaaPr3
import Derived.Test.YtmjcaajlklidmaaPr4
import Derived.Test.YtmjcaajlklidmaaOps
import Derived.Test.YtmjcaajlklidmaaA1
namespace Go.Proofs.Ytmjcaajlklidmaa.Pu
open Go.RowKit Go.Proofs.Ytmjcaajlklidmaa.Pr Go.Proofs.Ytmjcaajlklidmaa.Pl Go.Proofs.Ytmjcaajlklidmaa.Ax Go.Proofs.Ytmjcaajlklidmaa.Ops Go.Proofs.YtmjcaajlklidmaaW.PrintWords Go.Proofs.YtmjcaajlklidmaaW.PrintLast Go.Proofs.YtmjcaajlklidmaaW.PrintMore
set_option linter.unusedVariables false
set_option linter.unusedSimpArgs false
theorem SameValue (y0 : S24) (y1 : S24) (h0 : F24 y0) (h1 : F24 y1) : laws_FnExactSameValue.f y0.f0 y0.f1 y1.f0 y1.f1 = some true := by
  have e : ∀ a b c d, spec_SameValue.f a b c d = impl_SameValue.f a b c d := fun a b c d => by
    simp only [spec_SameValue.f, impl_SameValue.f, sGoodValue_eq, iGoodValue_eq]
  have : ∀ a b c d, ∃ r, impl_SameValue.f a b c d = some r := fun a b c d => by
    simp only [impl_SameValue.f, iGoodValue_eq, Option.bind_some]
    split
    · split <;> exact ⟨_, rfl⟩
    · exact ⟨_, rfl⟩
  obtain ⟨r, hr⟩ := this y0.f0 y0.f1 y1.f0 y1.f1
  simp [laws_FnExactSameValue.f, laws_toValue.f, e, hr]
end Go.Proofs.Ytmjcaajlklidmaa.Pu
