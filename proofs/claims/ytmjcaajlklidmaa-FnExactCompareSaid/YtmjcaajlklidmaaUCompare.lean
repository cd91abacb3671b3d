/- The law FnExactCompare over numbers and lists alone. No condition. -/
import Derived.Test.YtmjcaajlklidmaaPr0
import Derived.Test.YtmjcaajlklidmaaPr10
import Derived.Test.YtmjcaajlklidmaaPr2
import Derived.Test.YtmjcaajlklidmaaPr8
import Derived.Test.YtmjcaajlklidmaaPr9
import Derived.Test.YtmjcaajlklidmaaOps
import Derived.Test.YtmjcaajlklidmaaA1c
namespace Go.Proofs.Ytmjcaajlklidmaa.Pu
open Go.RowKit Go.Proofs.Ytmjcaajlklidmaa.Pr Go.Proofs.Ytmjcaajlklidmaa.Pl Go.Proofs.Ytmjcaajlklidmaa.Ax Go.Proofs.Ytmjcaajlklidmaa.Ops Go.Proofs.YtmjcaajlklidmaaW.PrintWords Go.Proofs.YtmjcaajlklidmaaW.PrintLast Go.Proofs.YtmjcaajlklidmaaW.PrintMore
set_option linter.unusedVariables false
set_option linter.unusedSimpArgs false
theorem Compare (a0 : Int) (y1 : S24) (y2 : S24) (h0 : Fii64 a0) (h1 : F24 y1) (h2 : F24 y2) : ∃ k, laws_FnExactCompare.f k a0 y1.f0 y1.f1 y2.f0 y2.f1 = some true := by
  refine ⟨1, ?_⟩
  have e : ∀ a b c d e, spec_Compare.f 1 a b c d e = impl_Compare.f 1 a b c d e := fun a b c d e => by
    simp only [spec_Compare.f, impl_Compare.f, isKind_eq, l1In_eq, sGoodValue_eq, iGoodValue_eq, l1Compare_eq 0, compare_eq 0, Option.bind_some]
  have : ∀ a b c d e, ∃ r, impl_Compare.f 1 a b c d e = some r := fun a b c d e => by
    simp only [impl_Compare.f, isKind_eq, iGoodValue_eq, compare_eq 0, Option.bind_some]
    split
    · split
      · split <;> exact ⟨_, rfl⟩
      · exact ⟨_, rfl⟩
    · exact ⟨_, rfl⟩
  obtain ⟨r, hr⟩ := this a0 y1.f0 y1.f1 y2.f0 y2.f1
  simp [laws_FnExactCompare.f, laws_toValue.f, e, hr]
end Go.Proofs.Ytmjcaajlklidmaa.Pu
