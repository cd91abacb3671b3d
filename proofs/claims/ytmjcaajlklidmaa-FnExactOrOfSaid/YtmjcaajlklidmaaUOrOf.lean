/- The law FnExactOrOf over numbers and lists alone. No condition. -/
import Derived.Test.YtmjcaajlklidmaaPr2
import Derived.Test.YtmjcaajlklidmaaPr3
import Derived.Test.YtmjcaajlklidmaaOps
import Derived.Test.YtmjcaajlklidmaaA1t
namespace Go.Proofs.Ytmjcaajlklidmaa.Pu
open Go.RowKit Go.Proofs.Ytmjcaajlklidmaa.Pr Go.Proofs.Ytmjcaajlklidmaa.Pl Go.Proofs.Ytmjcaajlklidmaa.Ax Go.Proofs.Ytmjcaajlklidmaa.Ops Go.Proofs.YtmjcaajlklidmaaW.PrintWords Go.Proofs.YtmjcaajlklidmaaW.PrintLast Go.Proofs.YtmjcaajlklidmaaW.PrintMore
set_option linter.unusedVariables false
set_option linter.unusedSimpArgs false
theorem OrOf (a0 : Int) (a1 : Int) (h0 : Fii64 a0) (h1 : Fii64 a1) : laws_FnExactOrOf.f a0 a1 = some true := by
  have e : spec_OrOf.f a0 a1 = impl_OrOf.f a0 a1 := by
    simp only [spec_OrOf.f, impl_OrOf.f, l1Truth_eq, isTruth_eq, spec_l1Most.f, Option.bind_some]
    by_cases h : a0 > a1
    · simp [h, mx_max, Int.max_eq_left (Int.le_of_lt h)]
    · simp [h, mx_max, Int.max_eq_right (Int.not_lt.1 h)]
  unfold laws_FnExactOrOf.f
  rw [e]
  have : ∃ r, impl_OrOf.f a0 a1 = some r := by
    simp only [impl_OrOf.f, isTruth_eq, Option.bind_some]
    split
    · split <;> exact ⟨_, rfl⟩
    · exact ⟨_, rfl⟩
  obtain ⟨r, hr⟩ := this
  simp [hr]
end Go.Proofs.Ytmjcaajlklidmaa.Pu
