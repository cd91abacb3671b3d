/- What comparing tells, in plain words. No condition. -/
import Derived.Test.YtdlahceidlemiaaPr1
import Derived.Test.YtdlahceidlemiaaPr2
import Derived.Test.YtdlahceidlemiaaPr3
import Derived.Test.YtdlahceidlemiaaA1
namespace Go.Proofs.Ytdlahceidlemiaa.Ax
open Go.RowKit Go.Proofs.Ytdlahceidlemiaa.Pr Go.Proofs.Ytdlahceidlemiaa.Pl Go.Proofs.YtdlahceidlemiaaW.PrintWords Go.Proofs.YtdlahceidlemiaaW.PrintLast Go.Proofs.YtdlahceidlemiaaW.PrintMore
set_option linter.unusedVariables false
set_option linter.unusedSimpArgs false
def tr (b : Bool) : Int := if b = true then 2 else 0
/-- Comparing two good values. -/
def cm (kind : Int) (an : Bool) (a : Int) (bn : Bool) (b : Int) : Int :=
  if (an || bn) = true then 1 else if kind = 0 then tr (a == b) else if kind = 1 then tr (decide (a < b)) else tr (decide (a > b))
theorem l1Is_eq (b : Bool) : spec_l1Is.f b = some (tr b) := by cases b <;> rfl
theorem truth_eq (b : Bool) : impl_truth.f b = some (tr b) := by cases b <;> rfl
theorem isKind_eq (a : Int) : impl_isKind.f a = some (win a 0 2) := by
  unfold impl_isKind.f
  rw [within_eq]
  rfl
theorem l1Compare_eq (k : Nat) (kind : Int) (an : Bool) (a : Int) (bn : Bool) (b : Int) : spec_l1Compare.f (k + 1) kind an a bn b = some (cm kind an a bn b) := by
  unfold cm
  cases an <;> cases bn <;> simp [spec_l1Compare.f, spec_l1Compare.j0, l1Is_eq]
  by_cases h0 : kind = 0 <;> by_cases h1 : kind = 1 <;> simp [h0, h1]
theorem compare_eq (k : Nat) (kind : Int) (an : Bool) (a : Int) (bn : Bool) (b : Int) : impl_compare.f (k + 1) kind an a bn b = some (cm kind an a bn b) := by
  unfold cm
  cases an <;> cases bn <;> simp [impl_compare.f, impl_compare.j0, truth_eq]
  by_cases h0 : kind = 0 <;> by_cases h1 : kind = 1 <;> simp [h0, h1]
end Go.Proofs.Ytdlahceidlemiaa.Ax
