/- What the functions of chapter 1 tell, in plain words. No condition. -/
import Derived.Test.YtmlbihhaikknnaaPr2
import Derived.Test.YtmlbihhaikknnaaPr4
import Derived.Test.YtmlbihhaikknnaaPl
namespace Go.Proofs.Ytmlbihhaikknnaa.Ax
open Go.RowKit Go.Proofs.Ytmlbihhaikknnaa.Pr Go.Proofs.Ytmlbihhaikknnaa.Pl Go.Proofs.YtmlbihhaikknnaaW.PrintWords Go.Proofs.YtmlbihhaikknnaaW.PrintLast Go.Proofs.YtmlbihhaikknnaaW.PrintMore
set_option linter.unusedVariables false
set_option linter.unusedSimpArgs false

/-- Is a number between two others? -/
def win (n lo hi : Int) : Bool := decide (lo ≤ n ∧ n ≤ hi)
/-- Is a value good? -/
def gv (b : Bool) (n : Int) : Bool := if b = true then n == 0 else win n (-1000) 1000

theorem l1In_eq (a b c : Int) : spec_l1In.f a b c = some (win a b c) := by
  unfold spec_l1In.f win
  split <;> simp <;> omega
theorem within_eq (a b c : Int) : impl_within.f a b c = some (win a b c) := by
  unfold impl_within.f win
  split <;> simp <;> omega
theorem isSmall_eq (a : Int) : impl_isSmall.f a = some (win a (-1000) 1000) := by
  unfold impl_isSmall.f
  rw [within_eq]
  rfl
theorem sGoodValue_eq (b : Bool) (n : Int) : spec_GoodValue.f b n = some (gv b n) := by
  unfold spec_GoodValue.f gv
  rw [l1In_eq]
  simp only [Option.bind_some]
  cases b <;> unfold win <;> (split <;> simp_all) <;> omega
theorem iGoodValue_eq (b : Bool) (n : Int) : impl_GoodValue.f b n = some (gv b n) := by
  unfold impl_GoodValue.f gv
  rw [isSmall_eq]
  cases b
  · simp
  · simp
    split <;> simp_all
end Go.Proofs.Ytmlbihhaikknnaa.Ax
