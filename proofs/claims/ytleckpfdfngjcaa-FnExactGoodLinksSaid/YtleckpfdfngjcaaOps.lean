/- Each struct type among the laws' parameters: what it reads as. No condition. -/
import Derived.Test.YtleckpfdfngjcaaPr0
import Derived.Test.YtleckpfdfngjcaaOpen
import Derived.KernelRfl
namespace Go.Proofs.Ytleckpfdfngjcaa.Ops
open Go.RowKit Go.Proofs.YtleckpfdfngjcaaW.PrintWords Go.Proofs.Ytleckpfdfngjcaa.Open Go.Proofs.Ytleckpfdfngjcaa.Pr
set_option linter.unusedVariables false
def Fii64 (x : Int) : Prop := (Lit.int .i64 x).wf = true
def FLii64 (x : (List Int)) : Prop := x.length < 9223372036854775808 ∧ ∀ e_ ∈ x, Fii64 e_
def FLLii64 (x : (List (List Int))) : Prop := x.length < 9223372036854775808 ∧ ∀ e_ ∈ x, FLii64 e_
end Go.Proofs.Ytleckpfdfngjcaa.Ops
