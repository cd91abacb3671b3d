/- Each struct type among the laws' parameters: what it reads as. No condition. -/
import Derived.Test.YtmimoaecdjkciaaPr0
import Derived.Test.YtmimoaecdjkciaaOpen
import Derived.KernelRfl
namespace Go.Proofs.Ytmimoaecdjkciaa.Ops
open Go.RowKit Go.Proofs.YtmimoaecdjkciaaW.PrintWords Go.Proofs.Ytmimoaecdjkciaa.Open Go.Proofs.Ytmimoaecdjkciaa.Pr
set_option linter.unusedVariables false
def Fii64 (x : Int) : Prop := (Lit.int .i64 x).wf = true
def FLii64 (x : (List Int)) : Prop := x.length < 9223372036854775808 ∧ ∀ e_ ∈ x, Fii64 e_
def FLLii64 (x : (List (List Int))) : Prop := x.length < 9223372036854775808 ∧ ∀ e_ ∈ x, FLii64 e_
def F25 (x : S25) : Prop := FLii64 x.f0 ∧ FLLii64 x.f1
def FL25 (x : (List S25)) : Prop := x.length < 9223372036854775808 ∧ ∀ e_ ∈ x, F25 e_
theorem op25 : Opn Try.prog k25 F25 25 := op_struct _ (fun x => ⟨x.1, x.2⟩) (fun x => rfl) Try.underlying25 (by kernel_rfl) (sg_cons rfl (by kernel_rfl) (op_slice Try.underlying22 (by kernel_rfl) (op_int Try.underlying3)) (sg_one rfl (by kernel_rfl) (op_slice Try.underlying23 (by kernel_rfl) (op_slice Try.underlying22 (by kernel_rfl) (op_int Try.underlying3)))))
end Go.Proofs.Ytmimoaecdjkciaa.Ops
