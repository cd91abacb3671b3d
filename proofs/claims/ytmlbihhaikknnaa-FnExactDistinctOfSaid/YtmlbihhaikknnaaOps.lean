/- Each struct type among the laws' parameters: what it reads as. No condition. -/
import Derived.Test.YtmlbihhaikknnaaPr0
import Derived.Test.YtmlbihhaikknnaaOpen
import Derived.KernelRfl
namespace Go.Proofs.Ytmlbihhaikknnaa.Ops
open Go.RowKit Go.Proofs.YtmlbihhaikknnaaW.PrintWords Go.Proofs.Ytmlbihhaikknnaa.Open Go.Proofs.Ytmlbihhaikknnaa.Pr
set_option linter.unusedVariables false
def Fb (x : Bool) : Prop := True
def Fii64 (x : Int) : Prop := (Lit.int .i64 x).wf = true
def F45 (x : S45) : Prop := Fb x.f0 ∧ Fii64 x.f1
def FL45 (x : (List S45)) : Prop := x.length < 9223372036854775808 ∧ ∀ e_ ∈ x, F45 e_
theorem op45 : Opn Try.prog k45 F45 45 := op_struct _ (fun x => ⟨x.1, x.2⟩) (fun x => rfl) Try.underlying45 (by kernel_rfl) (sg_cons rfl (by kernel_rfl) (op_bool Try.underlying4) (sg_one rfl (by kernel_rfl) (op_int Try.underlying3)))
end Go.Proofs.Ytmlbihhaikknnaa.Ops
