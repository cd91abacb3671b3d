/- Each struct type among the laws' parameters: what it reads as. No condition. -/
import Derived.Test.YtilkklbocjhdoaaPr0
import Derived.Test.YtilkklbocjhdoaaOpen
import Derived.KernelRfl
namespace Go.Proofs.Ytilkklbocjhdoaa.Ops
open Go.RowKit Go.Proofs.YtilkklbocjhdoaaW.PrintWords Go.Proofs.Ytilkklbocjhdoaa.Open Go.Proofs.Ytilkklbocjhdoaa.Pr
set_option linter.unusedVariables false
def Fii64 (x : Int) : Prop := (Lit.int .i64 x).wf = true
def Fb (x : Bool) : Prop := True
def F50 (x : S50) : Prop := Fii64 x.f0 ∧ Fii64 x.f1 ∧ Fb x.f2
def FL50 (x : (List S50)) : Prop := x.length < 9223372036854775808 ∧ ∀ e_ ∈ x, F50 e_
theorem op50 : Opn Try.prog k50 F50 50 := op_struct _ (fun x => ⟨x.1, x.2.1, x.2.2⟩) (fun x => rfl) Try.underlying50 (by kernel_rfl) (sg_cons rfl (by kernel_rfl) (op_int Try.underlying3) (sg_cons rfl (by kernel_rfl) (op_int Try.underlying3) (sg_one rfl (by kernel_rfl) (op_bool Try.underlying4))))
end Go.Proofs.Ytilkklbocjhdoaa.Ops
