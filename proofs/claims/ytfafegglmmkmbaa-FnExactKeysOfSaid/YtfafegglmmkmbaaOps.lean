/- Each struct type among the laws' parameters: what it reads as. No condition. -/
import Derived.Test.YtfafegglmmkmbaaPr0
import Derived.Test.YtfafegglmmkmbaaOpen
import Derived.KernelRfl
namespace Go.Proofs.Ytfafegglmmkmbaa.Ops
open Go.RowKit Go.Proofs.YtfafegglmmkmbaaW.PrintWords Go.Proofs.Ytfafegglmmkmbaa.Open Go.Proofs.Ytfafegglmmkmbaa.Pr
set_option linter.unusedVariables false
def Fii64 (x : Int) : Prop := (Lit.int .i64 x).wf = true
def Fb (x : Bool) : Prop := True
def F57 (x : S57) : Prop := Fb x.f0 ∧ Fii64 x.f1
def FL57 (x : (List S57)) : Prop := x.length < 9223372036854775808 ∧ ∀ e_ ∈ x, F57 e_
def F62 (x : S62) : Prop := Fii64 x.f0 ∧ FL57 x.f1
def FL62 (x : (List S62)) : Prop := x.length < 9223372036854775808 ∧ ∀ e_ ∈ x, F62 e_
theorem op57 : Opn Try.prog k57 F57 57 := op_struct _ (fun x => ⟨x.1, x.2⟩) (fun x => rfl) Try.underlying57 (by kernel_rfl) (sg_cons rfl (by kernel_rfl) (op_bool Try.underlying4) (sg_one rfl (by kernel_rfl) (op_int Try.underlying3)))
theorem op62 : Opn Try.prog k62 F62 62 := op_struct _ (fun x => ⟨x.1, x.2⟩) (fun x => rfl) Try.underlying62 (by kernel_rfl) (sg_cons rfl (by kernel_rfl) (op_int Try.underlying3) (sg_one rfl (by kernel_rfl) (op_slice Try.underlying22 (by kernel_rfl) op57)))
end Go.Proofs.Ytfafegglmmkmbaa.Ops
