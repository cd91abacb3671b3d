/- Each struct type among the laws' parameters: what it reads as. No condition. -/
import Derived.Test.YtmjcaajlklidmaaPr0
import Derived.Test.YtmjcaajlklidmaaOpen
import Derived.KernelRfl
namespace Go.Proofs.Ytmjcaajlklidmaa.Ops
open Go.RowKit Go.Proofs.YtmjcaajlklidmaaW.PrintWords Go.Proofs.Ytmjcaajlklidmaa.Open Go.Proofs.Ytmjcaajlklidmaa.Pr
set_option linter.unusedVariables false
def Fii64 (x : Int) : Prop := (Lit.int .i64 x).wf = true
def Fb (x : Bool) : Prop := True
def F24 (x : S24) : Prop := Fb x.f0 ∧ Fii64 x.f1
def F38 (x : S38) : Prop := Fii64 x.f0 ∧ Fii64 x.f1 ∧ Fii64 x.f2 ∧ F24 x.f3 ∧ F24 x.f4
theorem op24 : Opn Try.prog k24 F24 24 := op_struct _ (fun x => ⟨x.1, x.2⟩) (fun x => rfl) Try.underlying24 (by kernel_rfl) (sg_cons rfl (by kernel_rfl) (op_bool Try.underlying4) (sg_one rfl (by kernel_rfl) (op_int Try.underlying3)))
theorem op38 : Opn Try.prog k38 F38 38 := op_struct _ (fun x => ⟨x.1, x.2.1, x.2.2.1, x.2.2.2.1, x.2.2.2.2⟩) (fun x => rfl) Try.underlying38 (by kernel_rfl) (sg_cons rfl (by kernel_rfl) (op_int Try.underlying3) (sg_cons rfl (by kernel_rfl) (op_int Try.underlying3) (sg_cons rfl (by kernel_rfl) (op_int Try.underlying3) (sg_cons rfl (by kernel_rfl) op24 (sg_one rfl (by kernel_rfl) op24)))))
end Go.Proofs.Ytmjcaajlklidmaa.Ops
