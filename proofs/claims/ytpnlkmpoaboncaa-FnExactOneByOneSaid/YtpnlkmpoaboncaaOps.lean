/- Each struct type among the laws' parameters: what it reads as. No condition. -/
import Derived.Test.YtpnlkmpoaboncaaPr0
import Derived.Test.YtpnlkmpoaboncaaOpen
import Derived.KernelRfl
namespace Go.Proofs.Ytpnlkmpoaboncaa.Ops
open Go.RowKit Go.Proofs.YtpnlkmpoaboncaaW.PrintWords Go.Proofs.Ytpnlkmpoaboncaa.Open Go.Proofs.Ytpnlkmpoaboncaa.Pr
set_option linter.unusedVariables false
def Fii64 (x : Int) : Prop := (Lit.int .i64 x).wf = true
def Fb (x : Bool) : Prop := True
def F46 (x : S46) : Prop := Fii64 x.f0 ∧ Fii64 x.f1 ∧ Fb x.f2
def FL46 (x : (List S46)) : Prop := x.length < 9223372036854775808 ∧ ∀ e_ ∈ x, F46 e_
def FLii64 (x : (List Int)) : Prop := x.length < 9223372036854775808 ∧ ∀ e_ ∈ x, Fii64 e_
theorem op46 : Opn Try.prog k46 F46 46 := op_struct _ (fun x => ⟨x.1, x.2.1, x.2.2⟩) (fun x => rfl) Try.underlying46 (by kernel_rfl) (sg_cons rfl (by kernel_rfl) (op_int Try.underlying3) (sg_cons rfl (by kernel_rfl) (op_int Try.underlying3) (sg_one rfl (by kernel_rfl) (op_bool Try.underlying4))))
end Go.Proofs.Ytpnlkmpoaboncaa.Ops
