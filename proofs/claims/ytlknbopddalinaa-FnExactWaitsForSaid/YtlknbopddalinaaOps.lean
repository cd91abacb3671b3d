/- Each struct type among the laws' parameters: what it reads as. No condition. -/
import Derived.Test.YtlknbopddalinaaPr0
import Derived.Test.YtlknbopddalinaaOpen
import Derived.KernelRfl
namespace Go.Proofs.Ytlknbopddalinaa.Ops
open Go.RowKit Go.Proofs.YtlknbopddalinaaW.PrintWords Go.Proofs.Ytlknbopddalinaa.Open Go.Proofs.Ytlknbopddalinaa.Pr
set_option linter.unusedVariables false
def Fii64 (x : Int) : Prop := (Lit.int .i64 x).wf = true
def FLii64 (x : (List Int)) : Prop := x.length < 9223372036854775808 ∧ ∀ e_ ∈ x, Fii64 e_
def FLLii64 (x : (List (List Int))) : Prop := x.length < 9223372036854775808 ∧ ∀ e_ ∈ x, FLii64 e_
def F30 (x : S30) : Prop := FLLii64 x.f0 ∧ FLii64 x.f1 ∧ FLii64 x.f2
def Fb (x : Bool) : Prop := True
def F39 (x : S39) : Prop := Fii64 x.f0 ∧ Fii64 x.f1 ∧ Fb x.f2 ∧ Fb x.f3
theorem op30 : Opn Try.prog k30 F30 30 := op_struct _ (fun x => ⟨x.1, x.2.1, x.2.2⟩) (fun x => rfl) Try.underlying30 (by kernel_rfl) (sg_cons rfl (by kernel_rfl) (op_slice Try.underlying22 (by kernel_rfl) (op_slice Try.underlying23 (by kernel_rfl) (op_int Try.underlying3))) (sg_cons rfl (by kernel_rfl) (op_slice Try.underlying23 (by kernel_rfl) (op_int Try.underlying3)) (sg_one rfl (by kernel_rfl) (op_slice Try.underlying23 (by kernel_rfl) (op_int Try.underlying3)))))
theorem op39 : Opn Try.prog k39 F39 39 := op_struct _ (fun x => ⟨x.1, x.2.1, x.2.2.1, x.2.2.2⟩) (fun x => rfl) Try.underlying39 (by kernel_rfl) (sg_cons rfl (by kernel_rfl) (op_int Try.underlying3) (sg_cons rfl (by kernel_rfl) (op_int Try.underlying3) (sg_cons rfl (by kernel_rfl) (op_bool Try.underlying4) (sg_one rfl (by kernel_rfl) (op_bool Try.underlying4)))))
end Go.Proofs.Ytlknbopddalinaa.Ops
