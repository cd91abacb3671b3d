/- Each struct type among the laws' parameters: what it reads as. No condition. -/
import Derived.Test.YtdlahceidlemiaaPr0
import Derived.Test.YtdlahceidlemiaaOpen
import Derived.KernelRfl
namespace Go.Proofs.Ytdlahceidlemiaa.Ops
open Go.RowKit Go.Proofs.YtdlahceidlemiaaW.PrintWords Go.Proofs.Ytdlahceidlemiaa.Open Go.Proofs.Ytdlahceidlemiaa.Pr
set_option linter.unusedVariables false
def Fb (x : Bool) : Prop := True
def Fii64 (x : Int) : Prop := (Lit.int .i64 x).wf = true
def F24 (x : S24) : Prop := Fb x.f0 ∧ Fii64 x.f1
def FL24 (x : (List S24)) : Prop := x.length < 9223372036854775808 ∧ ∀ e_ ∈ x, F24 e_
def F77 (x : S77) : Prop := Fii64 x.f0 ∧ FL24 x.f1
def FL77 (x : (List S77)) : Prop := x.length < 9223372036854775808 ∧ ∀ e_ ∈ x, F77 e_
theorem op24 : Opn Try.prog k24 F24 24 := op_struct _ (fun x => ⟨x.1, x.2⟩) (fun x => rfl) Try.underlying24 (by kernel_rfl) (sg_cons rfl (by kernel_rfl) (op_bool Try.underlying4) (sg_one rfl (by kernel_rfl) (op_int Try.underlying3)))
theorem op77 : Opn Try.prog k77 F77 77 := op_struct _ (fun x => ⟨x.1, x.2⟩) (fun x => rfl) Try.underlying77 (by kernel_rfl) (sg_cons rfl (by kernel_rfl) (op_int Try.underlying3) (sg_one rfl (by kernel_rfl) (op_slice Try.underlying22 (by kernel_rfl) op24)))
end Go.Proofs.Ytdlahceidlemiaa.Ops
