/- Each struct type among the laws' parameters: what it reads as. No condition. -/
import Derived.Test.YtdcfndjiicjlaaaPr0
import Derived.Test.YtdcfndjiicjlaaaOpen
import Derived.KernelRfl
namespace Go.Proofs.Ytdcfndjiicjlaaa.Ops
open Go.RowKit Go.Proofs.YtdcfndjiicjlaaaW.PrintWords Go.Proofs.Ytdcfndjiicjlaaa.Open Go.Proofs.Ytdcfndjiicjlaaa.Pr
set_option linter.unusedVariables false
def Fii64 (x : Int) : Prop := (Lit.int .i64 x).wf = true
def FLii64 (x : (List Int)) : Prop := x.length < 9223372036854775808 ∧ ∀ e_ ∈ x, Fii64 e_
def F31 (x : S31) : Prop := FLii64 x.f0 ∧ FLii64 x.f1
def FL31 (x : (List S31)) : Prop := x.length < 9223372036854775808 ∧ ∀ e_ ∈ x, F31 e_
theorem op31 : Opn Try.prog k31 F31 31 := op_struct _ (fun x => ⟨x.1, x.2⟩) (fun x => rfl) Try.underlying31 (by kernel_rfl) (sg_cons rfl (by kernel_rfl) (op_slice Try.underlying29 (by kernel_rfl) (op_int Try.underlying3)) (sg_one rfl (by kernel_rfl) (op_slice Try.underlying29 (by kernel_rfl) (op_int Try.underlying3))))
end Go.Proofs.Ytdcfndjiicjlaaa.Ops
