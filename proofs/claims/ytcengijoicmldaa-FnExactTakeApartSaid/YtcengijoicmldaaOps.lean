/- Each struct type among the laws' parameters: what it reads as. No condition. -/
import Derived.Test.YtcengijoicmldaaPr0
import Derived.Test.YtcengijoicmldaaOpen
import Derived.KernelRfl
namespace Go.Proofs.Ytcengijoicmldaa.Ops
open Go.RowKit Go.Proofs.YtcengijoicmldaaW.PrintWords Go.Proofs.Ytcengijoicmldaa.Open Go.Proofs.Ytcengijoicmldaa.Pr
set_option linter.unusedVariables false
def Fii64 (x : Int) : Prop := (Lit.int .i64 x).wf = true
def FLii64 (x : (List Int)) : Prop := x.length < 9223372036854775808 ∧ ∀ e_ ∈ x, Fii64 e_
def FLLii64 (x : (List (List Int))) : Prop := x.length < 9223372036854775808 ∧ ∀ e_ ∈ x, FLii64 e_
def F37 (x : S37) : Prop := FLii64 x.f0 ∧ FLLii64 x.f1
theorem op37 : Opn Try.prog k37 F37 37 := op_struct _ (fun x => ⟨x.1, x.2⟩) (fun x => rfl) Try.underlying37 (by kernel_rfl) (sg_cons rfl (by kernel_rfl) (op_slice Try.underlying24 (by kernel_rfl) (op_int Try.underlying3)) (sg_one rfl (by kernel_rfl) (op_slice Try.underlying25 (by kernel_rfl) (op_slice Try.underlying24 (by kernel_rfl) (op_int Try.underlying3)))))
end Go.Proofs.Ytcengijoicmldaa.Ops
