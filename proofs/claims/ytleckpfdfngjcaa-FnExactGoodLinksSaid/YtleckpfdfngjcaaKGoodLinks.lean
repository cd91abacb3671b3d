/- The walk of the law FnExactGoodLinks (printed) and its pure statement (UGoodLinks) together. No condition. -/
import Derived.Test.YtleckpfdfngjcaaPr3
import Derived.Test.YtleckpfdfngjcaaUGoodLinks
import Derived.Test.YtleckpfdfngjcaaOps
namespace Go.Proofs.Ytleckpfdfngjcaa.K
open Go.RowKit Go.Proofs.Ytleckpfdfngjcaa.Ops Go.Proofs.Ytleckpfdfngjcaa.Pr Go.Proofs.YtleckpfdfngjcaaW.PrintWords
set_option linter.unusedVariables false
theorem GoodLinks (A0 : Option Addr) (c0 : Nat) (y0 : (List (List Int))) (w : World) (hl0 : y0.length ≤ c0) (hr0 : Kd.C (Kd.slice 3 (Kd.int .i64)) w A0 y0.length y0) (h0 : FLLii64 y0) :
    Calls Try.prog 6 #[.slice A0 y0.length c0] w fun e w' => e = .returned (.bool true) ∧ Below w.heap.size w w' := by
  obtain ⟨k, h⟩ := Pu.GoodLinks y0 h0
  refine (laws_FnExactGoodLinks.calls k A0 c0 y0 true w hr0 hl0 h).mono ?_
  rintro e w' ⟨rfl, hb⟩
  exact ⟨rfl, hb⟩
end Go.Proofs.Ytleckpfdfngjcaa.K
