/- The walk of the law FnExactSumOf (printed) and its pure statement (USumOf) together. No condition. -/
import Derived.Test.YtfafegglmmkmbaaPr2
import Derived.Test.YtfafegglmmkmbaaUSumOf
import Derived.Test.YtfafegglmmkmbaaOps
namespace Go.Proofs.Ytfafegglmmkmbaa.K
open Go.RowKit Go.Proofs.Ytfafegglmmkmbaa.Ops Go.Proofs.Ytfafegglmmkmbaa.Pr Go.Proofs.YtfafegglmmkmbaaW.PrintWords
set_option linter.unusedVariables false
theorem SumOf (A0 : Option Addr) (c0 : Nat) (y0 : (List S57)) (w : World) (hl0 : y0.length ≤ c0) (hr0 : Kd.C k57 w A0 y0.length y0) (h0 : FL57 y0) :
    Calls Try.prog 3 #[.slice A0 y0.length c0] w fun e w' => e = .returned (.bool true) ∧ Below w.heap.size w w' := by
  obtain ⟨k, h⟩ := Pu.SumOf y0 h0
  refine (laws_FnExactSumOf.calls k A0 c0 y0 true w hr0 hl0 h).mono ?_
  rintro e w' ⟨rfl, hb⟩
  exact ⟨rfl, hb⟩
end Go.Proofs.Ytfafegglmmkmbaa.K
