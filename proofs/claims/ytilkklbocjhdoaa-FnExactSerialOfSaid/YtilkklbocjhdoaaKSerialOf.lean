/- The walk of the law FnExactSerialOf (printed) and its pure statement (USerialOf) together. No condition. -/
import Derived.Test.YtilkklbocjhdoaaPr9
import Derived.Test.YtilkklbocjhdoaaUSerialOf
import Derived.Test.YtilkklbocjhdoaaOps
namespace Go.Proofs.Ytilkklbocjhdoaa.K
open Go.RowKit Go.Proofs.Ytilkklbocjhdoaa.Ops Go.Proofs.Ytilkklbocjhdoaa.Pr Go.Proofs.YtilkklbocjhdoaaW.PrintWords
set_option linter.unusedVariables false
theorem SerialOf (A0 : Option Addr) (c0 : Nat) (y0 : (List S50)) (w : World) (hl0 : y0.length ≤ c0) (hr0 : Kd.C k50 w A0 y0.length y0) (h0 : FL50 y0) :
    Calls Try.prog 7 #[.slice A0 y0.length c0] w fun e w' => e = .returned (.bool true) ∧ Below w.heap.size w w' := by
  obtain ⟨k, h⟩ := Pu.SerialOf y0 h0
  refine (laws_FnExactSerialOf.calls k A0 c0 y0 true w hr0 hl0 h).mono ?_
  rintro e w' ⟨rfl, hb⟩
  exact ⟨rfl, hb⟩
end Go.Proofs.Ytilkklbocjhdoaa.K
