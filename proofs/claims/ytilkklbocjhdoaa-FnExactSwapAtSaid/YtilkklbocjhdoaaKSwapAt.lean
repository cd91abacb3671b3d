/- The walk of the law FnExactSwapAt (printed) and its pure statement (USwapAt) together. No condition. -/
import Derived.Test.YtilkklbocjhdoaaPr9
import Derived.Test.YtilkklbocjhdoaaUSwapAt
import Derived.Test.YtilkklbocjhdoaaOps
namespace Go.Proofs.Ytilkklbocjhdoaa.K
open Go.RowKit Go.Proofs.Ytilkklbocjhdoaa.Ops Go.Proofs.Ytilkklbocjhdoaa.Pr Go.Proofs.YtilkklbocjhdoaaW.PrintWords
set_option linter.unusedVariables false
theorem SwapAt (A0 : Option Addr) (c0 : Nat) (y0 : (List S50)) (a1 : Int) (w : World) (hl0 : y0.length ≤ c0) (hr0 : Kd.C k50 w A0 y0.length y0) (h0 : FL50 y0) (h1 : Fii64 a1) :
    Calls Try.prog 8 #[.slice A0 y0.length c0, .int .i64 a1] w fun e w' => e = .returned (.bool true) ∧ Below w.heap.size w w' := by
  obtain ⟨k, h⟩ := Pu.SwapAt y0 a1 h0 h1
  refine (laws_FnExactSwapAt.calls k A0 c0 y0 a1 true w hr0 hl0 h).mono ?_
  rintro e w' ⟨rfl, hb⟩
  exact ⟨rfl, hb⟩
end Go.Proofs.Ytilkklbocjhdoaa.K
