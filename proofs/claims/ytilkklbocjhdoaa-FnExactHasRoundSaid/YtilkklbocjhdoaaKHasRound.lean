/- The walk of the law FnExactHasRound (printed) and its pure statement (UHasRound) together. No condition. -/
import Derived.Test.YtilkklbocjhdoaaPr12
import Derived.Test.YtilkklbocjhdoaaUHasRound
import Derived.Test.YtilkklbocjhdoaaOps
namespace Go.Proofs.Ytilkklbocjhdoaa.K
open Go.RowKit Go.Proofs.Ytilkklbocjhdoaa.Ops Go.Proofs.Ytilkklbocjhdoaa.Pr Go.Proofs.YtilkklbocjhdoaaW.PrintWords
set_option linter.unusedVariables false
theorem HasRound (A0 : Option Addr) (c0 : Nat) (y0 : (List Int)) (w : World) (hl0 : y0.length ≤ c0) (hr0 : Kd.C (Kd.int .i64) w A0 y0.length y0) (h0 : FLii64 y0) :
    Calls Try.prog 11 #[.slice A0 y0.length c0] w fun e w' => e = .returned (.bool true) ∧ Below w.heap.size w w' := by
  obtain ⟨k, h⟩ := Pu.HasRound y0 h0
  refine (laws_FnExactHasRound.calls k A0 c0 y0 true w hr0 hl0 h).mono ?_
  rintro e w' ⟨rfl, hb⟩
  exact ⟨rfl, hb⟩
end Go.Proofs.Ytilkklbocjhdoaa.K
