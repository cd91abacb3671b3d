/- The walk of the law FnExactConflictsOf (printed) and its pure statement (UConflictsOf) together. No condition. -/
import Derived.Test.YtilkklbocjhdoaaPr6
import Derived.Test.YtilkklbocjhdoaaUConflictsOf
import Derived.Test.YtilkklbocjhdoaaOps
namespace Go.Proofs.Ytilkklbocjhdoaa.K
open Go.RowKit Go.Proofs.Ytilkklbocjhdoaa.Ops Go.Proofs.Ytilkklbocjhdoaa.Pr Go.Proofs.YtilkklbocjhdoaaW.PrintWords
set_option linter.unusedVariables false
theorem ConflictsOf (A0 : Option Addr) (c0 : Nat) (y0 : (List S50)) (w : World) (hl0 : y0.length ≤ c0) (hr0 : Kd.C k50 w A0 y0.length y0) (h0 : FL50 y0) :
    Calls Try.prog 4 #[.slice A0 y0.length c0] w fun e w' => e = .returned (.bool true) ∧ Below w.heap.size w w' := by
  obtain ⟨k, h⟩ := Pu.ConflictsOf y0 h0
  refine (laws_FnExactConflictsOf.calls k A0 c0 y0 true w hr0 hl0 h).mono ?_
  rintro e w' ⟨rfl, hb⟩
  exact ⟨rfl, hb⟩
end Go.Proofs.Ytilkklbocjhdoaa.K
