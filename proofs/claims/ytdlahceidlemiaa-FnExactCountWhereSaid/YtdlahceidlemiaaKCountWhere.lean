/- The walk of the law FnExactCountWhere (printed) and its pure statement (UCountWhere) together. No condition. -/
import Derived.Test.YtdlahceidlemiaaPr5
import Derived.Test.YtdlahceidlemiaaUCountWhere
import Derived.Test.YtdlahceidlemiaaOps
namespace Go.Proofs.Ytdlahceidlemiaa.K
open Go.RowKit Go.Proofs.Ytdlahceidlemiaa.Ops Go.Proofs.Ytdlahceidlemiaa.Pr Go.Proofs.YtdlahceidlemiaaW.PrintWords
set_option linter.unusedVariables false
theorem CountWhere (A0 : Option Addr) (c0 : Nat) (y0 : (List S24)) (a1 : Int) (y2 : S24) (w : World) (hl0 : y0.length ≤ c0) (hr0 : Kd.C k24 w A0 y0.length y0) (h0 : FL24 y0) (h1 : Fii64 a1) (h2 : F24 y2) :
    Calls Try.prog 3 #[.slice A0 y0.length c0, .int .i64 a1, .agg #[.bool y2.f0, .int .i64 y2.f1]] w fun e w' => e = .returned (.bool true) ∧ Below w.heap.size w w' := by
  obtain ⟨k, h⟩ := Pu.CountWhere y0 a1 y2 h0 h1 h2
  refine (laws_FnExactCountWhere.calls k A0 c0 y0 a1 y2.f0 y2.f1 true w hr0 hl0 h).mono ?_
  rintro e w' ⟨rfl, hb⟩
  exact ⟨rfl, hb⟩
end Go.Proofs.Ytdlahceidlemiaa.K
