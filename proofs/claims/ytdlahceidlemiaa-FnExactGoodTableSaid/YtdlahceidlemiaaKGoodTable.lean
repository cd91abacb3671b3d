/- The walk of the law FnExactGoodTable (printed) and its pure statement (UGoodTable) together. No condition. -/
import Derived.Test.YtdlahceidlemiaaPr10
import Derived.Test.YtdlahceidlemiaaUGoodTable
import Derived.Test.YtdlahceidlemiaaOps
namespace Go.Proofs.Ytdlahceidlemiaa.K
open Go.RowKit Go.Proofs.Ytdlahceidlemiaa.Ops Go.Proofs.Ytdlahceidlemiaa.Pr Go.Proofs.YtdlahceidlemiaaW.PrintWords
set_option linter.unusedVariables false
theorem GoodTable (A0 : Option Addr) (c0 : Nat) (y0 : (List S77)) (w : World) (hl0 : y0.length ≤ c0) (hr0 : Kd.C k77 w A0 y0.length y0) (h0 : FL77 y0) :
    Calls Try.prog 5 #[.slice A0 y0.length c0] w fun e w' => e = .returned (.bool true) ∧ Below w.heap.size w w' := by
  obtain ⟨k, h⟩ := Pu.GoodTable y0 h0
  refine (laws_FnExactGoodTable.calls k A0 c0 y0 true w hr0 hl0 h).mono ?_
  rintro e w' ⟨rfl, hb⟩
  exact ⟨rfl, hb⟩
end Go.Proofs.Ytdlahceidlemiaa.K
