/- The walk of the law FnExactFillsOf (printed) and its pure statement (UFillsOf) together. No condition. -/
import Derived.Test.YtmjcaajlklidmaaPr13
import Derived.Test.YtmjcaajlklidmaaUFillsOf
import Derived.Test.YtmjcaajlklidmaaOps
namespace Go.Proofs.Ytmjcaajlklidmaa.K
open Go.RowKit Go.Proofs.Ytmjcaajlklidmaa.Ops Go.Proofs.Ytmjcaajlklidmaa.Pr Go.Proofs.YtmjcaajlklidmaaW.PrintWords
set_option linter.unusedVariables false
theorem FillsOf (y0 : S24) (A1 : Option Addr) (c1 : Nat) (y1 : (List Int)) (w : World) (h0 : F24 y0) (hl1 : y1.length ≤ c1) (hr1 : Kd.C (Kd.int .i64) w A1 y1.length y1) (h1 : FLii64 y1) :
    Calls Try.prog 13 #[.agg #[.bool y0.f0, .int .i64 y0.f1], .slice A1 y1.length c1] w fun e w' => e = .returned (.bool true) ∧ Below w.heap.size w w' := by
  obtain ⟨k, h⟩ := Pu.FillsOf y0 y1 h0 h1
  refine (laws_FnExactFillsOf.calls k y0.f0 y0.f1 A1 c1 y1 true w hr1 hl1 h).mono ?_
  rintro e w' ⟨rfl, hb⟩
  exact ⟨rfl, hb⟩
end Go.Proofs.Ytmjcaajlklidmaa.K
