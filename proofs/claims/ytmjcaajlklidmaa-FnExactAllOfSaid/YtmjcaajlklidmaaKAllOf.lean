/- The walk of the law FnExactAllOf (printed) and its pure statement (UAllOf) together. No condition. -/
import Derived.Test.YtmjcaajlklidmaaPr8
import Derived.Test.YtmjcaajlklidmaaUAllOf
import Derived.Test.YtmjcaajlklidmaaOps
namespace Go.Proofs.Ytmjcaajlklidmaa.K
open Go.RowKit Go.Proofs.Ytmjcaajlklidmaa.Ops Go.Proofs.Ytmjcaajlklidmaa.Pr Go.Proofs.YtmjcaajlklidmaaW.PrintWords
set_option linter.unusedVariables false
theorem AllOf (A0 : Option Addr) (c0 : Nat) (y0 : (List Int)) (w : World) (hl0 : y0.length ≤ c0) (hr0 : Kd.C (Kd.int .i64) w A0 y0.length y0) (h0 : FLii64 y0) :
    Calls Try.prog 10 #[.slice A0 y0.length c0] w fun e w' => e = .returned (.bool true) ∧ Below w.heap.size w w' := by
  obtain ⟨k, h⟩ := Pu.AllOf y0 h0
  refine (laws_FnExactAllOf.calls k A0 c0 y0 true w hr0 hl0 h).mono ?_
  rintro e w' ⟨rfl, hb⟩
  exact ⟨rfl, hb⟩
end Go.Proofs.Ytmjcaajlklidmaa.K
