/- The walk of the law FnExactLastWrites (printed) and its pure statement (ULastWrites) together. No condition. -/
import Derived.Test.YtpnlkmpoaboncaaPr2
import Derived.Test.YtpnlkmpoaboncaaULastWrites
import Derived.Test.YtpnlkmpoaboncaaOps
namespace Go.Proofs.Ytpnlkmpoaboncaa.K
open Go.RowKit Go.Proofs.Ytpnlkmpoaboncaa.Ops Go.Proofs.Ytpnlkmpoaboncaa.Pr Go.Proofs.YtpnlkmpoaboncaaW.PrintWords
set_option linter.unusedVariables false
theorem LastWrites (A0 : Option Addr) (c0 : Nat) (y0 : (List S46)) (w : World) (hl0 : y0.length ≤ c0) (hr0 : Kd.C k46 w A0 y0.length y0) (h0 : FL46 y0) :
    Calls Try.prog 3 #[.slice A0 y0.length c0] w fun e w' => e = .returned (.bool true) ∧ Below w.heap.size w w' := by
  obtain ⟨k, h⟩ := Pu.LastWrites y0 h0
  refine (laws_FnExactLastWrites.calls k A0 c0 y0 true w hr0 hl0 h).mono ?_
  rintro e w' ⟨rfl, hb⟩
  exact ⟨rfl, hb⟩
end Go.Proofs.Ytpnlkmpoaboncaa.K
