/- The walk of the law FnExactReadsFrom (printed) and its pure statement (UReadsFrom) together. No condition. -/
import Derived.Test.YtpnlkmpoaboncaaPr3
import Derived.Test.YtpnlkmpoaboncaaUReadsFrom
import Derived.Test.YtpnlkmpoaboncaaOps
namespace Go.Proofs.Ytpnlkmpoaboncaa.K
open Go.RowKit Go.Proofs.Ytpnlkmpoaboncaa.Ops Go.Proofs.Ytpnlkmpoaboncaa.Pr Go.Proofs.YtpnlkmpoaboncaaW.PrintWords
set_option linter.unusedVariables false
theorem ReadsFrom (A0 : Option Addr) (c0 : Nat) (y0 : (List S46)) (w : World) (hl0 : y0.length ≤ c0) (hr0 : Kd.C k46 w A0 y0.length y0) (h0 : FL46 y0) :
    Calls Try.prog 4 #[.slice A0 y0.length c0] w fun e w' => e = .returned (.bool true) ∧ Below w.heap.size w w' := by
  obtain ⟨k, h⟩ := Pu.ReadsFrom y0 h0
  refine (laws_FnExactReadsFrom.calls k A0 c0 y0 true w hr0 hl0 h).mono ?_
  rintro e w' ⟨rfl, hb⟩
  exact ⟨rfl, hb⟩
end Go.Proofs.Ytpnlkmpoaboncaa.K
