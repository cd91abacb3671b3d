/- The walk of the law FnExactOneByOne (printed) and its pure statement (UOneByOne) together. No condition. -/
import Derived.Test.YtpnlkmpoaboncaaPr3
import Derived.Test.YtpnlkmpoaboncaaUOneByOne
import Derived.Test.YtpnlkmpoaboncaaOps
namespace Go.Proofs.Ytpnlkmpoaboncaa.K
open Go.RowKit Go.Proofs.Ytpnlkmpoaboncaa.Ops Go.Proofs.Ytpnlkmpoaboncaa.Pr Go.Proofs.YtpnlkmpoaboncaaW.PrintWords
set_option linter.unusedVariables false
theorem OneByOne (A0 : Option Addr) (c0 : Nat) (y0 : (List S46)) (A1 : Option Addr) (c1 : Nat) (y1 : (List Int)) (w : World) (hl0 : y0.length ≤ c0) (hr0 : Kd.C k46 w A0 y0.length y0) (h0 : FL46 y0) (hl1 : y1.length ≤ c1) (hr1 : Kd.C (Kd.int .i64) w A1 y1.length y1) (h1 : FLii64 y1) :
    Calls Try.prog 6 #[.slice A0 y0.length c0, .slice A1 y1.length c1] w fun e w' => e = .returned (.bool true) ∧ Below w.heap.size w w' := by
  obtain ⟨k, h⟩ := Pu.OneByOne y0 y1 h0 h1
  refine (laws_FnExactOneByOne.calls k A0 c0 y0 A1 c1 y1 true w hr0 hl0 hr1 hl1 h).mono ?_
  rintro e w' ⟨rfl, hb⟩
  exact ⟨rfl, hb⟩
end Go.Proofs.Ytpnlkmpoaboncaa.K
