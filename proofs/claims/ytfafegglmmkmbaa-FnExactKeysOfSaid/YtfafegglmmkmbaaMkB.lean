/- How many marks a value takes, and that those of numbers are found again. No condition. -/
import Derived.Test.YtfafegglmmkmbaaPr2
import Derived.Test.YtfafegglmmkmbaaMkA
import Derived.Test.YtfafegglmmkmbaaCv
namespace Go.Proofs.Ytfafegglmmkmbaa.Ax
open Go.RowKit Go.Proofs.Ytfafegglmmkmbaa.Pr Go.Proofs.Ytfafegglmmkmbaa.Pl Go.Proofs.YtfafegglmmkmbaaW.PrintWords Go.Proofs.YtfafegglmmkmbaaW.PrintLast Go.Proofs.YtfafegglmmkmbaaW.PrintMore
set_option linter.unusedVariables false
theorem cntIntS_bd {l : List Int} (h : BdIntS l) : cntIntS l ≤ 1048576 := h.1
theorem cntIntSS_bd {l : List (List Int)} (h : BdIntSS l) : cntIntSS l ≤ 1099511627776 := cntIntSS_le ⟨h.1, fun e he => (h.2 e he).1⟩
theorem heldIntS_ev' (l : List Int) (m : Int) (h0 : 0 ≤ m) (hb : m + (cntIntS l : Nat) < 9223372036854775807) : Ev (fun k => laws_heldIntS.f k (mkIntS l m) m) (m + (cntIntS l : Nat)) := heldIntS_ev l.length m h0 hb
end Go.Proofs.Ytfafegglmmkmbaa.Ax
