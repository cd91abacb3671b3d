/- How many marks a row of table rows takes. No condition. -/
import Derived.Test.YtfafegglmmkmbaaPr0
import Derived.Test.YtfafegglmmkmbaaMkW
namespace Go.Proofs.Ytfafegglmmkmbaa.Ax
open Go.RowKit Go.Proofs.Ytfafegglmmkmbaa.Pr Go.Proofs.Ytfafegglmmkmbaa.Pl Go.Proofs.YtfafegglmmkmbaaW.PrintWords Go.Proofs.YtfafegglmmkmbaaW.PrintLast Go.Proofs.YtfafegglmmkmbaaW.PrintMore
set_option linter.unusedVariables false
theorem cntRowS_bd {l : List S62} (h : BdRowS l) : cntRowS (l.map cvRow) ≤ 2199024304128 := by
  have h1 := cnt_le (c := cW) 2097153 (l.map cvRow) (fun x hx => by
    obtain ⟨y, hy, rfl⟩ := List.mem_map.1 hx
    have := (h.2 y hy).1
    have e : (cvRow y).f1.length = y.f1.length := by simp [cvRow]
    simp only [cW, cntValueS, e]
    omega)
  rw [List.length_map] at h1
  exact Nat.le_trans h1 (Nat.mul_le_mul_right 2097153 h.1)
end Go.Proofs.Ytfafegglmmkmbaa.Ax
