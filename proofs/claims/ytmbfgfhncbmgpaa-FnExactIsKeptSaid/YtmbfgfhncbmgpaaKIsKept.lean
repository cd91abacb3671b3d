/- The walk of the law FnExactIsKept (printed) and its pure statement (UIsKept) together. No condition. -/
import Derived.Test.YtmbfgfhncbmgpaaPr7
import Derived.Test.YtmbfgfhncbmgpaaUIsKept
import Derived.Test.YtmbfgfhncbmgpaaOps
namespace Go.Proofs.Ytmbfgfhncbmgpaa.K
open Go.RowKit Go.Proofs.Ytmbfgfhncbmgpaa.Ops Go.Proofs.Ytmbfgfhncbmgpaa.Pr Go.Proofs.YtmbfgfhncbmgpaaW.PrintWords
set_option linter.unusedVariables false
theorem IsKept (a0 : Int) (A1 : Option Addr) (c1 : Nat) (y1 : (List S25)) (A2 : Option Addr) (c2 : Nat) (y2 : (List Int)) (y3 : S25) (A3_0 : Option Addr) (c3_0 : Nat) (A3_1 : Option Addr) (c3_1 : Nat) (w : World) (h0 : Fii64 a0) (hl1 : y1.length ≤ c1) (hr1 : Kd.C k25 w A1 y1.length y1) (h1 : FL25 y1) (hl2 : y2.length ≤ c2) (hr2 : Kd.C (Kd.int .i64) w A2 y2.length y2) (h2 : FLii64 y2) (hl3_0 : y3.f0.length ≤ c3_0) (hr3_0 : Kd.C (Kd.int .i64) w A3_0 y3.f0.length y3.f0) (hl3_1 : y3.f1.length ≤ c3_1) (hr3_1 : Kd.C (Kd.int .i64) w A3_1 y3.f1.length y3.f1) (h3 : F25 y3) :
    Calls Try.prog 5 #[.int .i64 a0, .slice A1 y1.length c1, .slice A2 y2.length c2, .agg #[.slice A3_0 y3.f0.length c3_0, .slice A3_1 y3.f1.length c3_1]] w fun e w' => e = .returned (.bool true) ∧ Below w.heap.size w w' := by
  obtain ⟨k, h⟩ := Pu.IsKept a0 y1 y2 y3 h0 h1 h2 h3
  refine (laws_FnExactIsKept.calls k a0 A1 c1 y1 A2 c2 y2 A3_0 c3_0 y3.f0 A3_1 c3_1 y3.f1 true w hr1 hl1 hr2 hl2 hr3_0 hl3_0 hr3_1 hl3_1 h).mono ?_
  rintro e w' ⟨rfl, hb⟩
  exact ⟨rfl, hb⟩
end Go.Proofs.Ytmbfgfhncbmgpaa.K
