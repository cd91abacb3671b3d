/- The walk of the law FnExactImplies (printed) and its pure statement (UImplies) together. No condition. -/
import Derived.Test.YtmbfgfhncbmgpaaPr6
import Derived.Test.YtmbfgfhncbmgpaaUImplies
import Derived.Test.YtmbfgfhncbmgpaaOps
namespace Go.Proofs.Ytmbfgfhncbmgpaa.K
open Go.RowKit Go.Proofs.Ytmbfgfhncbmgpaa.Ops Go.Proofs.Ytmbfgfhncbmgpaa.Pr Go.Proofs.YtmbfgfhncbmgpaaW.PrintWords
set_option linter.unusedVariables false
theorem Implies (a0 : Int) (A1 : Option Addr) (c1 : Nat) (y1 : (List S25)) (y2 : S25) (A2_0 : Option Addr) (c2_0 : Nat) (A2_1 : Option Addr) (c2_1 : Nat) (w : World) (h0 : Fii64 a0) (hl1 : y1.length ≤ c1) (hr1 : Kd.C k25 w A1 y1.length y1) (h1 : FL25 y1) (hl2_0 : y2.f0.length ≤ c2_0) (hr2_0 : Kd.C (Kd.int .i64) w A2_0 y2.f0.length y2.f0) (hl2_1 : y2.f1.length ≤ c2_1) (hr2_1 : Kd.C (Kd.int .i64) w A2_1 y2.f1.length y2.f1) (h2 : F25 y2) :
    Calls Try.prog 3 #[.int .i64 a0, .slice A1 y1.length c1, .agg #[.slice A2_0 y2.f0.length c2_0, .slice A2_1 y2.f1.length c2_1]] w fun e w' => e = .returned (.bool true) ∧ Below w.heap.size w w' := by
  obtain ⟨k, h⟩ := Pu.Implies a0 y1 y2 h0 h1 h2
  refine (laws_FnExactImplies.calls k a0 A1 c1 y1 A2_0 c2_0 y2.f0 A2_1 c2_1 y2.f1 true w hr1 hl1 hr2_0 hl2_0 hr2_1 hl2_1 h).mono ?_
  rintro e w' ⟨rfl, hb⟩
  exact ⟨rfl, hb⟩
end Go.Proofs.Ytmbfgfhncbmgpaa.K
