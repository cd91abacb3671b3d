/- The walk of the law FnExactIsLossless (printed) and its pure statement (UIsLossless) together. No condition. -/
import Derived.Test.YtmbfgfhncbmgpaaPr8
import Derived.Test.YtmbfgfhncbmgpaaUIsLossless
import Derived.Test.YtmbfgfhncbmgpaaOps
namespace Go.Proofs.Ytmbfgfhncbmgpaa.K
open Go.RowKit Go.Proofs.Ytmbfgfhncbmgpaa.Ops Go.Proofs.Ytmbfgfhncbmgpaa.Pr Go.Proofs.YtmbfgfhncbmgpaaW.PrintWords
set_option linter.unusedVariables false
theorem IsLossless (a0 : Int) (A1 : Option Addr) (c1 : Nat) (y1 : (List S25)) (A2 : Option Addr) (c2 : Nat) (y2 : (List Int)) (A3 : Option Addr) (c3 : Nat) (y3 : (List Int)) (w : World) (h0 : Fii64 a0) (hl1 : y1.length ≤ c1) (hr1 : Kd.C k25 w A1 y1.length y1) (h1 : FL25 y1) (hl2 : y2.length ≤ c2) (hr2 : Kd.C (Kd.int .i64) w A2 y2.length y2) (h2 : FLii64 y2) (hl3 : y3.length ≤ c3) (hr3 : Kd.C (Kd.int .i64) w A3 y3.length y3) (h3 : FLii64 y3) :
    Calls Try.prog 7 #[.int .i64 a0, .slice A1 y1.length c1, .slice A2 y2.length c2, .slice A3 y3.length c3] w fun e w' => e = .returned (.bool true) ∧ Below w.heap.size w w' := by
  obtain ⟨k, h⟩ := Pu.IsLossless a0 y1 y2 y3 h0 h1 h2 h3
  refine (laws_FnExactIsLossless.calls k a0 A1 c1 y1 A2 c2 y2 A3 c3 y3 true w hr1 hl1 hr2 hl2 hr3 hl3 h).mono ?_
  rintro e w' ⟨rfl, hb⟩
  exact ⟨rfl, hb⟩
end Go.Proofs.Ytmbfgfhncbmgpaa.K
