/- The walk of the law FnExactHoldsIn (printed) and its pure statement (UHoldsIn) together. No condition. -/
import Derived.Test.YtimmjgpagpkioaaPr11
import Derived.Test.YtimmjgpagpkioaaUHoldsIn
import Derived.Test.YtimmjgpagpkioaaOps
namespace Go.Proofs.Ytimmjgpagpkioaa.K
open Go.RowKit Go.Proofs.Ytimmjgpagpkioaa.Ops Go.Proofs.Ytimmjgpagpkioaa.Pr Go.Proofs.YtimmjgpagpkioaaW.PrintWords
set_option linter.unusedVariables false
theorem HoldsIn (y0 : S25) (A0_0 : Option Addr) (c0_0 : Nat) (A0_1 : Option Addr) (c0_1 : Nat) (y1 : S36) (A1_0 : Option Addr) (c1_0 : Nat) (A1_1 : Option Addr) (c1_1 : Nat) (w : World) (hl0_0 : y0.f0.length ≤ c0_0) (hr0_0 : Kd.C (Kd.int .i64) w A0_0 y0.f0.length y0.f0) (hl0_1 : y0.f1.length ≤ c0_1) (hr0_1 : Kd.C (Kd.slice 3 (Kd.int .i64)) w A0_1 y0.f1.length y0.f1) (h0 : F25 y0) (hl1_0 : y1.f0.length ≤ c1_0) (hr1_0 : Kd.C (Kd.int .i64) w A1_0 y1.f0.length y1.f0) (hl1_1 : y1.f1.length ≤ c1_1) (hr1_1 : Kd.C (Kd.int .i64) w A1_1 y1.f1.length y1.f1) (h1 : F36 y1) :
    Calls Try.prog 5 #[.agg #[.slice A0_0 y0.f0.length c0_0, .slice A0_1 y0.f1.length c0_1], .agg #[.slice A1_0 y1.f0.length c1_0, .slice A1_1 y1.f1.length c1_1]] w fun e w' => e = .returned (.bool true) ∧ Below w.heap.size w w' := by
  obtain ⟨k, h⟩ := Pu.HoldsIn y0 y1 h0 h1
  refine (laws_FnExactHoldsIn.calls k A0_0 c0_0 y0.f0 A0_1 c0_1 y0.f1 A1_0 c1_0 y1.f0 A1_1 c1_1 y1.f1 true w hr0_0 hl0_0 hr0_1 hl0_1 hr1_0 hl1_0 hr1_1 hl1_1 h).mono ?_
  rintro e w' ⟨rfl, hb⟩
  exact ⟨rfl, hb⟩
end Go.Proofs.Ytimmjgpagpkioaa.K
