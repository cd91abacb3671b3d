/- The walk of the law FnExactGoodLocks (printed) and its pure statement (UGoodLocks) together. No condition. -/
import Derived.Test.YtleckpfdfngjcaaPr10
import Derived.Test.YtleckpfdfngjcaaUGoodLocks
import Derived.Test.YtleckpfdfngjcaaOps
namespace Go.Proofs.Ytleckpfdfngjcaa.K
open Go.RowKit Go.Proofs.Ytleckpfdfngjcaa.Ops Go.Proofs.Ytleckpfdfngjcaa.Pr Go.Proofs.YtleckpfdfngjcaaW.PrintWords
set_option linter.unusedVariables false
theorem GoodLocks (y0 : S25) (A0_0 : Option Addr) (c0_0 : Nat) (A0_1 : Option Addr) (c0_1 : Nat) (A0_2 : Option Addr) (c0_2 : Nat) (w : World) (hl0_0 : y0.f0.length ≤ c0_0) (hr0_0 : Kd.C (Kd.slice 3 (Kd.int .i64)) w A0_0 y0.f0.length y0.f0) (hl0_1 : y0.f1.length ≤ c0_1) (hr0_1 : Kd.C (Kd.int .i64) w A0_1 y0.f1.length y0.f1) (hl0_2 : y0.f2.length ≤ c0_2) (hr0_2 : Kd.C (Kd.int .i64) w A0_2 y0.f2.length y0.f2) (h0 : F25 y0) :
    Calls Try.prog 3 #[.agg #[.slice A0_0 y0.f0.length c0_0, .slice A0_1 y0.f1.length c0_1, .slice A0_2 y0.f2.length c0_2]] w fun e w' => e = .returned (.bool true) ∧ Below w.heap.size w w' := by
  obtain ⟨k, h⟩ := Pu.GoodLocks y0 h0
  refine (laws_FnExactGoodLocks.calls k A0_0 c0_0 y0.f0 A0_1 c0_1 y0.f1 A0_2 c0_2 y0.f2 true w hr0_0 hl0_0 hr0_1 hl0_1 hr0_2 hl0_2 h).mono ?_
  rintro e w' ⟨rfl, hb⟩
  exact ⟨rfl, hb⟩
end Go.Proofs.Ytleckpfdfngjcaa.K
