/- The walk of the law FnExactGoodRelation (printed) and its pure statement (UGoodRelation) together. No condition. -/
import Derived.Test.YtimmjgpagpkioaaPr6
import Derived.Test.YtimmjgpagpkioaaUGoodRelation
import Derived.Test.YtimmjgpagpkioaaOps
namespace Go.Proofs.Ytimmjgpagpkioaa.K
open Go.RowKit Go.Proofs.Ytimmjgpagpkioaa.Ops Go.Proofs.Ytimmjgpagpkioaa.Pr Go.Proofs.YtimmjgpagpkioaaW.PrintWords
set_option linter.unusedVariables false
theorem GoodRelation (y0 : S25) (A0_0 : Option Addr) (c0_0 : Nat) (A0_1 : Option Addr) (c0_1 : Nat) (w : World) (hl0_0 : y0.f0.length ≤ c0_0) (hr0_0 : Kd.C (Kd.int .i64) w A0_0 y0.f0.length y0.f0) (hl0_1 : y0.f1.length ≤ c0_1) (hr0_1 : Kd.C (Kd.slice 3 (Kd.int .i64)) w A0_1 y0.f1.length y0.f1) (h0 : F25 y0) :
    Calls Try.prog 3 #[.agg #[.slice A0_0 y0.f0.length c0_0, .slice A0_1 y0.f1.length c0_1]] w fun e w' => e = .returned (.bool true) ∧ Below w.heap.size w w' := by
  obtain ⟨k, h⟩ := Pu.GoodRelation y0 h0
  refine (laws_FnExactGoodRelation.calls k A0_0 c0_0 y0.f0 A0_1 c0_1 y0.f1 true w hr0_0 hl0_0 hr0_1 hl0_1 h).mono ?_
  rintro e w' ⟨rfl, hb⟩
  exact ⟨rfl, hb⟩
end Go.Proofs.Ytimmjgpagpkioaa.K
