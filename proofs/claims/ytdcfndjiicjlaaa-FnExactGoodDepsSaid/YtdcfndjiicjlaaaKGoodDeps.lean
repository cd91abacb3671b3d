/- The walk of the law FnExactGoodDeps (printed) and its pure statement (UGoodDeps) together. No condition. -/
import Derived.Test.YtdcfndjiicjlaaaPr5
import Derived.Test.YtdcfndjiicjlaaaUGoodDeps
import Derived.Test.YtdcfndjiicjlaaaOps
namespace Go.Proofs.Ytdcfndjiicjlaaa.K
open Go.RowKit Go.Proofs.Ytdcfndjiicjlaaa.Ops Go.Proofs.Ytdcfndjiicjlaaa.Pr Go.Proofs.YtdcfndjiicjlaaaW.PrintWords
set_option linter.unusedVariables false
theorem GoodDeps (a0 : Int) (A1 : Option Addr) (c1 : Nat) (y1 : (List S31)) (w : World) (h0 : Fii64 a0) (hl1 : y1.length ≤ c1) (hr1 : Kd.C k31 w A1 y1.length y1) (h1 : FL31 y1) :
    Calls Try.prog 3 #[.int .i64 a0, .slice A1 y1.length c1] w fun e w' => e = .returned (.bool true) ∧ Below w.heap.size w w' := by
  obtain ⟨k, h⟩ := Pu.GoodDeps a0 y1 h0 h1
  refine (laws_FnExactGoodDeps.calls k a0 A1 c1 y1 true w hr1 hl1 h).mono ?_
  rintro e w' ⟨rfl, hb⟩
  exact ⟨rfl, hb⟩
end Go.Proofs.Ytdcfndjiicjlaaa.K
