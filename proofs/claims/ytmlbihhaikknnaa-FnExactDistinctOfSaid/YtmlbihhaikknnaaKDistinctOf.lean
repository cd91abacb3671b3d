/- The walk of the law FnExactDistinctOf (printed) and its pure statement (UDistinctOf) together. No condition. -/
import Derived.Test.YtmlbihhaikknnaaPr6
import Derived.Test.YtmlbihhaikknnaaUDistinctOf
import Derived.Test.YtmlbihhaikknnaaOps
namespace Go.Proofs.Ytmlbihhaikknnaa.K
open Go.RowKit Go.Proofs.Ytmlbihhaikknnaa.Ops Go.Proofs.Ytmlbihhaikknnaa.Pr Go.Proofs.YtmlbihhaikknnaaW.PrintWords
set_option linter.unusedVariables false
theorem DistinctOf (A0 : Option Addr) (c0 : Nat) (y0 : (List S45)) (w : World) (hl0 : y0.length ≤ c0) (hr0 : Kd.C k45 w A0 y0.length y0) (h0 : FL45 y0) :
    Calls Try.prog 3 #[.slice A0 y0.length c0] w fun e w' => e = .returned (.bool true) ∧ Below w.heap.size w w' := by
  obtain ⟨k, h⟩ := Pu.DistinctOf y0 h0
  refine (laws_FnExactDistinctOf.calls k A0 c0 y0 true w hr0 hl0 h).mono ?_
  rintro e w' ⟨rfl, hb⟩
  exact ⟨rfl, hb⟩
end Go.Proofs.Ytmlbihhaikknnaa.K
