/- The walk of the law FnExactNewLocks (LNewLocks), what its callees come to, and its pure statement (UNewLocks) together. Written by lawkk.py. No condition. -/
import Derived.Test.YtlknbopddalinaaLNewLocks
import Derived.Test.YtlknbopddalinaaUNewLocks
import Derived.Test.YtlknbopddalinaaMkB
import Derived.Test.YtlknbopddalinaaMkBLocks
import Derived.Test.YtlknbopddalinaaOps
import Derived.Test.YtlknbopddalinaaCv
namespace Go.Proofs.Ytlknbopddalinaa.K
open Go.RowKit Go.Proofs.Ytlknbopddalinaa Go.Proofs.Ytlknbopddalinaa.Ops Go.Proofs.Ytlknbopddalinaa.Ax Go.Proofs.Ytlknbopddalinaa.Pr Go.Proofs.Ytlknbopddalinaa.Pl Go.Proofs.YtlknbopddalinaaW.PrintWords
set_option linter.unusedVariables false
set_option maxRecDepth 100000 in
theorem NewLocks  (w : World)  :
    Calls Try.prog 3 #[] w fun e w' => e = .returned (.bool true) ∧ Below w.heap.size w w' := by
  obtain ⟨Y0_0, Y0_1, Y0_2, es, ei, hY0_0, hY0_1, hY0_2⟩ := Pu.NewLocks_both  
  have cb0 := Ax.cntLocks_bd hY0_0 hY0_1 hY0_2
  obtain ⟨k3, e3⟩ := Ev.rounds (eqLocks_ev ⟨Y0_0, Y0_1, Y0_2⟩ ⟨ok_IntSS hY0_0, ok_IntS hY0_1, ok_IntS hY0_2⟩)
  obtain ⟨k4, e4⟩ := Ev.rounds (Ax.heldLocks_ev' Y0_0 Y0_1 Y0_2 1 (by have := hY0_0.1; omega) (by omega) (by omega))
  exact L.NewLocks  Y0_0 Y0_1 Y0_2 k3 ((1 : Int) + (Ax.cntLocks Y0_0 Y0_1 Y0_2 : Nat)) k4 w  (Aside0.mk es) (Aside0.mk ei) (Aside0.mk e3) (Aside0.mk e4) (decide_eq_false (by omega)) (Aside0.mk (by omega)) (Aside0.mk ⟨rfl, by omega⟩)
end Go.Proofs.Ytlknbopddalinaa.K
