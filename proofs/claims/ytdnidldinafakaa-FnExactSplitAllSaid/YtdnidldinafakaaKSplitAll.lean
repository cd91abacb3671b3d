/- The walk of the law FnExactSplitAll (LSplitAll), what its callees come to, and its pure statement (USplitAll) together. Written by lawkk.py. No condition. -/
import Derived.Test.YtdnidldinafakaaLSplitAll
import Derived.Test.YtdnidldinafakaaUSplitAll
import Derived.Test.YtdnidldinafakaaMerge0
import Derived.Test.YtdnidldinafakaaMx5
namespace Go.Proofs.Ytdnidldinafakaa.K
open Go.RowKit Go.Proofs.Ytdnidldinafakaa Go.Proofs.Ytdnidldinafakaa.Ops Go.Proofs.Ytdnidldinafakaa.Ax Go.Proofs.Ytdnidldinafakaa.Pr Go.Proofs.Ytdnidldinafakaa.Pl Go.Proofs.YtdnidldinafakaaW.PrintWords
set_option linter.unusedVariables false
set_option maxRecDepth 100000 in
theorem SplitAll (a0 : Int) (A1 : Option Addr) (c1 : Nat) (y1 : (List S39)) (w : World) (h0 : Fii64 a0) (hl1 : y1.length ≤ c1) (hr1 : Kd.C k39 w A1 y1.length y1) (h1 : FL39 y1) :
    Calls Try.prog 5 #[.int .i64 a0, .slice A1 y1.length c1] w fun e w' => e = .returned (.bool true) ∧ Below w.heap.size w w' := by
  obtain ⟨s1, v0, le0, b0⟩ := szDepS_ev y1 1048576 h1 (by omega) (by omega)
  obtain ⟨k1, e1⟩ := Ev.rounds v0
  by_cases hr0_ : s1 < 0
  · exact L.SplitAll_sz0 a0 A1 c1 y1 s1 k1 w (Aside0.mk hr1) (Aside0.mk hl1) (Aside0.mk e1) (decide_eq_true (by omega))
  have hB1 := b0 (by omega)
  obtain ⟨Y0_0, Y1, es, ei, hY0_0⟩ := Pu.SplitAll_both a0 (y1.map cvDep) (ok_DepS hB1)
  have cb0 : Ax.cntDepS ((y1.map cvDep)) ≤ 1125899906842624 := Nat.le_trans (Ax.cntDepS_bd hB1) (by decide)
  have cb1 : Ax.cntIntSS Y0_0 ≤ 1125899906842624 := Nat.le_trans (Ax.cntIntSS_bd hY0_0) (by decide)
  obtain ⟨k2, e2⟩ := Ev.rounds (toDepS_ev y1 hB1)
  obtain ⟨k3, e3⟩ := Ev.rounds (es)
  obtain ⟨k4, e4⟩ := Ev.rounds (ei)
  obtain ⟨k5, e5⟩ := Ev.rounds (eqIntSS_ev _ (ok_IntSS hY0_0))
  obtain ⟨k6, e6⟩ := Ev.rounds (eqDepS_ev _ (ok_DepS hB1))
  obtain ⟨k7, e7⟩ := Ev.rounds (Ax.heldIntSS_ev' Y0_0 1 (by have := hY0_0.1; omega) (by omega) (by omega))
  exact L.SplitAll a0 A1 c1 y1 s1 k1 (y1.map cvDep) k2 Y0_0 Y1 k3 k4 k5 k6 ((1 : Int) + (Ax.cntDepS ((y1.map cvDep)) : Nat)) ((1 : Int) + (Ax.cntIntSS Y0_0 : Nat)) k7 w (Aside0.mk hr1) (Aside0.mk hl1) (Aside0.mk e1) (Aside0.mk e2) (Aside0.mk e3) (Aside0.mk e4) (Aside0.mk e5) (Aside0.mk e6) (Aside0.mk e7) (decide_eq_false (by omega)) (decide_eq_false (by omega)) (decide_eq_false (by omega)) (Aside0.mk (by omega)) (Aside0.mk ⟨rfl, by omega⟩) (Aside0.mk (by omega)) (Aside0.mk ⟨rfl, by omega⟩)
end Go.Proofs.Ytdnidldinafakaa.K
