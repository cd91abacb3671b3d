/- The walk of the law FnExactWaitsFor (LWaitsFor), what its callees come to, and its pure statement (UWaitsFor) together. Written by lawkk.py. No condition. -/
import Derived.Test.YtlknbopddalinaaLWaitsFor
import Derived.Test.YtlknbopddalinaaUWaitsFor
import Derived.Test.YtlknbopddalinaaMkBLocks
import Derived.Test.YtlknbopddalinaaOps
import Derived.Test.YtlknbopddalinaaCv
namespace Go.Proofs.Ytlknbopddalinaa.K
open Go.RowKit Go.Proofs.Ytlknbopddalinaa Go.Proofs.Ytlknbopddalinaa.Ops Go.Proofs.Ytlknbopddalinaa.Ax Go.Proofs.Ytlknbopddalinaa.Pr Go.Proofs.Ytlknbopddalinaa.Pl Go.Proofs.YtlknbopddalinaaW.PrintWords
set_option linter.unusedVariables false
set_option maxRecDepth 100000 in
theorem WaitsFor (y0 : S30) (A0_0 : Option Addr) (c0_0 : Nat) (A0_1 : Option Addr) (c0_1 : Nat) (A0_2 : Option Addr) (c0_2 : Nat) (y1 : S39) (w : World) (hl0_0 : y0.f0.length ≤ c0_0) (hr0_0 : Kd.C (Kd.slice 3 (Kd.int .i64)) w A0_0 y0.f0.length y0.f0) (hl0_1 : y0.f1.length ≤ c0_1) (hr0_1 : Kd.C (Kd.int .i64) w A0_1 y0.f1.length y0.f1) (hl0_2 : y0.f2.length ≤ c0_2) (hr0_2 : Kd.C (Kd.int .i64) w A0_2 y0.f2.length y0.f2) (h0 : F30 y0) (h1 : F39 y1) :
    Calls Try.prog 5 #[.agg #[.slice A0_0 y0.f0.length c0_0, .slice A0_1 y0.f1.length c0_1, .slice A0_2 y0.f2.length c0_2], .agg #[.int .i64 y1.f0, .int .i64 y1.f1, .bool y1.f2, .bool y1.f3]] w fun e w' => e = .returned (.bool true) ∧ Below w.heap.size w w' := by
  obtain ⟨s1, v0, le0, b0⟩ := szLocks_ev y0 1048576 h0 (by omega) (by omega)
  obtain ⟨k1, e1⟩ := Ev.rounds v0
  by_cases hr0_ : s1 < 0
  · exact L.WaitsFor_sz0 A0_0 c0_0 y0.f0 A0_1 c0_1 y0.f1 A0_2 c0_2 y0.f2 y1.f0 y1.f1 y1.f2 y1.f3 s1 k1 w (Aside0.mk hr0_0) (Aside0.mk hl0_0) (Aside0.mk hr0_1) (Aside0.mk hl0_1) (Aside0.mk hr0_2) (Aside0.mk hl0_2) (Aside0.mk e1) (decide_eq_true (by omega))
  have hB0 := b0 (by omega)
  have hB1 : BdAsk y1 := trivial
  obtain ⟨Y0_0, Y1, es, ei, hY0_0⟩ := Pu.WaitsFor_both ((cvLocks y0).f0) ((cvLocks y0).f1) ((cvLocks y0).f2) ((cvAsk y1).f0) ((cvAsk y1).f1) ((cvAsk y1).f2) ((cvAsk y1).f3) hB0.1 hB0.2.1 hB0.2.2
  have cb0 : Ax.cntLocks ((cvLocks y0).f0) ((cvLocks y0).f1) ((cvLocks y0).f2) ≤ 1125899906842624 := Nat.le_trans (Ax.cntLocks_bd (hB0.1) (hB0.2.1) (hB0.2.2)) (by decide)
  have cb1 : Ax.cntIntS Y0_0 ≤ 1125899906842624 := Nat.le_trans (Ax.cntIntS_bd hY0_0) (by decide)
  obtain ⟨k2, e2⟩ := Ev.rounds (toLocks_ev y0 hB0)
  obtain ⟨k3, e3⟩ := Ev.rounds (toAsk_ev y1 hB1)
  obtain ⟨k4, e4⟩ := Ev.rounds (es)
  obtain ⟨k5, e5⟩ := Ev.rounds (ei)
  obtain ⟨k6, e6⟩ := Ev.rounds (eqIntS_ev _ (ok_IntS hY0_0))
  obtain ⟨k7, e7⟩ := Ev.rounds (eqLocks_ev (cvLocks y0) (ok_Locks hB0))
  obtain ⟨k8, e8⟩ := Ev.rounds (Ax.heldIntS_ev' Y0_0 1 (by omega) (by omega))
  exact L.WaitsFor A0_0 c0_0 y0.f0 A0_1 c0_1 y0.f1 A0_2 c0_2 y0.f2 y1.f0 y1.f1 y1.f2 y1.f3 s1 k1 (cvLocks y0).f0 (cvLocks y0).f1 (cvLocks y0).f2 k2 (cvAsk y1).f0 (cvAsk y1).f1 (cvAsk y1).f2 (cvAsk y1).f3 Y0_0 Y1 k4 k5 k6 k7 ((1 : Int) + (Ax.cntLocks ((cvLocks y0).f0) ((cvLocks y0).f1) ((cvLocks y0).f2) : Nat)) ((1 : Int) + (Ax.cntIntS Y0_0 : Nat)) k8 w (Aside0.mk hr0_0) (Aside0.mk hl0_0) (Aside0.mk hr0_1) (Aside0.mk hl0_1) (Aside0.mk hr0_2) (Aside0.mk hl0_2) (Aside0.mk e1) (Aside0.mk e2) (Aside0.mk e3) (Aside0.mk e4) (Aside0.mk e5) (Aside0.mk e6) (Aside0.mk e7) (Aside0.mk e8) (decide_eq_false (by omega)) (decide_eq_false (by omega)) (decide_eq_false (by omega)) (Aside0.mk (by omega)) (Aside0.mk ⟨rfl, by omega⟩) (Aside0.mk (by omega)) (Aside0.mk ⟨rfl, by omega⟩)
end Go.Proofs.Ytlknbopddalinaa.K
