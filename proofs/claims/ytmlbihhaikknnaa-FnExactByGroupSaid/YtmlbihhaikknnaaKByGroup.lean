/- The walk of the law FnExactByGroup (LByGroup), what its callees come to, and its pure statement (UByGroup) together. Written by lawkk.py. No condition. -/
import Derived.Test.YtmlbihhaikknnaaLByGroup
import Derived.Test.YtmlbihhaikknnaaUByGroup
import Derived.Test.YtmlbihhaikknnaaMerge0
import Derived.Test.YtmlbihhaikknnaaMx3
namespace Go.Proofs.Ytmlbihhaikknnaa.K
open Go.RowKit Go.Proofs.Ytmlbihhaikknnaa Go.Proofs.Ytmlbihhaikknnaa.Ops Go.Proofs.Ytmlbihhaikknnaa.Ax Go.Proofs.Ytmlbihhaikknnaa.Pr Go.Proofs.Ytmlbihhaikknnaa.Pl Go.Proofs.YtmlbihhaikknnaaW.PrintWords
set_option linter.unusedVariables false
set_option maxRecDepth 100000 in
theorem ByGroup (A0 : Option Addr) (c0 : Nat) (y0 : (List S49)) (a1 : Int) (a2 : Int) (w : World) (hl0 : y0.length ≤ c0) (hr0 : Kd.C k49 w A0 y0.length y0) (h0 : FL49 y0) (h1 : Fii64 a1) (h2 : Fii64 a2) :
    Calls Try.prog 4 #[.slice A0 y0.length c0, .int .i64 a1, .int .i64 a2] w fun e w' => e = .returned (.bool true) ∧ Below w.heap.size w w' := by
  obtain ⟨s1, v0, le0, b0⟩ := szRowS_ev y0 1048576 h0 (by omega) (by omega)
  obtain ⟨k1, e1⟩ := Ev.rounds v0
  by_cases hr0_ : s1 < 0
  · exact L.ByGroup_sz0 A0 c0 y0 a1 a2 s1 k1 w (Aside0.mk hr0) (Aside0.mk hl0) (Aside0.mk e1) (decide_eq_true (by omega))
  have hB0 := b0 (by omega)
  obtain ⟨Y0_0, Y1, es, ei, hY0_0⟩ := Pu.ByGroup_both (y0.map cvRow) a1 a2 (ok_RowS hB0)
  have cb0 : Ax.cntRowS ((y0.map cvRow)) ≤ 1125899906842624 := Nat.le_trans (Ax.cntRowS_bd hB0) (by decide)
  have cb1 : Ax.cntRowS Y0_0 ≤ 1125899906842624 := Nat.le_trans (Ax.cntWS_bd hY0_0) (by decide)
  obtain ⟨k2, e2⟩ := Ev.rounds (toRowS_ev y0 hB0)
  obtain ⟨k3, e3⟩ := Ev.rounds (es)
  obtain ⟨k4, e4⟩ := Ev.rounds (ei)
  obtain ⟨k5, e5⟩ := Ev.rounds (eqRowS_ev _ (ok_WS hY0_0))
  obtain ⟨k6, e6⟩ := Ev.rounds (eqRowS_ev _ (ok_RowS hB0))
  obtain ⟨k7, e7⟩ := Ev.rounds (Ax.heldRowS_ev' Y0_0 1 (by have := hY0_0.1; omega) (by omega) (by omega))
  exact L.ByGroup A0 c0 y0 a1 a2 s1 k1 (y0.map cvRow) k2 Y0_0 Y1 k3 k4 k5 k6 ((1 : Int) + (Ax.cntRowS ((y0.map cvRow)) : Nat)) ((1 : Int) + (Ax.cntRowS Y0_0 : Nat)) k7 w (Aside0.mk hr0) (Aside0.mk hl0) (Aside0.mk e1) (Aside0.mk e2) (Aside0.mk e3) (Aside0.mk e4) (Aside0.mk e5) (Aside0.mk e6) (Aside0.mk e7) (decide_eq_false (by omega)) (decide_eq_false (by omega)) (decide_eq_false (by omega)) (Aside0.mk (by omega)) (Aside0.mk ⟨rfl, by omega⟩) (Aside0.mk (by omega)) (Aside0.mk ⟨rfl, by omega⟩)
end Go.Proofs.Ytmlbihhaikknnaa.K
