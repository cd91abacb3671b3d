/- The walk of the law FnExactWitnessFor (LWitnessFor), what its callees come to, and its pure statement (UWitnessFor) together. Written by lawkk.py. No condition. -/
import Derived.Test.YtcengijoicmldaaGreatLWitnessFor
import Derived.Test.YtcengijoicmldaaGreatUWitnessFor
import Derived.Test.YtcengijoicmldaaGreatMerge0
import Derived.Test.YtcengijoicmldaaGreatMx5
namespace Go.Proofs.YtcengijoicmldaaGreat.K
open Go.RowKit Go.Proofs.YtcengijoicmldaaGreat Go.Proofs.YtcengijoicmldaaGreat.Ops Go.Proofs.YtcengijoicmldaaGreat.Ax Go.Proofs.YtcengijoicmldaaGreat.Pr Go.Proofs.YtcengijoicmldaaGreat.Pl Go.Proofs.YtcengijoicmldaaGreatW.PrintWords
set_option linter.unusedVariables false
set_option maxRecDepth 100000 in
theorem WitnessFor (a0 : Int) (A1 : Option Addr) (c1 : Nat) (y1 : (List S25)) (y2 : S25) (A2_0 : Option Addr) (c2_0 : Nat) (A2_1 : Option Addr) (c2_1 : Nat) (w : World) (h0 : Fii64 a0) (hl1 : y1.length ≤ c1) (hr1 : Kd.C k25 w A1 y1.length y1) (h1 : FL25 y1) (hl2_0 : y2.f0.length ≤ c2_0) (hr2_0 : Kd.C (Kd.int .i64) w A2_0 y2.f0.length y2.f0) (hl2_1 : y2.f1.length ≤ c2_1) (hr2_1 : Kd.C (Kd.int .i64) w A2_1 y2.f1.length y2.f1) (h2 : F25 y2) :
    Calls Tryz.prog 3 #[.int .i64 a0, .slice A1 y1.length c1, .agg #[.slice A2_0 y2.f0.length c2_0, .slice A2_1 y2.f1.length c2_1]] w fun e w' => e = .returned (.bool true) ∧ Below w.heap.size w w' := by
  obtain ⟨s1, v0, le0, b0⟩ := szDepS_ev y1 1048576 h1 (by omega) (by omega)
  obtain ⟨k1, e1⟩ := Ev.rounds v0
  by_cases hr0_ : s1 < 0
  · exact L.WitnessFor_sz0 a0 A1 c1 y1 A2_0 c2_0 y2.f0 A2_1 c2_1 y2.f1 s1 k1 w (Aside0.mk hr1) (Aside0.mk hl1) (Aside0.mk hr2_0) (Aside0.mk hl2_0) (Aside0.mk hr2_1) (Aside0.mk hl2_1) (Aside0.mk e1) (decide_eq_true (by omega))
  have hB1 := b0 (by omega)
  obtain ⟨s2, v1, le1, b1⟩ := szDep_ev y2 s1 h2 (by omega) (by omega)
  obtain ⟨k2, e2⟩ := Ev.rounds v1
  by_cases hr1_ : s2 < 0
  · exact L.WitnessFor_sz1 a0 A1 c1 y1 A2_0 c2_0 y2.f0 A2_1 c2_1 y2.f1 s1 k1 s2 w (Aside0.mk hr1) (Aside0.mk hl1) (Aside0.mk hr2_0) (Aside0.mk hl2_0) (Aside0.mk hr2_1) (Aside0.mk hl2_1) (Aside0.mk e1) (Aside0.mk e2) (decide_eq_false (by omega)) (decide_eq_true (by omega))
  have hB2 := b1 (by omega)
  obtain ⟨Y0_0, Y0_1, Y1, es, ei, hY0_0, hY0_1⟩ := Pu.WitnessFor_both a0 (y1.map cvDep) ((cvDep y2).f0) ((cvDep y2).f1) (ok_DepS hB1) hB2.1 hB2.2
  have cb0 : Ax.cntDepS ((y1.map cvDep)) ≤ 1125899906842624 := Nat.le_trans (Ax.cntDepS_bd hB1) (by decide)
  have cb1 : Ax.cntDep ((cvDep y2).f0) ((cvDep y2).f1) ≤ 1125899906842624 := Nat.le_trans (Ax.cntDep_bd (hB2.1) (hB2.2)) (by decide)
  have cb2 : Ax.cntRelation Y0_0 Y0_1 ≤ 1125899906842624 := Nat.le_trans (Ax.cntRelation_bd hY0_0 hY0_1) (by decide)
  obtain ⟨k3, e3⟩ := Ev.rounds (toDepS_ev y1 hB1)
  obtain ⟨k4, e4⟩ := Ev.rounds (toDep_ev y2 hB2)
  obtain ⟨k5, e5⟩ := Ev.rounds (es)
  obtain ⟨k6, e6⟩ := Ev.rounds (ei)
  obtain ⟨k7, e7⟩ := Ev.rounds (eqRelation_ev ⟨Y0_0, Y0_1⟩ ⟨ok_IntS hY0_0, ok_IntSS hY0_1⟩)
  obtain ⟨k8, e8⟩ := Ev.rounds (eqDepS_ev _ (ok_DepS hB1))
  obtain ⟨k9, e9⟩ := Ev.rounds (eqDep_ev (cvDep y2) (ok_Dep hB2))
  obtain ⟨k10, e10⟩ := Ev.rounds (Ax.heldRelation_ev' Y0_0 Y0_1 1 (by have := hY0_1.1; omega) (by omega) (by omega))
  exact L.WitnessFor a0 A1 c1 y1 A2_0 c2_0 y2.f0 A2_1 c2_1 y2.f1 s1 k1 s2 (y1.map cvDep) (cvDep y2).f0 (cvDep y2).f1 k3 k4 Y0_0 Y0_1 Y1 k5 k6 k7 k8 k9 ((1 : Int) + (Ax.cntDepS ((y1.map cvDep)) : Nat)) (((1 : Int) + (Ax.cntDepS ((y1.map cvDep)) : Nat)) + (Ax.cntDep ((cvDep y2).f0) ((cvDep y2).f1) : Nat)) ((1 : Int) + (Ax.cntRelation Y0_0 Y0_1 : Nat)) k10 w (Aside0.mk hr1) (Aside0.mk hl1) (Aside0.mk hr2_0) (Aside0.mk hl2_0) (Aside0.mk hr2_1) (Aside0.mk hl2_1) (Aside0.mk e1) (Aside0.mk e2) (Aside0.mk e3) (Aside0.mk e4) (Aside0.mk e5) (Aside0.mk e6) (Aside0.mk e7) (Aside0.mk e8) (Aside0.mk e9) (Aside0.mk e10) (decide_eq_false (by omega)) (decide_eq_false (by omega)) (decide_eq_false (by omega)) (decide_eq_false (by omega)) (decide_eq_false (by omega)) (Aside0.mk (by omega)) (Aside0.mk ⟨rfl, by omega⟩) (Aside0.mk (by omega)) (Aside0.mk ⟨rfl, by omega⟩) (Aside0.mk (by omega)) (Aside0.mk ⟨rfl, by omega⟩)
end Go.Proofs.YtcengijoicmldaaGreat.K
