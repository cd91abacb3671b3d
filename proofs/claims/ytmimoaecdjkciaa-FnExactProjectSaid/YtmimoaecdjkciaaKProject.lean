/- The walk of the law FnExactProject (LProject), what its callees come to, and its pure statement (UProject) together. Written by lawkk.py. No condition. -/
import Derived.Test.YtmimoaecdjkciaaLProject
import Derived.Test.YtmimoaecdjkciaaUProject
import Derived.Test.YtmimoaecdjkciaaMerge0
import Derived.Test.YtmimoaecdjkciaaOps
namespace Go.Proofs.Ytmimoaecdjkciaa.K
open Go.RowKit Go.Proofs.Ytmimoaecdjkciaa Go.Proofs.Ytmimoaecdjkciaa.Ops Go.Proofs.Ytmimoaecdjkciaa.Ax Go.Proofs.Ytmimoaecdjkciaa.Pr Go.Proofs.Ytmimoaecdjkciaa.Pl Go.Proofs.YtmimoaecdjkciaaW.PrintWords
set_option linter.unusedVariables false
set_option maxRecDepth 100000 in
theorem Project (y0 : S25) (A0_0 : Option Addr) (c0_0 : Nat) (A0_1 : Option Addr) (c0_1 : Nat) (A1 : Option Addr) (c1 : Nat) (y1 : (List Int)) (w : World) (hl0_0 : y0.f0.length ≤ c0_0) (hr0_0 : Kd.C (Kd.int .i64) w A0_0 y0.f0.length y0.f0) (hl0_1 : y0.f1.length ≤ c0_1) (hr0_1 : Kd.C (Kd.slice 3 (Kd.int .i64)) w A0_1 y0.f1.length y0.f1) (h0 : F25 y0) (hl1 : y1.length ≤ c1) (hr1 : Kd.C (Kd.int .i64) w A1 y1.length y1) (h1 : FLii64 y1) :
    Calls Try.prog 5 #[.agg #[.slice A0_0 y0.f0.length c0_0, .slice A0_1 y0.f1.length c0_1], .slice A1 y1.length c1] w fun e w' => e = .returned (.bool true) ∧ Below w.heap.size w w' := by
  by_cases g0 : (y1.length : Int) > 1048576
  · exact L.Project_len0 A0_0 c0_0 y0.f0 A0_1 c0_1 y0.f1 A1 c1 y1 w (Aside0.mk hr0_0) (Aside0.mk hl0_0) (Aside0.mk hr0_1) (Aside0.mk hl0_1) (Aside0.mk hr1) (Aside0.mk hl1) (decide_eq_true (by omega)) (decide_eq_true (by omega)) 
  have hB1 : BdIntS y1 := ⟨by omega, fun _ _ => trivial⟩
  obtain ⟨s1, v0, le0, b0⟩ := szRelation_ev y0 1048576 h0 (by omega) (by omega)
  obtain ⟨k1, e1⟩ := Ev.rounds v0
  by_cases hr0_ : s1 < 0
  · exact L.Project_sz0 A0_0 c0_0 y0.f0 A0_1 c0_1 y0.f1 A1 c1 y1 s1 k1 w (Aside0.mk hr0_0) (Aside0.mk hl0_0) (Aside0.mk hr0_1) (Aside0.mk hl0_1) (Aside0.mk hr1) (Aside0.mk hl1) (Aside0.mk e1) (decide_eq_false (by omega)) (decide_eq_false (by omega)) (decide_eq_true (by omega))
  have hB0 := b0 (by omega)
  obtain ⟨Y0_0, Y0_1, Y1, es, ei, hY0_0, hY0_1⟩ := Pu.Project_both ((cvRelation y0).f0) ((cvRelation y0).f1) y1 hB0.1 hB0.2 hB1
  have cb0 : Ax.cntRelation ((cvRelation y0).f0) ((cvRelation y0).f1) ≤ 1125899906842624 := Nat.le_trans (Ax.cntRelation_bd (hB0.1) (hB0.2)) (by decide)
  have cb1 : Ax.cntIntS y1 ≤ 1125899906842624 := Nat.le_trans (Ax.cntIntS_bd hB1) (by decide)
  have cb2 : Ax.cntRelation Y0_0 Y0_1 ≤ 1125899906842624 := Nat.le_trans (Ax.cntRelation_bd hY0_0 hY0_1) (by decide)
  obtain ⟨k2, e2⟩ := Ev.rounds (toRelation_ev y0 hB0)
  obtain ⟨k3, e3⟩ := Ev.rounds (toIntS_ev y1 hB1)
  obtain ⟨k4, e4⟩ := Ev.rounds (es)
  obtain ⟨k5, e5⟩ := Ev.rounds (ei)
  obtain ⟨k6, e6⟩ := Ev.rounds (eqRelation_ev ⟨Y0_0, Y0_1⟩ ⟨ok_IntS hY0_0, ok_IntSS hY0_1⟩)
  obtain ⟨k7, e7⟩ := Ev.rounds (eqRelation_ev (cvRelation y0) (ok_Relation hB0))
  obtain ⟨k8, e8⟩ := Ev.rounds (eqIntS_ev _ (ok_IntS hB1))
  obtain ⟨k9, e9⟩ := Ev.rounds (Ax.heldRelation_ev' Y0_0 Y0_1 1 (by have := hY0_1.1; omega) (by omega) (by omega))
  exact L.Project A0_0 c0_0 y0.f0 A0_1 c0_1 y0.f1 A1 c1 y1 s1 k1 (cvRelation y0).f0 (cvRelation y0).f1 k2 y1 k3 Y0_0 Y0_1 Y1 k4 k5 k6 k7 k8 ((1 : Int) + (Ax.cntRelation ((cvRelation y0).f0) ((cvRelation y0).f1) : Nat)) (((1 : Int) + (Ax.cntRelation ((cvRelation y0).f0) ((cvRelation y0).f1) : Nat)) + (Ax.cntIntS y1 : Nat)) ((1 : Int) + (Ax.cntRelation Y0_0 Y0_1 : Nat)) k9 w (Aside0.mk hr0_0) (Aside0.mk hl0_0) (Aside0.mk hr0_1) (Aside0.mk hl0_1) (Aside0.mk hr1) (Aside0.mk hl1) (Aside0.mk e1) (Aside0.mk e2) (Aside0.mk e3) (Aside0.mk e4) (Aside0.mk e5) (Aside0.mk e6) (Aside0.mk e7) (Aside0.mk e8) (Aside0.mk e9) (decide_eq_false (by omega)) (decide_eq_false (by omega)) (decide_eq_false (by omega)) (decide_eq_false (by omega)) (decide_eq_false (by omega)) (decide_eq_false (by omega)) (Aside0.mk (by omega)) (Aside0.mk ⟨rfl, by omega⟩) (Aside0.mk (by omega)) (Aside0.mk ⟨rfl, by omega⟩) (Aside0.mk (by omega)) (Aside0.mk ⟨rfl, by omega⟩)
end Go.Proofs.Ytmimoaecdjkciaa.K
