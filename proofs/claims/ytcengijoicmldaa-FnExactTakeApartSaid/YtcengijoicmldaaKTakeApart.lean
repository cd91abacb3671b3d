/- The walk of the law FnExactTakeApart (LTakeApart), what its callees come to, and its pure statement (UTakeApart) together. Written by lawkk.py. No condition. -/
import Derived.Test.YtcengijoicmldaaLTakeApart
import Derived.Test.YtcengijoicmldaaUTakeApart
import Derived.Test.YtcengijoicmldaaMerge0
import Derived.Test.YtcengijoicmldaaOps
import Derived.Test.YtcengijoicmldaaMerge1
namespace Go.Proofs.Ytcengijoicmldaa.K
open Go.RowKit Go.Proofs.Ytcengijoicmldaa Go.Proofs.Ytcengijoicmldaa.Ops Go.Proofs.Ytcengijoicmldaa.Ax Go.Proofs.Ytcengijoicmldaa.Pr Go.Proofs.Ytcengijoicmldaa.Pl Go.Proofs.YtcengijoicmldaaW.PrintWords
set_option linter.unusedVariables false
set_option maxRecDepth 100000 in
theorem TakeApart (y0 : S37) (A0_0 : Option Addr) (c0_0 : Nat) (A0_1 : Option Addr) (c0_1 : Nat) (A1 : Option Addr) (c1 : Nat) (y1 : (List (List Int))) (w : World) (hl0_0 : y0.f0.length ≤ c0_0) (hr0_0 : Kd.C (Kd.int .i64) w A0_0 y0.f0.length y0.f0) (hl0_1 : y0.f1.length ≤ c0_1) (hr0_1 : Kd.C (Kd.slice 3 (Kd.int .i64)) w A0_1 y0.f1.length y0.f1) (h0 : F37 y0) (hl1 : y1.length ≤ c1) (hr1 : Kd.C (Kd.slice 3 (Kd.int .i64)) w A1 y1.length y1) (h1 : FLLii64 y1) :
    Calls Try.prog 4 #[.agg #[.slice A0_0 y0.f0.length c0_0, .slice A0_1 y0.f1.length c0_1], .slice A1 y1.length c1] w fun e w' => e = .returned (.bool true) ∧ Below w.heap.size w w' := by
  obtain ⟨s1, v0, le0, b0⟩ := szRelation_ev y0 1048576 h0 (by omega) (by omega)
  obtain ⟨k1, e1⟩ := Ev.rounds v0
  by_cases hr0_ : s1 < 0
  · exact L.TakeApart_sz0 A0_0 c0_0 y0.f0 A0_1 c0_1 y0.f1 A1 c1 y1 s1 k1 w (Aside0.mk hr0_0) (Aside0.mk hl0_0) (Aside0.mk hr0_1) (Aside0.mk hl0_1) (Aside0.mk hr1) (Aside0.mk hl1) (Aside0.mk e1) (decide_eq_true (by omega))
  have hB0 := b0 (by omega)
  obtain ⟨s2, v1, le1, b1⟩ := szIntSS_ev y1 s1 h1 (by omega) (by omega)
  obtain ⟨k2, e2⟩ := Ev.rounds v1
  by_cases hr1_ : s2 < 0
  · exact L.TakeApart_sz1 A0_0 c0_0 y0.f0 A0_1 c0_1 y0.f1 A1 c1 y1 s1 k1 s2 k2 w (Aside0.mk hr0_0) (Aside0.mk hl0_0) (Aside0.mk hr0_1) (Aside0.mk hl0_1) (Aside0.mk hr1) (Aside0.mk hl1) (Aside0.mk e1) (Aside0.mk e2) (decide_eq_false (by omega)) (decide_eq_true (by omega))
  have hB1 := b1 (by omega)
  obtain ⟨Y0_0, Y1, es, ei, hY0_0⟩ := Pu.TakeApart_both ((cvRelation y0).f0) ((cvRelation y0).f1) y1 hB0.1 hB0.2 hB1
  have cb0 : Ax.cntRelation ((cvRelation y0).f0) ((cvRelation y0).f1) ≤ 1125899906842624 := Nat.le_trans (Ax.cntRelation_bd (hB0.1) (hB0.2)) (by decide)
  have cb1 : Ax.cntIntSS y1 ≤ 1125899906842624 := Nat.le_trans (Ax.cntIntSS_bd hB1) (by decide)
  have cb2 : Ax.cntRelationS Y0_0 ≤ 1125899906842624 := Nat.le_trans (Ax.cntRS_bd hY0_0) (by decide)
  obtain ⟨k3, e3⟩ := Ev.rounds (toRelation_ev y0 hB0)
  obtain ⟨k4, e4⟩ := Ev.rounds (toIntSS_ev y1 hB1)
  obtain ⟨k5, e5⟩ := Ev.rounds (es)
  obtain ⟨k6, e6⟩ := Ev.rounds (ei)
  obtain ⟨k7, e7⟩ := Ev.rounds (eqRelationS_ev _ (ok_RS hY0_0 (by decide)))
  obtain ⟨k8, e8⟩ := Ev.rounds (eqRelation_ev (cvRelation y0) (ok_Relation hB0))
  obtain ⟨k9, e9⟩ := Ev.rounds (eqIntSS_ev _ (ok_IntSS hB1))
  obtain ⟨k10, e10⟩ := Ev.rounds (Ax.heldRelationS_ev' Y0_0 1 (by have := hY0_0.1; omega) (fun y hy => by have := (hY0_0.2 y hy).2.1; omega) (by omega) (by omega))
  exact L.TakeApart A0_0 c0_0 y0.f0 A0_1 c0_1 y0.f1 A1 c1 y1 s1 k1 s2 k2 (cvRelation y0).f0 (cvRelation y0).f1 k3 y1 k4 Y0_0 Y1 k5 k6 k7 k8 k9 ((1 : Int) + (Ax.cntRelation ((cvRelation y0).f0) ((cvRelation y0).f1) : Nat)) (((1 : Int) + (Ax.cntRelation ((cvRelation y0).f0) ((cvRelation y0).f1) : Nat)) + (Ax.cntIntSS y1 : Nat)) ((1 : Int) + (Ax.cntRelationS Y0_0 : Nat)) k10 w (Aside0.mk hr0_0) (Aside0.mk hl0_0) (Aside0.mk hr0_1) (Aside0.mk hl0_1) (Aside0.mk hr1) (Aside0.mk hl1) (Aside0.mk e1) (Aside0.mk e2) (Aside0.mk e3) (Aside0.mk e4) (Aside0.mk e5) (Aside0.mk e6) (Aside0.mk e7) (Aside0.mk e8) (Aside0.mk e9) (Aside0.mk e10) (decide_eq_false (by omega)) (decide_eq_false (by omega)) (decide_eq_false (by omega)) (decide_eq_false (by omega)) (decide_eq_false (by omega)) (Aside0.mk (by omega)) (Aside0.mk ⟨rfl, by omega⟩) (Aside0.mk (by omega)) (Aside0.mk ⟨rfl, by omega⟩) (Aside0.mk (by omega)) (Aside0.mk ⟨rfl, by omega⟩)
end Go.Proofs.Ytcengijoicmldaa.K
