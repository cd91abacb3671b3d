/- The walk of the law FnExactRename (LRename), what its callees come to, and its pure statement (URename) together. Written by lawkk.py. No condition. -/
import Derived.Test.YtcengijoicmldaaLRename
import Derived.Test.YtcengijoicmldaaURename
import Derived.Test.YtcengijoicmldaaMerge0
import Derived.Test.YtcengijoicmldaaOps
namespace Go.Proofs.Ytcengijoicmldaa.K
open Go.RowKit Go.Proofs.Ytcengijoicmldaa Go.Proofs.Ytcengijoicmldaa.Ops Go.Proofs.Ytcengijoicmldaa.Ax Go.Proofs.Ytcengijoicmldaa.Pr Go.Proofs.Ytcengijoicmldaa.Pl Go.Proofs.YtcengijoicmldaaW.PrintWords
set_option linter.unusedVariables false
set_option maxRecDepth 100000 in
theorem Rename (y0 : S37) (A0_0 : Option Addr) (c0_0 : Nat) (A0_1 : Option Addr) (c0_1 : Nat) (a1 : Int) (a2 : Int) (w : World) (hl0_0 : y0.f0.length ≤ c0_0) (hr0_0 : Kd.C (Kd.int .i64) w A0_0 y0.f0.length y0.f0) (hl0_1 : y0.f1.length ≤ c0_1) (hr0_1 : Kd.C (Kd.slice 3 (Kd.int .i64)) w A0_1 y0.f1.length y0.f1) (h0 : F37 y0) (h1 : Fii64 a1) (h2 : Fii64 a2) :
    Calls Try.prog 5 #[.agg #[.slice A0_0 y0.f0.length c0_0, .slice A0_1 y0.f1.length c0_1], .int .i64 a1, .int .i64 a2] w fun e w' => e = .returned (.bool true) ∧ Below w.heap.size w w' := by
  obtain ⟨s1, v0, le0, b0⟩ := szRelation_ev y0 1048576 h0 (by omega) (by omega)
  obtain ⟨k1, e1⟩ := Ev.rounds v0
  by_cases hr0_ : s1 < 0
  · exact L.Rename_sz0 A0_0 c0_0 y0.f0 A0_1 c0_1 y0.f1 a1 a2 s1 k1 w (Aside0.mk hr0_0) (Aside0.mk hl0_0) (Aside0.mk hr0_1) (Aside0.mk hl0_1) (Aside0.mk e1) (decide_eq_true (by omega))
  have hB0 := b0 (by omega)
  obtain ⟨Y0_0, Y0_1, Y1, es, ei, hY0_0, hY0_1⟩ := Pu.Rename_both ((cvRelation y0).f0) ((cvRelation y0).f1) a1 a2 hB0.1 hB0.2
  have cb0 : Ax.cntRelation ((cvRelation y0).f0) ((cvRelation y0).f1) ≤ 1125899906842624 := Nat.le_trans (Ax.cntRelation_bd (hB0.1) (hB0.2)) (by decide)
  have cb1 : Ax.cntRelation Y0_0 Y0_1 ≤ 1125899906842624 := Nat.le_trans (Ax.cntRelation_bd hY0_0 hY0_1) (by decide)
  obtain ⟨k2, e2⟩ := Ev.rounds (toRelation_ev y0 hB0)
  obtain ⟨k3, e3⟩ := Ev.rounds (es)
  obtain ⟨k4, e4⟩ := Ev.rounds (ei)
  obtain ⟨k5, e5⟩ := Ev.rounds (eqRelation_ev ⟨Y0_0, Y0_1⟩ ⟨ok_IntS hY0_0, ok_IntSS hY0_1⟩)
  obtain ⟨k6, e6⟩ := Ev.rounds (eqRelation_ev (cvRelation y0) (ok_Relation hB0))
  obtain ⟨k7, e7⟩ := Ev.rounds (Ax.heldRelation_ev' Y0_0 Y0_1 1 (by have := hY0_1.1; omega) (by omega) (by omega))
  exact L.Rename A0_0 c0_0 y0.f0 A0_1 c0_1 y0.f1 a1 a2 s1 k1 (cvRelation y0).f0 (cvRelation y0).f1 k2 Y0_0 Y0_1 Y1 k3 k4 k5 k6 ((1 : Int) + (Ax.cntRelation ((cvRelation y0).f0) ((cvRelation y0).f1) : Nat)) ((1 : Int) + (Ax.cntRelation Y0_0 Y0_1 : Nat)) k7 w (Aside0.mk hr0_0) (Aside0.mk hl0_0) (Aside0.mk hr0_1) (Aside0.mk hl0_1) (Aside0.mk e1) (Aside0.mk e2) (Aside0.mk e3) (Aside0.mk e4) (Aside0.mk e5) (Aside0.mk e6) (Aside0.mk e7) (decide_eq_false (by omega)) (decide_eq_false (by omega)) (decide_eq_false (by omega)) (Aside0.mk (by omega)) (Aside0.mk ⟨rfl, by omega⟩) (Aside0.mk (by omega)) (Aside0.mk ⟨rfl, by omega⟩)
end Go.Proofs.Ytcengijoicmldaa.K
