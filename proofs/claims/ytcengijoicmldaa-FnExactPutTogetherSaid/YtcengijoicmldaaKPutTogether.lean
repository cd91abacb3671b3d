/- The walk of the law FnExactPutTogether (LPutTogether), what its callees come to, and its pure statement (UPutTogether) together. Written by lawkk.py. No condition. -/
import Derived.Test.YtcengijoicmldaaLPutTogether
import Derived.Test.YtcengijoicmldaaUPutTogether
import Derived.Test.YtcengijoicmldaaMerge0
import Derived.Test.YtcengijoicmldaaMx7
namespace Go.Proofs.Ytcengijoicmldaa.K
open Go.RowKit Go.Proofs.Ytcengijoicmldaa Go.Proofs.Ytcengijoicmldaa.Ops Go.Proofs.Ytcengijoicmldaa.Ax Go.Proofs.Ytcengijoicmldaa.Pr Go.Proofs.Ytcengijoicmldaa.Pl Go.Proofs.YtcengijoicmldaaW.PrintWords
set_option linter.unusedVariables false
set_option maxRecDepth 100000 in
theorem PutTogether (A0 : Option Addr) (c0 : Nat) (y0 : (List S37)) (w : World) (hl0 : y0.length ≤ c0) (hr0 : Kd.C k37 w A0 y0.length y0) (h0 : FL37 y0) :
  Calls Try.prog 3 #[.slice A0 y0.length c0] w fun e w' => e = .returned (.bool true) ∧ Below w.heap.size w w' := by
 obtain ⟨s1, v0, le0, b0⟩ := szRelationS_ev y0 1048576 h0 (by omega) (by omega)
 obtain ⟨k1, e1⟩ := Ev.rounds v0
 by_cases hr0_ : s1 < 0
 ·exact L.PutTogether_sz0 A0 c0 y0 s1 k1 w (Aside0.mk hr0) (Aside0.mk hl0) (Aside0.mk e1) (decide_eq_true (by omega))
 have hB0 := b0 (by omega)
 obtain ⟨Y0_0, Y0_1, Y1, es, ei, hY0_0, hY0_1⟩ := Pu.PutTogether_both (y0.map cvRelation) (ok_RelationS hB0)
 have cb0 : Ax.cntRelationS ((y0.map cvRelation)) ≤ 2305843009213693952 := Nat.le_trans (Ax.cntRelationS_bd hB0) (by decide)
 have cb1 : Ax.cntRelation Y0_0 Y0_1 ≤ 1125899906842624 := Nat.le_trans (Ax.cntRelation_bd hY0_0 hY0_1) (by decide)
 obtain ⟨k2, e2⟩ := Ev.rounds (toRelationS_ev y0 hB0)
 obtain ⟨k3, e3⟩ := Ev.rounds (es)
 obtain ⟨k4, e4⟩ := Ev.rounds (ei)
 obtain ⟨k5, e5⟩ := Ev.rounds (eqRelation_ev ⟨Y0_0, Y0_1⟩ ⟨ok_IntS hY0_0, ok_IntSS hY0_1⟩)
 obtain ⟨k6, e6⟩ := Ev.rounds (eqRelationS_ev _ (ok_RelationS hB0))
 obtain ⟨k7, e7⟩ := Ev.rounds (Ax.heldRelation_ev' Y0_0 Y0_1 1 (by have := hY0_1.1; omega) (by omega) (by omega))
 exact L.PutTogether A0 c0 y0 s1 k1 (y0.map cvRelation) k2 Y0_0 Y0_1 Y1 k3 k4 k5 k6 ((1 : Int) + (Ax.cntRelationS ((y0.map cvRelation)) : Nat)) ((1 : Int) + (Ax.cntRelation Y0_0 Y0_1 : Nat)) k7 w (Aside0.mk hr0) (Aside0.mk hl0) (Aside0.mk e1) (Aside0.mk e2) (Aside0.mk e3) (Aside0.mk e4) (Aside0.mk e5) (Aside0.mk e6) (Aside0.mk e7) (decide_eq_false (by omega)) (decide_eq_false (by omega)) (decide_eq_false (by omega)) (Aside0.mk (by omega)) (Aside0.mk ⟨rfl, by omega⟩) (Aside0.mk (by omega)) (Aside0.mk ⟨rfl, by omega⟩)
end Go.Proofs.Ytcengijoicmldaa.K
