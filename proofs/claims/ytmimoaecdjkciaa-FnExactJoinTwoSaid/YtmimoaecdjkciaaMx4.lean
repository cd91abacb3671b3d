/- Several small texts together: UJoinTwo, KJoinTwo. No condition but those they name. -/
import Derived.Test.YtmimoaecdjkciaaPr5
import Derived.Test.YtmimoaecdjkciaaPr7
import Derived.Test.YtmimoaecdjkciaaMx1
import Derived.Test.YtmimoaecdjkciaaMerge1
import Derived.Test.YtmimoaecdjkciaaLJoinTwo
import Derived.Test.YtmimoaecdjkciaaMerge0
/- The law FnExactJoinTwo over numbers and lists alone. No condition. -/
namespace Go.Proofs.Ytmimoaecdjkciaa.Pu
open Go.RowKit Go.Proofs.Ytmimoaecdjkciaa.Pr Go.Proofs.Ytmimoaecdjkciaa.Pl Go.Proofs.Ytmimoaecdjkciaa.Ax Go.Proofs.Ytmimoaecdjkciaa.Ops Go.Proofs.YtmimoaecdjkciaaW.PrintWords Go.Proofs.YtmimoaecdjkciaaW.PrintLast Go.Proofs.YtmimoaecdjkciaaW.PrintMore
set_option linter.unusedVariables false
set_option linter.unusedSimpArgs false
theorem JoinTwo_both (na : List Int) (ta : List (List Int)) (nb : List Int) (tb : List (List Int)) (h0 : BdIntS na) (h1 : BdIntSS ta) (h2 : BdIntS nb) (h3 : BdIntSS tb) : ∃ (y0 : List Int) (y1 : List (List Int)) (b : Bool), Ev (fun k => spec_JoinTwo.f k na ta nb tb) (y0, y1, b) ∧ Ev (fun k => impl_JoinTwo.f k na ta nb tb) (y0, y1, b) ∧ BdIntS y0 ∧ BdIntSS y1 :=
  ⟨(joV na ta nb tb).1, (joV na ta nb tb).2.1, (joV na ta nb tb).2.2, joinS_ev na ta nb tb (ok_IntS h0) (ok_IntSS h1) (ok_IntS h2) (ok_IntSS h3), joinI_ev na ta nb tb (ok_IntS h0) (ok_IntSS h1) (ok_IntS h2) (ok_IntSS h3), (joV_bd na ta nb tb).1, (joV_bd na ta nb tb).2⟩
end Go.Proofs.Ytmimoaecdjkciaa.Pu

/- The walk of the law FnExactJoinTwo (LJoinTwo), what its callees come to, and its pure statement (UJoinTwo) together. Written by lawkk.py. No condition. -/
namespace Go.Proofs.Ytmimoaecdjkciaa.K
open Go.RowKit Go.Proofs.Ytmimoaecdjkciaa Go.Proofs.Ytmimoaecdjkciaa.Ops Go.Proofs.Ytmimoaecdjkciaa.Ax Go.Proofs.Ytmimoaecdjkciaa.Pr Go.Proofs.Ytmimoaecdjkciaa.Pl Go.Proofs.YtmimoaecdjkciaaW.PrintWords
set_option linter.unusedVariables false
set_option maxRecDepth 100000 in
theorem JoinTwo (y0 : S25) (A0_0 : Option Addr) (c0_0 : Nat) (A0_1 : Option Addr) (c0_1 : Nat) (y1 : S25) (A1_0 : Option Addr) (c1_0 : Nat) (A1_1 : Option Addr) (c1_1 : Nat) (w : World) (hl0_0 : y0.f0.length ≤ c0_0) (hr0_0 : Kd.C (Kd.int .i64) w A0_0 y0.f0.length y0.f0) (hl0_1 : y0.f1.length ≤ c0_1) (hr0_1 : Kd.C (Kd.slice 3 (Kd.int .i64)) w A0_1 y0.f1.length y0.f1) (h0 : F25 y0) (hl1_0 : y1.f0.length ≤ c1_0) (hr1_0 : Kd.C (Kd.int .i64) w A1_0 y1.f0.length y1.f0) (hl1_1 : y1.f1.length ≤ c1_1) (hr1_1 : Kd.C (Kd.slice 3 (Kd.int .i64)) w A1_1 y1.f1.length y1.f1) (h1 : F25 y1) :
    Calls Try.prog 3 #[.agg #[.slice A0_0 y0.f0.length c0_0, .slice A0_1 y0.f1.length c0_1], .agg #[.slice A1_0 y1.f0.length c1_0, .slice A1_1 y1.f1.length c1_1]] w fun e w' => e = .returned (.bool true) ∧ Below w.heap.size w w' := by
  obtain ⟨s1, v0, le0, b0⟩ := szRelation_ev y0 1048576 h0 (by omega) (by omega)
  obtain ⟨k1, e1⟩ := Ev.rounds v0
  by_cases hr0_ : s1 < 0
  · exact L.JoinTwo_sz0 A0_0 c0_0 y0.f0 A0_1 c0_1 y0.f1 A1_0 c1_0 y1.f0 A1_1 c1_1 y1.f1 s1 k1 w (Aside0.mk hr0_0) (Aside0.mk hl0_0) (Aside0.mk hr0_1) (Aside0.mk hl0_1) (Aside0.mk hr1_0) (Aside0.mk hl1_0) (Aside0.mk hr1_1) (Aside0.mk hl1_1) (Aside0.mk e1) (decide_eq_true (by omega))
  have hB0 := b0 (by omega)
  obtain ⟨s2, v1, le1, b1⟩ := szRelation_ev y1 s1 h1 (by omega) (by omega)
  obtain ⟨k2, e2⟩ := Ev.rounds v1
  by_cases hr1_ : s2 < 0
  · exact L.JoinTwo_sz1 A0_0 c0_0 y0.f0 A0_1 c0_1 y0.f1 A1_0 c1_0 y1.f0 A1_1 c1_1 y1.f1 s1 k1 s2 k2 w (Aside0.mk hr0_0) (Aside0.mk hl0_0) (Aside0.mk hr0_1) (Aside0.mk hl0_1) (Aside0.mk hr1_0) (Aside0.mk hl1_0) (Aside0.mk hr1_1) (Aside0.mk hl1_1) (Aside0.mk e1) (Aside0.mk e2) (decide_eq_false (by omega)) (decide_eq_true (by omega))
  have hB1 := b1 (by omega)
  obtain ⟨Y0_0, Y0_1, Y1, es, ei, hY0_0, hY0_1⟩ := Pu.JoinTwo_both ((cvRelation y0).f0) ((cvRelation y0).f1) ((cvRelation y1).f0) ((cvRelation y1).f1) hB0.1 hB0.2 hB1.1 hB1.2
  have cb0 : Ax.cntRelation ((cvRelation y0).f0) ((cvRelation y0).f1) ≤ 1125899906842624 := Nat.le_trans (Ax.cntRelation_bd (hB0.1) (hB0.2)) (by decide)
  have cb1 : Ax.cntRelation ((cvRelation y1).f0) ((cvRelation y1).f1) ≤ 1125899906842624 := Nat.le_trans (Ax.cntRelation_bd (hB1.1) (hB1.2)) (by decide)
  have cb2 : Ax.cntRelation Y0_0 Y0_1 ≤ 1125899906842624 := Nat.le_trans (Ax.cntRelation_bd hY0_0 hY0_1) (by decide)
  obtain ⟨k3, e3⟩ := Ev.rounds (toRelation_ev y0 hB0)
  obtain ⟨k4, e4⟩ := Ev.rounds (toRelation_ev y1 hB1)
  obtain ⟨k5, e5⟩ := Ev.rounds (es)
  obtain ⟨k6, e6⟩ := Ev.rounds (ei)
  obtain ⟨k7, e7⟩ := Ev.rounds (eqRelation_ev ⟨Y0_0, Y0_1⟩ ⟨ok_IntS hY0_0, ok_IntSS hY0_1⟩)
  obtain ⟨k8, e8⟩ := Ev.rounds (eqRelation_ev (cvRelation y0) (ok_Relation hB0))
  obtain ⟨k9, e9⟩ := Ev.rounds (eqRelation_ev (cvRelation y1) (ok_Relation hB1))
  obtain ⟨k10, e10⟩ := Ev.rounds (Ax.heldRelation_ev' Y0_0 Y0_1 1 (by have := hY0_1.1; omega) (by omega) (by omega))
  exact L.JoinTwo A0_0 c0_0 y0.f0 A0_1 c0_1 y0.f1 A1_0 c1_0 y1.f0 A1_1 c1_1 y1.f1 s1 k1 s2 k2 (cvRelation y0).f0 (cvRelation y0).f1 (cvRelation y1).f0 (cvRelation y1).f1 k3 k4 Y0_0 Y0_1 Y1 k5 k6 k7 k8 k9 ((1 : Int) + (Ax.cntRelation ((cvRelation y0).f0) ((cvRelation y0).f1) : Nat)) (((1 : Int) + (Ax.cntRelation ((cvRelation y0).f0) ((cvRelation y0).f1) : Nat)) + (Ax.cntRelation ((cvRelation y1).f0) ((cvRelation y1).f1) : Nat)) ((1 : Int) + (Ax.cntRelation Y0_0 Y0_1 : Nat)) k10 w (Aside0.mk hr0_0) (Aside0.mk hl0_0) (Aside0.mk hr0_1) (Aside0.mk hl0_1) (Aside0.mk hr1_0) (Aside0.mk hl1_0) (Aside0.mk hr1_1) (Aside0.mk hl1_1) (Aside0.mk e1) (Aside0.mk e2) (Aside0.mk e3) (Aside0.mk e4) (Aside0.mk e5) (Aside0.mk e6) (Aside0.mk e7) (Aside0.mk e8) (Aside0.mk e9) (Aside0.mk e10) (decide_eq_false (by omega)) (decide_eq_false (by omega)) (decide_eq_false (by omega)) (decide_eq_false (by omega)) (decide_eq_false (by omega)) (Aside0.mk (by omega)) (Aside0.mk ⟨rfl, by omega⟩) (Aside0.mk (by omega)) (Aside0.mk ⟨rfl, by omega⟩) (Aside0.mk (by omega)) (Aside0.mk ⟨rfl, by omega⟩)
end Go.Proofs.Ytmimoaecdjkciaa.K
