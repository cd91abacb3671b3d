/- The walk of the law JoinTwo, given what its callees come to: it returns true and leaves what lay ahead of it. Written by lawk.py. Conditions: the equations of the callees. -/
import Derived.Test.YtmimoaecdjkciaaJReg
import Derived.Test.YtmimoaecdjkciaaPr2
import Derived.Test.YtmimoaecdjkciaaPr5
import Derived.Test.YtmimoaecdjkciaaPr7
import Derived.Test.YtmimoaecdjkciaaMerge0
import Derived.Test.YtmimoaecdjkciaaIv
namespace Go.Proofs.Ytmimoaecdjkciaa.L
open Go.RowKit Go.Proofs.Ytmimoaecdjkciaa Go.Proofs.Ytmimoaecdjkciaa.Pr Go.Proofs.YtmimoaecdjkciaaW.PrintWords Go.Proofs.YtmimoaecdjkciaaW.PrintLast Go.Proofs.YtmimoaecdjkciaaW.PrintMore
set_option linter.unusedVariables false
set_option linter.unusedSimpArgs false
set_option maxHeartbeats 4000000 in
set_option maxRecDepth 100000 in
theorem JoinTwo_sz0 (A0_0 : Option Addr) (c0_0 : Nat) (l0_0 : (List Int)) (A0_1 : Option Addr) (c0_1 : Nat) (l0_1 : (List (List Int))) (A1_0 : Option Addr) (c1_0 : Nat) (l1_0 : (List Int)) (A1_1 : Option Addr) (c1_1 : Nat) (l1_1 : (List (List Int))) (s1 : Int) (k1 : Nat) (w : World) (HR0_0 : Aside0 (Kd.C (Kd.int .i64) w A0_0 l0_0.length l0_0)) (HC0_0 : Aside0 (l0_0.length ≤ c0_0)) (HR0_1 : Aside0 (Kd.C (Kd.slice 3 (Kd.int .i64)) w A0_1 l0_1.length l0_1)) (HC0_1 : Aside0 (l0_1.length ≤ c0_1)) (HR1_0 : Aside0 (Kd.C (Kd.int .i64) w A1_0 l1_0.length l1_0)) (HC1_0 : Aside0 (l1_0.length ≤ c1_0)) (HR1_1 : Aside0 (Kd.C (Kd.slice 3 (Kd.int .i64)) w A1_1 l1_1.length l1_1)) (HC1_1 : Aside0 (l1_1.length ≤ c1_1)) (H1 : Aside0 (laws_szRelation.f k1 l0_0 l0_1 1048576 = some s1)) (d0 : decide (s1 < 0) = true) :
    Calls Try.prog 3 #[.agg #[.slice A0_0 l0_0.length c0_0, .slice A0_1 l0_1.length c0_1], .agg #[.slice A1_0 l1_0.length c1_0, .slice A1_1 l1_1.length c1_1]] w fun e w' => e = .returned (.bool true) ∧ Below w.heap.size w w' := by
  have HB := Aside0.mk (Below.refl w.heap.size w)
  have bx1_ : World.cell? (World.alloc w (.cells #[.slice A0_0 (List.length l0_0) c0_0, .slice A0_1 (List.length l0_1) c0_1] 25)) ⟨w.heap.size, 0, none⟩ = some (.slice A0_0 (List.length l0_0) c0_0) := Bx.box_new _ _ _ _ _ rfl
  have bx2_ : World.cell? (World.alloc w (.cells #[.slice A0_0 (List.length l0_0) c0_0, .slice A0_1 (List.length l0_1) c0_1] 25)) ⟨w.heap.size, 1, none⟩ = some (.slice A0_1 (List.length l0_1) c0_1) := Bx.box_new _ _ _ _ _ rfl
  have hal_ := below_alloc (Below.refl (World.heap w).size w) (.cells #[.slice A0_0 (List.length l0_0) c0_0, .slice A0_1 (List.length l0_1) c0_1] 25)
  replace HB := Aside0.mk (below_alloc HB.out (.cells #[.slice A0_0 (List.length l0_0) c0_0, .slice A0_1 (List.length l0_1) c0_1] 25))
  clear hal_
  have bx3_ : World.cell? (World.alloc (World.alloc w (.cells #[.slice A0_0 (List.length l0_0) c0_0, .slice A0_1 (List.length l0_1) c0_1] 25)) (.cells #[.slice A1_0 (List.length l1_0) c1_0, .slice A1_1 (List.length l1_1) c1_1] 25)) ⟨w.heap.size + 1, 0, none⟩ = some (.slice A1_0 (List.length l1_0) c1_0) := Bx.box_new' _ _ _ _ _ _ (by simp) rfl
  have bx4_ : World.cell? (World.alloc (World.alloc w (.cells #[.slice A0_0 (List.length l0_0) c0_0, .slice A0_1 (List.length l0_1) c0_1] 25)) (.cells #[.slice A1_0 (List.length l1_0) c1_0, .slice A1_1 (List.length l1_1) c1_1] 25)) ⟨w.heap.size + 1, 1, none⟩ = some (.slice A1_1 (List.length l1_1) c1_1) := Bx.box_new' _ _ _ _ _ _ (by simp) rfl
  have hal_ := below_alloc (Below.refl (World.heap (World.alloc w (.cells #[.slice A0_0 (List.length l0_0) c0_0, .slice A0_1 (List.length l0_1) c0_1] 25))).size (World.alloc w (.cells #[.slice A0_0 (List.length l0_0) c0_0, .slice A0_1 (List.length l0_1) c0_1] 25))) (.cells #[.slice A1_0 (List.length l1_0) c1_0, .slice A1_1 (List.length l1_1) c1_1] 25)
  replace bx1_ := Bx.box_later bx1_ hal_
  replace bx2_ := Bx.box_later bx2_ hal_
  replace HB := Aside0.mk (below_alloc HB.out (.cells #[.slice A1_0 (List.length l1_0) c1_0, .slice A1_1 (List.length l1_1) c1_1] 25))
  clear hal_
  go_enter Try.func3, Try.ntmps3
  go_wp2_with (first | (go_at_call 9; with_reducible refine (laws_szRelation.calls k1 _ _ l0_0 _ _ l0_1 1048576 s1 _ ?s1_1 ?s1_2 ?s1_3 ?s1_4 H1.out).mono ?_; (case s1_1 => exact Kd.C_below HR0_0.out HB.out); (case s1_2 => exact HC0_0.out); (case s1_3 => exact Kd.C_below HR0_1.out HB.out); (case s1_4 => exact HC0_1.out); rintro e w1 ⟨rfl, hb⟩; replace bx1_ := Bx.box_later bx1_ hb; replace bx2_ := Bx.box_later bx2_ hb; replace bx3_ := Bx.box_later bx3_ hb; replace bx4_ := Bx.box_later bx4_ hb; replace HB := Aside0.mk (below_step HB.out hb); clear hb))
  go_ret
  exact ⟨rfl, HB.out⟩
set_option maxHeartbeats 4000000 in
set_option maxRecDepth 100000 in
theorem JoinTwo_sz1 (A0_0 : Option Addr) (c0_0 : Nat) (l0_0 : (List Int)) (A0_1 : Option Addr) (c0_1 : Nat) (l0_1 : (List (List Int))) (A1_0 : Option Addr) (c1_0 : Nat) (l1_0 : (List Int)) (A1_1 : Option Addr) (c1_1 : Nat) (l1_1 : (List (List Int))) (s1 : Int) (k1 : Nat) (s2 : Int) (k2 : Nat) (w : World) (HR0_0 : Aside0 (Kd.C (Kd.int .i64) w A0_0 l0_0.length l0_0)) (HC0_0 : Aside0 (l0_0.length ≤ c0_0)) (HR0_1 : Aside0 (Kd.C (Kd.slice 3 (Kd.int .i64)) w A0_1 l0_1.length l0_1)) (HC0_1 : Aside0 (l0_1.length ≤ c0_1)) (HR1_0 : Aside0 (Kd.C (Kd.int .i64) w A1_0 l1_0.length l1_0)) (HC1_0 : Aside0 (l1_0.length ≤ c1_0)) (HR1_1 : Aside0 (Kd.C (Kd.slice 3 (Kd.int .i64)) w A1_1 l1_1.length l1_1)) (HC1_1 : Aside0 (l1_1.length ≤ c1_1)) (H1 : Aside0 (laws_szRelation.f k1 l0_0 l0_1 1048576 = some s1)) (H2 : Aside0 (laws_szRelation.f k2 l1_0 l1_1 s1 = some s2)) (d0 : decide (s1 < 0) = false) (d1 : decide (s2 < 0) = true) :
    Calls Try.prog 3 #[.agg #[.slice A0_0 l0_0.length c0_0, .slice A0_1 l0_1.length c0_1], .agg #[.slice A1_0 l1_0.length c1_0, .slice A1_1 l1_1.length c1_1]] w fun e w' => e = .returned (.bool true) ∧ Below w.heap.size w w' := by
  have HB := Aside0.mk (Below.refl w.heap.size w)
  have bx1_ : World.cell? (World.alloc w (.cells #[.slice A0_0 (List.length l0_0) c0_0, .slice A0_1 (List.length l0_1) c0_1] 25)) ⟨w.heap.size, 0, none⟩ = some (.slice A0_0 (List.length l0_0) c0_0) := Bx.box_new _ _ _ _ _ rfl
  have bx2_ : World.cell? (World.alloc w (.cells #[.slice A0_0 (List.length l0_0) c0_0, .slice A0_1 (List.length l0_1) c0_1] 25)) ⟨w.heap.size, 1, none⟩ = some (.slice A0_1 (List.length l0_1) c0_1) := Bx.box_new _ _ _ _ _ rfl
  have hal_ := below_alloc (Below.refl (World.heap w).size w) (.cells #[.slice A0_0 (List.length l0_0) c0_0, .slice A0_1 (List.length l0_1) c0_1] 25)
  replace HB := Aside0.mk (below_alloc HB.out (.cells #[.slice A0_0 (List.length l0_0) c0_0, .slice A0_1 (List.length l0_1) c0_1] 25))
  clear hal_
  have bx3_ : World.cell? (World.alloc (World.alloc w (.cells #[.slice A0_0 (List.length l0_0) c0_0, .slice A0_1 (List.length l0_1) c0_1] 25)) (.cells #[.slice A1_0 (List.length l1_0) c1_0, .slice A1_1 (List.length l1_1) c1_1] 25)) ⟨w.heap.size + 1, 0, none⟩ = some (.slice A1_0 (List.length l1_0) c1_0) := Bx.box_new' _ _ _ _ _ _ (by simp) rfl
  have bx4_ : World.cell? (World.alloc (World.alloc w (.cells #[.slice A0_0 (List.length l0_0) c0_0, .slice A0_1 (List.length l0_1) c0_1] 25)) (.cells #[.slice A1_0 (List.length l1_0) c1_0, .slice A1_1 (List.length l1_1) c1_1] 25)) ⟨w.heap.size + 1, 1, none⟩ = some (.slice A1_1 (List.length l1_1) c1_1) := Bx.box_new' _ _ _ _ _ _ (by simp) rfl
  have hal_ := below_alloc (Below.refl (World.heap (World.alloc w (.cells #[.slice A0_0 (List.length l0_0) c0_0, .slice A0_1 (List.length l0_1) c0_1] 25))).size (World.alloc w (.cells #[.slice A0_0 (List.length l0_0) c0_0, .slice A0_1 (List.length l0_1) c0_1] 25))) (.cells #[.slice A1_0 (List.length l1_0) c1_0, .slice A1_1 (List.length l1_1) c1_1] 25)
  replace bx1_ := Bx.box_later bx1_ hal_
  replace bx2_ := Bx.box_later bx2_ hal_
  replace HB := Aside0.mk (below_alloc HB.out (.cells #[.slice A1_0 (List.length l1_0) c1_0, .slice A1_1 (List.length l1_1) c1_1] 25))
  clear hal_
  go_enter Try.func3, Try.ntmps3
  go_wp2_with (first | (go_at_call 9; with_reducible refine (laws_szRelation.calls k1 _ _ l0_0 _ _ l0_1 1048576 s1 _ ?s1_1 ?s1_2 ?s1_3 ?s1_4 H1.out).mono ?_; (case s1_1 => exact Kd.C_below HR0_0.out HB.out); (case s1_2 => exact HC0_0.out); (case s1_3 => exact Kd.C_below HR0_1.out HB.out); (case s1_4 => exact HC0_1.out); rintro e w1 ⟨rfl, hb⟩; replace bx1_ := Bx.box_later bx1_ hb; replace bx2_ := Bx.box_later bx2_ hb; replace bx3_ := Bx.box_later bx3_ hb; replace bx4_ := Bx.box_later bx4_ hb; replace HB := Aside0.mk (below_step HB.out hb); clear hb))
  go_wp2_with (first | (go_at_call 9; with_reducible refine (laws_szRelation.calls k2 _ _ l1_0 _ _ l1_1 s1 s2 _ ?s2_1 ?s2_2 ?s2_3 ?s2_4 H2.out).mono ?_; (case s2_1 => exact Kd.C_below HR1_0.out HB.out); (case s2_2 => exact HC1_0.out); (case s2_3 => exact Kd.C_below HR1_1.out HB.out); (case s2_4 => exact HC1_1.out); rintro e w2 ⟨rfl, hb⟩; replace bx1_ := Bx.box_later bx1_ hb; replace bx2_ := Bx.box_later bx2_ hb; replace bx3_ := Bx.box_later bx3_ hb; replace bx4_ := Bx.box_later bx4_ hb; replace HB := Aside0.mk (below_step HB.out hb); clear hb))
  go_ret
  exact ⟨rfl, HB.out⟩
set_option maxHeartbeats 40000000 in
set_option maxRecDepth 100000 in
theorem JoinTwo (A0_0 : Option Addr) (c0_0 : Nat) (l0_0 : (List Int)) (A0_1 : Option Addr) (c0_1 : Nat) (l0_1 : (List (List Int))) (A1_0 : Option Addr) (c1_0 : Nat) (l1_0 : (List Int)) (A1_1 : Option Addr) (c1_1 : Nat) (l1_1 : (List (List Int))) (s1 : Int) (k1 : Nat) (s2 : Int) (k2 : Nat) (x0_0 : (List Int)) (x0_1 : (List (List Int))) (x1_0 : (List Int)) (x1_1 : (List (List Int))) (k3 : Nat) (k4 : Nat) (y0_0 : (List Int)) (y0_1 : (List (List Int))) (y1 : Bool) (k5 : Nat) (k6 : Nat) (k7 : Nat) (k8 : Nat) (k9 : Nat) (M1 : Int) (M2 : Int) (M3 : Int) (k10 : Nat) (w : World) (HR0_0 : Aside0 (Kd.C (Kd.int .i64) w A0_0 l0_0.length l0_0)) (HC0_0 : Aside0 (l0_0.length ≤ c0_0)) (HR0_1 : Aside0 (Kd.C (Kd.slice 3 (Kd.int .i64)) w A0_1 l0_1.length l0_1)) (HC0_1 : Aside0 (l0_1.length ≤ c0_1)) (HR1_0 : Aside0 (Kd.C (Kd.int .i64) w A1_0 l1_0.length l1_0)) (HC1_0 : Aside0 (l1_0.length ≤ c1_0)) (HR1_1 : Aside0 (Kd.C (Kd.slice 3 (Kd.int .i64)) w A1_1 l1_1.length l1_1)) (HC1_1 : Aside0 (l1_1.length ≤ c1_1)) (H1 : Aside0 (laws_szRelation.f k1 l0_0 l0_1 1048576 = some s1)) (H2 : Aside0 (laws_szRelation.f k2 l1_0 l1_1 s1 = some s2)) (H3 : Aside0 (laws_toRelation.f k3 l0_0 l0_1 = some (x0_0, x0_1))) (H4 : Aside0 (laws_toRelation.f k4 l1_0 l1_1 = some (x1_0, x1_1))) (H5 : Aside0 (spec_JoinTwo.f k5 x0_0 x0_1 x1_0 x1_1 = some (y0_0, y0_1, y1))) (H6 : Aside0 (impl_JoinTwo.f k6 x0_0 x0_1 x1_0 x1_1 = some (y0_0, y0_1, y1))) (H7 : Aside0 (laws_eqRelation.f k7 y0_0 y0_1 y0_0 y0_1 = some true)) (H8 : Aside0 (laws_eqRelation.f k8 x0_0 x0_1 x0_0 x0_1 = some true)) (H9 : Aside0 (laws_eqRelation.f k9 x1_0 x1_1 x1_0 x1_1 = some true)) (H10 : Aside0 (laws_heldRelation.f k10 (Ax.mkRelation_0 y0_0 y0_1 1) (Ax.mkRelation_1 y0_0 y0_1 1) 1 = some M3)) (d0 : decide (s1 < 0) = false) (d1 : decide (s2 < 0) = false) (d2 : decide (M1 < 0) = false) (d3 : decide (M2 < 0) = false) (d4 : decide (M3 < 0) = false) (HMM10 : Aside0 ((0 : Int) ≤ 1)) (HMM11 : Aside0 ((1 : Int) + (Ax.cntRelation x0_0 x0_1 : Nat) = M1 ∧ M1 < 9223372036854775807)) (HMM20 : Aside0 ((0 : Int) ≤ M1)) (HMM21 : Aside0 ((M1 : Int) + (Ax.cntRelation x1_0 x1_1 : Nat) = M2 ∧ M2 < 9223372036854775807)) (HMM30 : Aside0 ((0 : Int) ≤ 1)) (HMM31 : Aside0 ((1 : Int) + (Ax.cntRelation y0_0 y0_1 : Nat) = M3 ∧ M3 < 9223372036854775807)) :
    Calls Try.prog 3 #[.agg #[.slice A0_0 l0_0.length c0_0, .slice A0_1 l0_1.length c0_1], .agg #[.slice A1_0 l1_0.length c1_0, .slice A1_1 l1_1.length c1_1]] w fun e w' => e = .returned (.bool true) ∧ Below w.heap.size w w' := by
  have HB := Aside0.mk (Below.refl w.heap.size w)
  have bx1_ : World.cell? (World.alloc w (.cells #[.slice A0_0 (List.length l0_0) c0_0, .slice A0_1 (List.length l0_1) c0_1] 25)) ⟨w.heap.size, 0, none⟩ = some (.slice A0_0 (List.length l0_0) c0_0) := Bx.box_new _ _ _ _ _ rfl
  have bx2_ : World.cell? (World.alloc w (.cells #[.slice A0_0 (List.length l0_0) c0_0, .slice A0_1 (List.length l0_1) c0_1] 25)) ⟨w.heap.size, 1, none⟩ = some (.slice A0_1 (List.length l0_1) c0_1) := Bx.box_new _ _ _ _ _ rfl
  have hal_ := below_alloc (Below.refl (World.heap w).size w) (.cells #[.slice A0_0 (List.length l0_0) c0_0, .slice A0_1 (List.length l0_1) c0_1] 25)
  replace HB := Aside0.mk (below_alloc HB.out (.cells #[.slice A0_0 (List.length l0_0) c0_0, .slice A0_1 (List.length l0_1) c0_1] 25))
  clear hal_
  have bx3_ : World.cell? (World.alloc (World.alloc w (.cells #[.slice A0_0 (List.length l0_0) c0_0, .slice A0_1 (List.length l0_1) c0_1] 25)) (.cells #[.slice A1_0 (List.length l1_0) c1_0, .slice A1_1 (List.length l1_1) c1_1] 25)) ⟨w.heap.size + 1, 0, none⟩ = some (.slice A1_0 (List.length l1_0) c1_0) := Bx.box_new' _ _ _ _ _ _ (by simp) rfl
  have bx4_ : World.cell? (World.alloc (World.alloc w (.cells #[.slice A0_0 (List.length l0_0) c0_0, .slice A0_1 (List.length l0_1) c0_1] 25)) (.cells #[.slice A1_0 (List.length l1_0) c1_0, .slice A1_1 (List.length l1_1) c1_1] 25)) ⟨w.heap.size + 1, 1, none⟩ = some (.slice A1_1 (List.length l1_1) c1_1) := Bx.box_new' _ _ _ _ _ _ (by simp) rfl
  have hal_ := below_alloc (Below.refl (World.heap (World.alloc w (.cells #[.slice A0_0 (List.length l0_0) c0_0, .slice A0_1 (List.length l0_1) c0_1] 25))).size (World.alloc w (.cells #[.slice A0_0 (List.length l0_0) c0_0, .slice A0_1 (List.length l0_1) c0_1] 25))) (.cells #[.slice A1_0 (List.length l1_0) c1_0, .slice A1_1 (List.length l1_1) c1_1] 25)
  replace bx1_ := Bx.box_later bx1_ hal_
  replace bx2_ := Bx.box_later bx2_ hal_
  replace HB := Aside0.mk (below_alloc HB.out (.cells #[.slice A1_0 (List.length l1_0) c1_0, .slice A1_1 (List.length l1_1) c1_1] 25))
  clear hal_
  go_enter Try.func3, Try.ntmps3
  go_wp2_with (first | (go_at_call 9; with_reducible refine (laws_szRelation.calls k1 _ _ l0_0 _ _ l0_1 1048576 s1 _ ?s1_1 ?s1_2 ?s1_3 ?s1_4 H1.out).mono ?_; (case s1_1 => exact Kd.C_below HR0_0.out HB.out); (case s1_2 => exact HC0_0.out); (case s1_3 => exact Kd.C_below HR0_1.out HB.out); (case s1_4 => exact HC0_1.out); rintro e w1 ⟨rfl, hb⟩; replace bx1_ := Bx.box_later bx1_ hb; replace bx2_ := Bx.box_later bx2_ hb; replace bx3_ := Bx.box_later bx3_ hb; replace bx4_ := Bx.box_later bx4_ hb; replace HB := Aside0.mk (below_step HB.out hb); clear hb))
  go_wp2_with (first | (go_at_call 9; with_reducible refine (laws_szRelation.calls k2 _ _ l1_0 _ _ l1_1 s1 s2 _ ?s2_1 ?s2_2 ?s2_3 ?s2_4 H2.out).mono ?_; (case s2_1 => exact Kd.C_below HR1_0.out HB.out); (case s2_2 => exact HC1_0.out); (case s2_3 => exact Kd.C_below HR1_1.out HB.out); (case s2_4 => exact HC1_1.out); rintro e w2 ⟨rfl, hb⟩; replace bx1_ := Bx.box_later bx1_ hb; replace bx2_ := Bx.box_later bx2_ hb; replace bx3_ := Bx.box_later bx3_ hb; replace bx4_ := Bx.box_later bx4_ hb; replace HB := Aside0.mk (below_step HB.out hb); clear hb))
  refine J.reg8 _ _ _ _ A0_0 A0_1 A1_0 A1_1 c0_0 c0_1 c1_0 c1_1 l0_0 l1_0 x0_0 x1_0 y0_0 l0_1 l1_1 x0_1 x1_1 y0_1 y1 k3 k4 k5 (Nat.le_of_ble_eq_true rfl) rfl rfl bx1_ bx2_ bx3_ bx4_ (Kd.C_below HR0_0.out HB.out) HC0_0.out (Kd.C_below HR0_1.out HB.out) HC0_1.out (Kd.C_below HR1_0.out HB.out) HC1_0.out (Kd.C_below HR1_1.out HB.out) HC1_1.out H3.out H4.out H5.out ?_
  intro w3 _ _ _ _ B3_0 B3_1 _ _ _ _ e3_0 e3_1 gb3 lo3 hi3 hb o0_ o1_ lo_ hi_ _ gl_ gc_
  have DW_w_ := Aside0.mk (Nat.le_trans (below_size HB.out) lo_)
  have F_PaA_w_ := Aside0.mk (Nat.lt_of_lt_of_le (Bx.box_lt bx1_) lo_)
  have F_PaB_w_ := Aside0.mk (Nat.lt_of_lt_of_le (Bx.box_lt bx3_) lo_)
  replace bx1_ := Bx.box_later bx1_ hb
  replace bx2_ := Bx.box_later bx2_ hb
  replace bx3_ := Bx.box_later bx3_ hb
  replace bx4_ := Bx.box_later bx4_ hb
  replace HB := Aside0.mk (below_step HB.out hb)
  have O3_0 := Aside0.mk o0_
  have O3_1 := Aside0.mk (show Iv.ObV (Kd.slice 3 (Kd.int .i64)) 22 w3 hi3 _ _ from ⟨Kd.V_mono (Kd.V_lower o1_ (Nat.zero_le _)) (fun _ h_ => h_.2), hi_⟩)
  clear o0_ o1_ hb
  have bx5_ : World.cell? w3 ⟨gb3, 0, none⟩ = some (.slice B3_0 (List.length y0_0) e3_0) := (blk_cell gc_ 0).trans rfl
  have bx6_ : World.cell? w3 ⟨gb3, 1, none⟩ = some (.slice B3_1 (List.length y0_1) e3_1) := (blk_cell gc_ 1).trans rfl
  clear gc_ lo_ hi_ gl_
  simp only [putSel, Act.put, if_true, List.setIfInBounds_toArray, List.set_cons_zero, List.set_cons_succ]
  go_wp2_with (first | (go_at_call 11; with_reducible refine (laws_toRelation.calls k3 _ _ l0_0 _ _ l0_1 x0_0 x0_1 _ ?s4_1 ?s4_2 ?s4_3 ?s4_4 H3.out).mono ?_; (case s4_1 => exact Kd.C_below HR0_0.out HB.out); (case s4_2 => exact HC0_0.out); (case s4_3 => exact Kd.C_below HR0_1.out HB.out); (case s4_4 => exact HC0_1.out); rintro e w4 ⟨v4_0, v4_1, rfl, ho0, ho1, hb⟩; have new_ : ∃ lo4 hi4 : Nat, Iv.Ob (Kd.int .i64) 3 w4 lo4 hi4 (fun k_ => True) v4_0 x0_0 ∧ Iv.Ob (Kd.slice 3 (Kd.int .i64)) 22 w4 lo4 hi4 (fun k_ => some k_ ≠ (v4_0 : Value).ownBlock) v4_1 x0_1 ∧ w.heap.size ≤ lo4 ∧ w.heap.size < lo4 ∧ w.heap.size + 1 < lo4 ∧ gb3 < lo4 ∧ hi3 ≤ lo4 := ⟨_, _, Iv.Ob.of_Rint ho0 (fun _ h_ => trivial), Iv.Ob.of_S ho1 (fun _ h_ => h_), (below_size HB.out), (Bx.box_lt bx1_), (Bx.box_lt bx3_), (Bx.box_lt bx5_), (Iv.Ob.size O3_0.out)⟩; obtain ⟨lo4, hi4, o0_, o1_, d_w, f_PaA, f_PaB, f_w0, d_w_⟩ := new_; replace O3_0 := Aside0.mk (Iv.Ob.below O3_0.out hb); replace O3_1 := Aside0.mk (Iv.ObV.below O3_1.out hb); replace bx1_ := Bx.box_later bx1_ hb; replace bx2_ := Bx.box_later bx2_ hb; replace bx3_ := Bx.box_later bx3_ hb; replace bx4_ := Bx.box_later bx4_ hb; replace bx5_ := Bx.box_later bx5_ hb; replace bx6_ := Bx.box_later bx6_ hb; replace HB := Aside0.mk (below_step HB.out hb); clear hb ho0 ho1; obtain ⟨B4_0, e4_0, rfl⟩ := Iv.Ob.slice o0_; have O4_0 := Aside0.mk o0_; clear o0_; obtain ⟨B4_1, e4_1, rfl⟩ := Iv.Ob.slice o1_; have O4_1 := Aside0.mk o1_; clear o1_; have DW_x0 := Aside0.mk d_w; clear d_w; have D_w__x0 := Aside0.mk d_w_; clear d_w_; have F_PaA_x0 := Aside0.mk f_PaA; clear f_PaA; have F_PaB_x0 := Aside0.mk f_PaB; clear f_PaB; have F_w0_x0 := Aside0.mk f_w0; clear f_w0; have E_w__x0 : Aside0 (hi3 ≤ w4.heap.size) := Aside0.mk (Iv.Ob.size (w := w4) O3_0.out); have E_x0_x0 : Aside0 (hi4 ≤ w4.heap.size) := Aside0.mk (Iv.Ob.size (w := w4) O4_0.out); have bx7_ : World.cell? (World.alloc w4 (.cells #[.slice B4_0 (List.length x0_0) e4_0, .slice B4_1 (List.length x0_1) e4_1] 27)) ⟨w4.heap.size, 0, none⟩ = some (.slice B4_0 (List.length x0_0) e4_0) := Bx.box_new _ _ _ _ _ rfl; have bx8_ : World.cell? (World.alloc w4 (.cells #[.slice B4_0 (List.length x0_0) e4_0, .slice B4_1 (List.length x0_1) e4_1] 27)) ⟨w4.heap.size, 1, none⟩ = some (.slice B4_1 (List.length x0_1) e4_1) := Bx.box_new _ _ _ _ _ rfl; have hal_ := below_alloc (Below.refl (World.heap w4).size w4) (.cells #[.slice B4_0 (List.length x0_0) e4_0, .slice B4_1 (List.length x0_1) e4_1] 27); replace bx1_ := Bx.box_later bx1_ hal_; replace bx2_ := Bx.box_later bx2_ hal_; replace bx3_ := Bx.box_later bx3_ hal_; replace bx4_ := Bx.box_later bx4_ hal_; replace bx5_ := Bx.box_later bx5_ hal_; replace bx6_ := Bx.box_later bx6_ hal_; replace O3_0 := Aside0.mk (Iv.Ob.below O3_0.out hal_); replace O3_1 := Aside0.mk (Iv.ObV.below O3_1.out hal_); replace O4_0 := Aside0.mk (Iv.Ob.below O4_0.out hal_); replace O4_1 := Aside0.mk (Iv.Ob.below O4_1.out hal_); replace HB := Aside0.mk (below_alloc HB.out (.cells #[.slice B4_0 (List.length x0_0) e4_0, .slice B4_1 (List.length x0_1) e4_1] 27)); clear hal_))
  go_wp2_with (first | (go_at_call 11; with_reducible refine (laws_toRelation.calls k4 _ _ l1_0 _ _ l1_1 x1_0 x1_1 _ ?s5_1 ?s5_2 ?s5_3 ?s5_4 H4.out).mono ?_; (case s5_1 => exact Kd.C_below HR1_0.out HB.out); (case s5_2 => exact HC1_0.out); (case s5_3 => exact Kd.C_below HR1_1.out HB.out); (case s5_4 => exact HC1_1.out); rintro e w5 ⟨v5_0, v5_1, rfl, ho0, ho1, hb⟩; have new_ : ∃ lo5 hi5 : Nat, Iv.Ob (Kd.int .i64) 3 w5 lo5 hi5 (fun k_ => True) v5_0 x1_0 ∧ Iv.Ob (Kd.slice 3 (Kd.int .i64)) 22 w5 lo5 hi5 (fun k_ => some k_ ≠ (v5_0 : Value).ownBlock) v5_1 x1_1 ∧ w.heap.size ≤ lo5 ∧ w.heap.size < lo5 ∧ w.heap.size + 1 < lo5 ∧ gb3 < lo5 ∧ w4.heap.size < lo5 ∧ hi3 ≤ lo5 ∧ hi4 ≤ lo5 := ⟨_, _, Iv.Ob.of_Rint ho0 (fun _ h_ => trivial), Iv.Ob.of_S ho1 (fun _ h_ => h_), (below_size HB.out), (Bx.box_lt bx1_), (Bx.box_lt bx3_), (Bx.box_lt bx5_), (Bx.box_lt bx7_), (Iv.Ob.size O3_0.out), (Iv.Ob.size O4_0.out)⟩; obtain ⟨lo5, hi5, o0_, o1_, d_w, f_PaA, f_PaB, f_w0, f_x0, d_w_, d_x0⟩ := new_; replace O3_0 := Aside0.mk (Iv.Ob.below O3_0.out hb); replace O3_1 := Aside0.mk (Iv.ObV.below O3_1.out hb); replace O4_0 := Aside0.mk (Iv.Ob.below O4_0.out hb); replace O4_1 := Aside0.mk (Iv.Ob.below O4_1.out hb); replace bx1_ := Bx.box_later bx1_ hb; replace bx2_ := Bx.box_later bx2_ hb; replace bx3_ := Bx.box_later bx3_ hb; replace bx4_ := Bx.box_later bx4_ hb; replace bx5_ := Bx.box_later bx5_ hb; replace bx6_ := Bx.box_later bx6_ hb; replace bx7_ := Bx.box_later bx7_ hb; replace bx8_ := Bx.box_later bx8_ hb; replace HB := Aside0.mk (below_step HB.out hb); clear hb ho0 ho1; obtain ⟨B5_0, e5_0, rfl⟩ := Iv.Ob.slice o0_; have O5_0 := Aside0.mk o0_; clear o0_; obtain ⟨B5_1, e5_1, rfl⟩ := Iv.Ob.slice o1_; have O5_1 := Aside0.mk o1_; clear o1_; have DW_x1 := Aside0.mk d_w; clear d_w; have D_w__x1 := Aside0.mk d_w_; clear d_w_; have D_x0_x1 := Aside0.mk d_x0; clear d_x0; have F_PaA_x1 := Aside0.mk f_PaA; clear f_PaA; have F_PaB_x1 := Aside0.mk f_PaB; clear f_PaB; have F_w0_x1 := Aside0.mk f_w0; clear f_w0; have F_x0_x1 := Aside0.mk f_x0; clear f_x0; have E_w__x1 : Aside0 (hi3 ≤ w5.heap.size) := Aside0.mk (Iv.Ob.size (w := w5) O3_0.out); have E_x0_x1 : Aside0 (hi4 ≤ w5.heap.size) := Aside0.mk (Iv.Ob.size (w := w5) O4_0.out); have E_x1_x1 : Aside0 (hi5 ≤ w5.heap.size) := Aside0.mk (Iv.Ob.size (w := w5) O5_0.out); have bx9_ : World.cell? (World.alloc w5 (.cells #[.slice B5_0 (List.length x1_0) e5_0, .slice B5_1 (List.length x1_1) e5_1] 27)) ⟨w5.heap.size, 0, none⟩ = some (.slice B5_0 (List.length x1_0) e5_0) := Bx.box_new _ _ _ _ _ rfl; have bx10_ : World.cell? (World.alloc w5 (.cells #[.slice B5_0 (List.length x1_0) e5_0, .slice B5_1 (List.length x1_1) e5_1] 27)) ⟨w5.heap.size, 1, none⟩ = some (.slice B5_1 (List.length x1_1) e5_1) := Bx.box_new _ _ _ _ _ rfl; have hal_ := below_alloc (Below.refl (World.heap w5).size w5) (.cells #[.slice B5_0 (List.length x1_0) e5_0, .slice B5_1 (List.length x1_1) e5_1] 27); replace bx1_ := Bx.box_later bx1_ hal_; replace bx2_ := Bx.box_later bx2_ hal_; replace bx3_ := Bx.box_later bx3_ hal_; replace bx4_ := Bx.box_later bx4_ hal_; replace bx5_ := Bx.box_later bx5_ hal_; replace bx6_ := Bx.box_later bx6_ hal_; replace bx7_ := Bx.box_later bx7_ hal_; replace bx8_ := Bx.box_later bx8_ hal_; replace O3_0 := Aside0.mk (Iv.Ob.below O3_0.out hal_); replace O3_1 := Aside0.mk (Iv.ObV.below O3_1.out hal_); replace O4_0 := Aside0.mk (Iv.Ob.below O4_0.out hal_); replace O4_1 := Aside0.mk (Iv.Ob.below O4_1.out hal_); replace O5_0 := Aside0.mk (Iv.Ob.below O5_0.out hal_); replace O5_1 := Aside0.mk (Iv.Ob.below O5_1.out hal_); replace HB := Aside0.mk (below_alloc HB.out (.cells #[.slice B5_0 (List.length x1_0) e5_0, .slice B5_1 (List.length x1_1) e5_1] 27)); clear hal_))
  go_wp2_with (first | (go_at_call 12; with_reducible refine (impl_JoinTwo.calls k6 _ _ x0_0 _ _ x0_1 _ _ x1_0 _ _ x1_1 y0_0 y0_1 y1 _ ?s6_1 ?s6_2 ?s6_3 ?s6_4 ?s6_5 ?s6_6 ?s6_7 ?s6_8 H6.out).mono ?_; (case s6_1 => exact Iv.Ob.C O4_0.out); (case s6_2 => exact (Iv.Ob.le O4_0.out)); (case s6_3 => exact Iv.Ob.C O4_1.out); (case s6_4 => exact (Iv.Ob.le O4_1.out)); (case s6_5 => exact Iv.Ob.C O5_0.out); (case s6_6 => exact (Iv.Ob.le O5_0.out)); (case s6_7 => exact Iv.Ob.C O5_1.out); (case s6_8 => exact (Iv.Ob.le O5_1.out)); rintro e w6 ⟨v6_0, v6_1, rfl, ho0, ho1, hb⟩; have new_ : ∃ lo6 hi6 : Nat, Iv.Ob (Kd.int .i64) 3 w6 lo6 hi6 (fun k_ => True) v6_0 y0_0 ∧ Iv.Ob (Kd.slice 3 (Kd.int .i64)) 22 w6 lo6 hi6 (fun k_ => some k_ ≠ (v6_0 : Value).ownBlock) v6_1 y0_1 ∧ w.heap.size ≤ lo6 ∧ w.heap.size < lo6 ∧ w.heap.size + 1 < lo6 ∧ gb3 < lo6 ∧ w4.heap.size < lo6 ∧ w5.heap.size < lo6 ∧ hi3 ≤ lo6 ∧ hi4 ≤ lo6 ∧ hi5 ≤ lo6 := ⟨_, _, Iv.Ob.of_Rint ho0 (fun _ h_ => trivial), Iv.Ob.of_S ho1 (fun _ h_ => h_), (below_size HB.out), (Bx.box_lt bx1_), (Bx.box_lt bx3_), (Bx.box_lt bx5_), (Bx.box_lt bx7_), (Bx.box_lt bx9_), (Iv.Ob.size O3_0.out), (Iv.Ob.size O4_0.out), (Iv.Ob.size O5_0.out)⟩; obtain ⟨lo6, hi6, o0_, o1_, d_w, f_PaA, f_PaB, f_w0, f_x0, f_x1, d_w_, d_x0, d_x1⟩ := new_; replace O3_0 := Aside0.mk (Iv.Ob.below O3_0.out hb); replace O3_1 := Aside0.mk (Iv.ObV.below O3_1.out hb); replace O4_0 := Aside0.mk (Iv.Ob.below O4_0.out hb); replace O4_1 := Aside0.mk (Iv.Ob.below O4_1.out hb); replace O5_0 := Aside0.mk (Iv.Ob.below O5_0.out hb); replace O5_1 := Aside0.mk (Iv.Ob.below O5_1.out hb); replace bx1_ := Bx.box_later bx1_ hb; replace bx2_ := Bx.box_later bx2_ hb; replace bx3_ := Bx.box_later bx3_ hb; replace bx4_ := Bx.box_later bx4_ hb; replace bx5_ := Bx.box_later bx5_ hb; replace bx6_ := Bx.box_later bx6_ hb; replace bx7_ := Bx.box_later bx7_ hb; replace bx8_ := Bx.box_later bx8_ hb; replace bx9_ := Bx.box_later bx9_ hb; replace bx10_ := Bx.box_later bx10_ hb; replace HB := Aside0.mk (below_step HB.out hb); clear hb ho0 ho1; obtain ⟨B6_0, e6_0, rfl⟩ := Iv.Ob.slice o0_; have O6_0 := Aside0.mk o0_; clear o0_; obtain ⟨B6_1, e6_1, rfl⟩ := Iv.Ob.slice o1_; have O6_1 := Aside0.mk o1_; clear o1_; have DW_g_ := Aside0.mk d_w; clear d_w; have D_w__g_ := Aside0.mk d_w_; clear d_w_; have D_x0_g_ := Aside0.mk d_x0; clear d_x0; have D_x1_g_ := Aside0.mk d_x1; clear d_x1; have F_PaA_g_ := Aside0.mk f_PaA; clear f_PaA; have F_PaB_g_ := Aside0.mk f_PaB; clear f_PaB; have F_w0_g_ := Aside0.mk f_w0; clear f_w0; have F_x0_g_ := Aside0.mk f_x0; clear f_x0; have F_x1_g_ := Aside0.mk f_x1; clear f_x1; have E_w__g0 : Aside0 (hi3 ≤ w6.heap.size) := Aside0.mk (Iv.Ob.size (w := w6) O3_0.out); have E_x0_g0 : Aside0 (hi4 ≤ w6.heap.size) := Aside0.mk (Iv.Ob.size (w := w6) O4_0.out); have E_x1_g0 : Aside0 (hi5 ≤ w6.heap.size) := Aside0.mk (Iv.Ob.size (w := w6) O5_0.out); have E_g__g0 : Aside0 (hi6 ≤ w6.heap.size) := Aside0.mk (Iv.Ob.size (w := w6) O6_0.out); have bx11_ : World.cell? (World.alloc w6 (.cells #[.slice B6_0 (List.length y0_0) e6_0, .slice B6_1 (List.length y0_1) e6_1] 27)) ⟨w6.heap.size, 0, none⟩ = some (.slice B6_0 (List.length y0_0) e6_0) := Bx.box_new _ _ _ _ _ rfl; have bx12_ : World.cell? (World.alloc w6 (.cells #[.slice B6_0 (List.length y0_0) e6_0, .slice B6_1 (List.length y0_1) e6_1] 27)) ⟨w6.heap.size, 1, none⟩ = some (.slice B6_1 (List.length y0_1) e6_1) := Bx.box_new _ _ _ _ _ rfl; have hal_ := below_alloc (Below.refl (World.heap w6).size w6) (.cells #[.slice B6_0 (List.length y0_0) e6_0, .slice B6_1 (List.length y0_1) e6_1] 27); replace bx1_ := Bx.box_later bx1_ hal_; replace bx2_ := Bx.box_later bx2_ hal_; replace bx3_ := Bx.box_later bx3_ hal_; replace bx4_ := Bx.box_later bx4_ hal_; replace bx5_ := Bx.box_later bx5_ hal_; replace bx6_ := Bx.box_later bx6_ hal_; replace bx7_ := Bx.box_later bx7_ hal_; replace bx8_ := Bx.box_later bx8_ hal_; replace bx9_ := Bx.box_later bx9_ hal_; replace bx10_ := Bx.box_later bx10_ hal_; replace O3_0 := Aside0.mk (Iv.Ob.below O3_0.out hal_); replace O3_1 := Aside0.mk (Iv.ObV.below O3_1.out hal_); replace O4_0 := Aside0.mk (Iv.Ob.below O4_0.out hal_); replace O4_1 := Aside0.mk (Iv.Ob.below O4_1.out hal_); replace O5_0 := Aside0.mk (Iv.Ob.below O5_0.out hal_); replace O5_1 := Aside0.mk (Iv.Ob.below O5_1.out hal_); replace O6_0 := Aside0.mk (Iv.Ob.below O6_0.out hal_); replace O6_1 := Aside0.mk (Iv.Ob.below O6_1.out hal_); replace HB := Aside0.mk (below_alloc HB.out (.cells #[.slice B6_0 (List.length y0_0) e6_0, .slice B6_1 (List.length y0_1) e6_1] 27)); clear hal_))
  go_wp2_with (first | (go_at_call 13; with_reducible refine (laws_eqRelation.calls k7 _ _ y0_0 _ _ y0_1 _ _ y0_0 _ _ y0_1 true _ ?s7_1 ?s7_2 ?s7_3 ?s7_4 ?s7_5 ?s7_6 ?s7_7 ?s7_8 H7.out).mono ?_; (case s7_1 => exact Iv.Ob.C O6_0.out); (case s7_2 => exact (Iv.Ob.le O6_0.out)); (case s7_3 => exact Iv.Ob.C O6_1.out); (case s7_4 => exact (Iv.Ob.le O6_1.out)); (case s7_5 => exact Iv.Ob.C O3_0.out); (case s7_6 => exact (Iv.Ob.le O3_0.out)); (case s7_7 => exact Iv.ObV.C O3_1.out); (case s7_8 => exact (Iv.ObV.le O3_1.out)); rintro e w7 ⟨rfl, hb⟩; replace O3_0 := Aside0.mk (Iv.Ob.below O3_0.out hb); replace O3_1 := Aside0.mk (Iv.ObV.below O3_1.out hb); replace O4_0 := Aside0.mk (Iv.Ob.below O4_0.out hb); replace O4_1 := Aside0.mk (Iv.Ob.below O4_1.out hb); replace O5_0 := Aside0.mk (Iv.Ob.below O5_0.out hb); replace O5_1 := Aside0.mk (Iv.Ob.below O5_1.out hb); replace O6_0 := Aside0.mk (Iv.Ob.below O6_0.out hb); replace O6_1 := Aside0.mk (Iv.Ob.below O6_1.out hb); replace bx1_ := Bx.box_later bx1_ hb; replace bx2_ := Bx.box_later bx2_ hb; replace bx3_ := Bx.box_later bx3_ hb; replace bx4_ := Bx.box_later bx4_ hb; replace bx5_ := Bx.box_later bx5_ hb; replace bx6_ := Bx.box_later bx6_ hb; replace bx7_ := Bx.box_later bx7_ hb; replace bx8_ := Bx.box_later bx8_ hb; replace bx9_ := Bx.box_later bx9_ hb; replace bx10_ := Bx.box_later bx10_ hb; replace bx11_ := Bx.box_later bx11_ hb; replace bx12_ := Bx.box_later bx12_ hb; replace HB := Aside0.mk (below_step HB.out hb); clear hb))
  refine Bx.start_any (n := 5) (S := fun w_ => World.cell? w_ ⟨w.heap.size, 0, none⟩ = some (.slice A0_0 (List.length l0_0) c0_0) ∧ World.cell? w_ ⟨w.heap.size, 1, none⟩ = some (.slice A0_1 (List.length l0_1) c0_1) ∧ World.cell? w_ ⟨w.heap.size + 1, 0, none⟩ = some (.slice A1_0 (List.length l1_0) c1_0) ∧ World.cell? w_ ⟨w.heap.size + 1, 1, none⟩ = some (.slice A1_1 (List.length l1_1) c1_1) ∧ World.cell? w_ ⟨gb3, 0, none⟩ = some (.slice B3_0 (List.length y0_0) e3_0) ∧ World.cell? w_ ⟨gb3, 1, none⟩ = some (.slice B3_1 (List.length y0_1) e3_1) ∧ World.cell? w_ ⟨w4.heap.size, 0, none⟩ = some (.slice B4_0 (List.length x0_0) e4_0) ∧ World.cell? w_ ⟨w4.heap.size, 1, none⟩ = some (.slice B4_1 (List.length x0_1) e4_1) ∧ World.cell? w_ ⟨w5.heap.size, 0, none⟩ = some (.slice B5_0 (List.length x1_0) e5_0) ∧ World.cell? w_ ⟨w5.heap.size, 1, none⟩ = some (.slice B5_1 (List.length x1_1) e5_1) ∧ World.cell? w_ ⟨w6.heap.size, 0, none⟩ = some (.slice B6_0 (List.length y0_0) e6_0) ∧ World.cell? w_ ⟨w6.heap.size, 1, none⟩ = some (.slice B6_1 (List.length y0_1) e6_1)) (ds := []) #[false, false, false, false, false] (by kernel_rfl) rfl rfl ⟨bx1_, bx2_, bx3_, bx4_, bx5_, bx6_, bx7_, bx8_, bx9_, bx10_, bx11_, bx12_⟩ (fun w8 hb hHeld => ?_)
  replace O3_0 := Aside0.mk (Iv.Ob.below O3_0.out hb)
  replace O3_1 := Aside0.mk (Iv.ObV.below O3_1.out hb)
  replace O4_0 := Aside0.mk (Iv.Ob.below O4_0.out hb)
  replace O4_1 := Aside0.mk (Iv.Ob.below O4_1.out hb)
  replace O5_0 := Aside0.mk (Iv.Ob.below O5_0.out hb)
  replace O5_1 := Aside0.mk (Iv.Ob.below O5_1.out hb)
  replace O6_0 := Aside0.mk (Iv.Ob.below O6_0.out hb)
  replace O6_1 := Aside0.mk (Iv.Ob.below O6_1.out hb)
  replace bx1_ := Bx.box_later bx1_ hb
  replace bx2_ := Bx.box_later bx2_ hb
  replace bx3_ := Bx.box_later bx3_ hb
  replace bx4_ := Bx.box_later bx4_ hb
  replace bx5_ := Bx.box_later bx5_ hb
  replace bx6_ := Bx.box_later bx6_ hb
  replace bx7_ := Bx.box_later bx7_ hb
  replace bx8_ := Bx.box_later bx8_ hb
  replace bx9_ := Bx.box_later bx9_ hb
  replace bx10_ := Bx.box_later bx10_ hb
  replace bx11_ := Bx.box_later bx11_ hb
  replace bx12_ := Bx.box_later bx12_ hb
  replace HB := Aside0.mk (below_step HB.out hb)
  clear hb
  refine take_ (i := 0) (N := some 54) (v := ?_) (a' := ?_) #[true, false, false, false, false] rfl rfl (by kernel_rfl) (fun _ _ _ h => h) (Or.inl ⟨by rfl, ?_⟩) hHeld ?_ ?_
  rotate_left
  · rintro w' ⟨s0_, s1_, s2_, s3_, s4_, s5_, s6_, s7_, s8_, s9_, s10_, s11_⟩
    go_simp
    with_reducible rfl
  rotate_left
  · simp only [Act.put, List.setIfInBounds_toArray, List.set_cons_zero, List.set_cons_succ, i64_w, i32_w]
    rfl
  refine take_ (i := 1) (N := some 55) (v := ?_) (a' := ?_) #[true, true, false, false, false] rfl rfl (by kernel_rfl) (fun _ _ _ h => h) (Or.inl ⟨by rfl, ?_⟩) hHeld ?_ ?_
  rotate_left
  · rintro w' ⟨s0_, s1_, s2_, s3_, s4_, s5_, s6_, s7_, s8_, s9_, s10_, s11_⟩
    go_simp
    with_reducible rfl
  rotate_left
  · simp only [Act.put, List.setIfInBounds_toArray, List.set_cons_zero, List.set_cons_succ, i64_w, i32_w]
    rfl
  refine one_ (i := 2) (N := some 56) #[true, true, true, false, false] rfl rfl (by kernel_rfl) (by decide) (fun K hK => ?_)
  refine goes_ Try.func11 (by kernel_rfl) rfl #[.agg #[.slice A0_0 l0_0.length c0_0, .slice A0_1 l0_1.length c0_1]] (by rfl) rfl rfl (by (try simp only [List.map_toArray, List.map_cons, List.map_nil]); first | done | rfl | (simp only [List.length_drop, List.length_take]; rfl)) ?_
  with_reducible refine (laws_toRelation.calls k3 _ _ l0_0 _ _ l0_1 x0_0 x0_1 _ ?s9_1 ?s9_2 ?s9_3 ?s9_4 H3.out).mono ?_
  (case s9_1 => exact Kd.C_below HR0_0.out HB.out)
  (case s9_2 => exact HC0_0.out)
  (case s9_3 => exact Kd.C_below HR0_1.out HB.out)
  (case s9_4 => exact HC0_1.out)
  rintro e w9 ⟨v9_0, v9_1, rfl, ho0, ho1, hb⟩
  refine ⟨_, rfl, ?_⟩
  have new_ : ∃ lo9 hi9 : Nat, Iv.Ob (Kd.int .i64) 3 w9 lo9 hi9 (fun k_ => True) v9_0 x0_0 ∧ Iv.Ob (Kd.slice 3 (Kd.int .i64)) 22 w9 lo9 hi9 (fun k_ => some k_ ≠ (v9_0 : Value).ownBlock) v9_1 x0_1 ∧ w.heap.size ≤ lo9 ∧ w.heap.size < lo9 ∧ w.heap.size + 1 < lo9 ∧ gb3 < lo9 ∧ w4.heap.size < lo9 ∧ w5.heap.size < lo9 ∧ w6.heap.size < lo9 ∧ hi3 ≤ lo9 ∧ hi4 ≤ lo9 ∧ hi5 ≤ lo9 ∧ hi6 ≤ lo9 := ⟨_, _, Iv.Ob.of_Rint ho0 (fun _ h_ => trivial), Iv.Ob.of_S ho1 (fun _ h_ => h_), (below_size HB.out), (Bx.box_lt bx1_), (Bx.box_lt bx3_), (Bx.box_lt bx5_), (Bx.box_lt bx7_), (Bx.box_lt bx9_), (Bx.box_lt bx11_), (Iv.Ob.size O3_0.out), (Iv.Ob.size O4_0.out), (Iv.Ob.size O5_0.out), (Iv.Ob.size O6_0.out)⟩
  obtain ⟨lo9, hi9, o0_, o1_, d_w, f_PaA, f_PaB, f_w0, f_x0, f_x1, f_g0, d_w_, d_x0, d_x1, d_g_⟩ := new_
  replace O3_0 := Aside0.mk (Iv.Ob.below O3_0.out hb)
  replace O3_1 := Aside0.mk (Iv.ObV.below O3_1.out hb)
  replace O4_0 := Aside0.mk (Iv.Ob.below O4_0.out hb)
  replace O4_1 := Aside0.mk (Iv.Ob.below O4_1.out hb)
  replace O5_0 := Aside0.mk (Iv.Ob.below O5_0.out hb)
  replace O5_1 := Aside0.mk (Iv.Ob.below O5_1.out hb)
  replace O6_0 := Aside0.mk (Iv.Ob.below O6_0.out hb)
  replace O6_1 := Aside0.mk (Iv.Ob.below O6_1.out hb)
  replace bx1_ := Bx.box_later bx1_ hb
  replace bx2_ := Bx.box_later bx2_ hb
  replace bx3_ := Bx.box_later bx3_ hb
  replace bx4_ := Bx.box_later bx4_ hb
  replace bx5_ := Bx.box_later bx5_ hb
  replace bx6_ := Bx.box_later bx6_ hb
  replace bx7_ := Bx.box_later bx7_ hb
  replace bx8_ := Bx.box_later bx8_ hb
  replace bx9_ := Bx.box_later bx9_ hb
  replace bx10_ := Bx.box_later bx10_ hb
  replace bx11_ := Bx.box_later bx11_ hb
  replace bx12_ := Bx.box_later bx12_ hb
  replace HB := Aside0.mk (below_step HB.out hb)
  clear hb ho0 ho1
  obtain ⟨B9_0, e9_0, rfl⟩ := Iv.Ob.slice o0_
  have O9_0 := Aside0.mk o0_
  clear o0_
  obtain ⟨B9_1, e9_1, rfl⟩ := Iv.Ob.slice o1_
  have O9_1 := Aside0.mk o1_
  clear o1_
  have DW_t9 := Aside0.mk d_w
  clear d_w
  have D_w__t9 := Aside0.mk d_w_
  clear d_w_
  have D_x0_t9 := Aside0.mk d_x0
  clear d_x0
  have D_x1_t9 := Aside0.mk d_x1
  clear d_x1
  have D_g__t9 := Aside0.mk d_g_
  clear d_g_
  have F_PaA_t9 := Aside0.mk f_PaA
  clear f_PaA
  have F_PaB_t9 := Aside0.mk f_PaB
  clear f_PaB
  have F_w0_t9 := Aside0.mk f_w0
  clear f_w0
  have F_x0_t9 := Aside0.mk f_x0
  clear f_x0
  have F_x1_t9 := Aside0.mk f_x1
  clear f_x1
  have F_g0_t9 := Aside0.mk f_g0
  clear f_g0
  refine hK.out _ _ ⟨bx1_, bx2_, bx3_, bx4_, bx5_, bx6_, bx7_, bx8_, bx9_, bx10_, bx11_, bx12_⟩ (fun hHeld => ?_)
  clear hK K
  refine norm_ (a' := ?_) ?_ ?_
  rotate_left
  · show Act.put _ (some 56) _ = _
    simp only [Act.put, List.setIfInBounds_toArray, List.set_cons_zero, List.set_cons_succ, i64_w, i32_w]
    rfl
  refine one_ (i := 3) (N := some 57) #[true, true, true, true, false] rfl rfl (by kernel_rfl) (by decide) (fun K hK => ?_)
  refine goes_ Try.func13 (by kernel_rfl) rfl #[.agg #[.slice B4_0 (List.length x0_0) e4_0, .slice B4_1 (List.length x0_1) e4_1], .agg #[.slice B9_0 (List.length x0_0) e9_0, .slice B9_1 (List.length x0_1) e9_1]] (by rfl) rfl rfl (by (try simp only [List.map_toArray, List.map_cons, List.map_nil]); first | done | rfl | (simp only [List.length_drop, List.length_take]; rfl)) ?_
  with_reducible refine (laws_eqRelation.calls k8 _ _ x0_0 _ _ x0_1 _ _ x0_0 _ _ x0_1 true _ ?s10_1 ?s10_2 ?s10_3 ?s10_4 ?s10_5 ?s10_6 ?s10_7 ?s10_8 H8.out).mono ?_
  (case s10_1 => exact Iv.Ob.C O4_0.out)
  (case s10_2 => exact (Iv.Ob.le O4_0.out))
  (case s10_3 => exact Iv.Ob.C O4_1.out)
  (case s10_4 => exact (Iv.Ob.le O4_1.out))
  (case s10_5 => exact Iv.Ob.C O9_0.out)
  (case s10_6 => exact (Iv.Ob.le O9_0.out))
  (case s10_7 => exact Iv.Ob.C O9_1.out)
  (case s10_8 => exact (Iv.Ob.le O9_1.out))
  rintro e w10 ⟨rfl, hb⟩
  refine ⟨_, rfl, ?_⟩
  replace O3_0 := Aside0.mk (Iv.Ob.below O3_0.out hb)
  replace O3_1 := Aside0.mk (Iv.ObV.below O3_1.out hb)
  replace O4_0 := Aside0.mk (Iv.Ob.below O4_0.out hb)
  replace O4_1 := Aside0.mk (Iv.Ob.below O4_1.out hb)
  replace O5_0 := Aside0.mk (Iv.Ob.below O5_0.out hb)
  replace O5_1 := Aside0.mk (Iv.Ob.below O5_1.out hb)
  replace O6_0 := Aside0.mk (Iv.Ob.below O6_0.out hb)
  replace O6_1 := Aside0.mk (Iv.Ob.below O6_1.out hb)
  replace O9_0 := Aside0.mk (Iv.Ob.below O9_0.out hb)
  replace O9_1 := Aside0.mk (Iv.Ob.below O9_1.out hb)
  replace bx1_ := Bx.box_later bx1_ hb
  replace bx2_ := Bx.box_later bx2_ hb
  replace bx3_ := Bx.box_later bx3_ hb
  replace bx4_ := Bx.box_later bx4_ hb
  replace bx5_ := Bx.box_later bx5_ hb
  replace bx6_ := Bx.box_later bx6_ hb
  replace bx7_ := Bx.box_later bx7_ hb
  replace bx8_ := Bx.box_later bx8_ hb
  replace bx9_ := Bx.box_later bx9_ hb
  replace bx10_ := Bx.box_later bx10_ hb
  replace bx11_ := Bx.box_later bx11_ hb
  replace bx12_ := Bx.box_later bx12_ hb
  replace HB := Aside0.mk (below_step HB.out hb)
  clear hb
  refine hK.out _ _ ⟨bx1_, bx2_, bx3_, bx4_, bx5_, bx6_, bx7_, bx8_, bx9_, bx10_, bx11_, bx12_⟩ (fun hHeld => ?_)
  clear hK K
  refine norm_ (a' := ?_) ?_ ?_
  rotate_left
  · show Act.put _ (some 57) _ = _
    simp only [Act.put, List.setIfInBounds_toArray, List.set_cons_zero, List.set_cons_succ, i64_w, i32_w]
    rfl
  clear O9_0
  clear O9_1
  refine pure_ (i := 4) (N := some 58) (v := ?_) (a' := ?_) #[true, true, true, true, true] rfl rfl (by kernel_rfl) (fun _ _ _ h => h) (Or.inl ⟨by rfl, ?_⟩) ?_ ?_
  rotate_left
  · intro w'
    go_simp
    with_reducible rfl
  rotate_left
  · simp only [Act.put, List.setIfInBounds_toArray, List.set_cons_zero, List.set_cons_succ, i64_w, i32_w]
    rfl
  refine done_ (by kernel_rfl) ?_
  try go_wp2
  refine Bx.start_any (n := 5) (S := fun w_ => World.cell? w_ ⟨w.heap.size, 0, none⟩ = some (.slice A0_0 (List.length l0_0) c0_0) ∧ World.cell? w_ ⟨w.heap.size, 1, none⟩ = some (.slice A0_1 (List.length l0_1) c0_1) ∧ World.cell? w_ ⟨w.heap.size + 1, 0, none⟩ = some (.slice A1_0 (List.length l1_0) c1_0) ∧ World.cell? w_ ⟨w.heap.size + 1, 1, none⟩ = some (.slice A1_1 (List.length l1_1) c1_1) ∧ World.cell? w_ ⟨gb3, 0, none⟩ = some (.slice B3_0 (List.length y0_0) e3_0) ∧ World.cell? w_ ⟨gb3, 1, none⟩ = some (.slice B3_1 (List.length y0_1) e3_1) ∧ World.cell? w_ ⟨w4.heap.size, 0, none⟩ = some (.slice B4_0 (List.length x0_0) e4_0) ∧ World.cell? w_ ⟨w4.heap.size, 1, none⟩ = some (.slice B4_1 (List.length x0_1) e4_1) ∧ World.cell? w_ ⟨w5.heap.size, 0, none⟩ = some (.slice B5_0 (List.length x1_0) e5_0) ∧ World.cell? w_ ⟨w5.heap.size, 1, none⟩ = some (.slice B5_1 (List.length x1_1) e5_1) ∧ World.cell? w_ ⟨w6.heap.size, 0, none⟩ = some (.slice B6_0 (List.length y0_0) e6_0) ∧ World.cell? w_ ⟨w6.heap.size, 1, none⟩ = some (.slice B6_1 (List.length y0_1) e6_1)) (ds := []) #[false, false, false, false, false] (by kernel_rfl) rfl rfl ⟨bx1_, bx2_, bx3_, bx4_, bx5_, bx6_, bx7_, bx8_, bx9_, bx10_, bx11_, bx12_⟩ (fun w11 hb hHeld => ?_)
  replace O3_0 := Aside0.mk (Iv.Ob.below O3_0.out hb)
  replace O3_1 := Aside0.mk (Iv.ObV.below O3_1.out hb)
  replace O4_0 := Aside0.mk (Iv.Ob.below O4_0.out hb)
  replace O4_1 := Aside0.mk (Iv.Ob.below O4_1.out hb)
  replace O5_0 := Aside0.mk (Iv.Ob.below O5_0.out hb)
  replace O5_1 := Aside0.mk (Iv.Ob.below O5_1.out hb)
  replace O6_0 := Aside0.mk (Iv.Ob.below O6_0.out hb)
  replace O6_1 := Aside0.mk (Iv.Ob.below O6_1.out hb)
  replace bx1_ := Bx.box_later bx1_ hb
  replace bx2_ := Bx.box_later bx2_ hb
  replace bx3_ := Bx.box_later bx3_ hb
  replace bx4_ := Bx.box_later bx4_ hb
  replace bx5_ := Bx.box_later bx5_ hb
  replace bx6_ := Bx.box_later bx6_ hb
  replace bx7_ := Bx.box_later bx7_ hb
  replace bx8_ := Bx.box_later bx8_ hb
  replace bx9_ := Bx.box_later bx9_ hb
  replace bx10_ := Bx.box_later bx10_ hb
  replace bx11_ := Bx.box_later bx11_ hb
  replace bx12_ := Bx.box_later bx12_ hb
  replace HB := Aside0.mk (below_step HB.out hb)
  clear hb
  refine take_ (i := 0) (N := some 59) (v := ?_) (a' := ?_) #[true, false, false, false, false] rfl rfl (by kernel_rfl) (fun _ _ _ h => h) (Or.inl ⟨by rfl, ?_⟩) hHeld ?_ ?_
  rotate_left
  · rintro w' ⟨s0_, s1_, s2_, s3_, s4_, s5_, s6_, s7_, s8_, s9_, s10_, s11_⟩
    go_simp
    with_reducible rfl
  rotate_left
  · simp only [Act.put, List.setIfInBounds_toArray, List.set_cons_zero, List.set_cons_succ, i64_w, i32_w]
    rfl
  refine take_ (i := 1) (N := some 60) (v := ?_) (a' := ?_) #[true, true, false, false, false] rfl rfl (by kernel_rfl) (fun _ _ _ h => h) (Or.inl ⟨by rfl, ?_⟩) hHeld ?_ ?_
  rotate_left
  · rintro w' ⟨s0_, s1_, s2_, s3_, s4_, s5_, s6_, s7_, s8_, s9_, s10_, s11_⟩
    go_simp
    with_reducible rfl
  rotate_left
  · simp only [Act.put, List.setIfInBounds_toArray, List.set_cons_zero, List.set_cons_succ, i64_w, i32_w]
    rfl
  refine one_ (i := 2) (N := some 61) #[true, true, true, false, false] rfl rfl (by kernel_rfl) (by decide) (fun K hK => ?_)
  refine goes_ Try.func11 (by kernel_rfl) rfl #[.agg #[.slice A1_0 l1_0.length c1_0, .slice A1_1 l1_1.length c1_1]] (by rfl) rfl rfl (by (try simp only [List.map_toArray, List.map_cons, List.map_nil]); first | done | rfl | (simp only [List.length_drop, List.length_take]; rfl)) ?_
  with_reducible refine (laws_toRelation.calls k4 _ _ l1_0 _ _ l1_1 x1_0 x1_1 _ ?s12_1 ?s12_2 ?s12_3 ?s12_4 H4.out).mono ?_
  (case s12_1 => exact Kd.C_below HR1_0.out HB.out)
  (case s12_2 => exact HC1_0.out)
  (case s12_3 => exact Kd.C_below HR1_1.out HB.out)
  (case s12_4 => exact HC1_1.out)
  rintro e w12 ⟨v12_0, v12_1, rfl, ho0, ho1, hb⟩
  refine ⟨_, rfl, ?_⟩
  have new_ : ∃ lo12 hi12 : Nat, Iv.Ob (Kd.int .i64) 3 w12 lo12 hi12 (fun k_ => True) v12_0 x1_0 ∧ Iv.Ob (Kd.slice 3 (Kd.int .i64)) 22 w12 lo12 hi12 (fun k_ => some k_ ≠ (v12_0 : Value).ownBlock) v12_1 x1_1 ∧ w.heap.size ≤ lo12 ∧ w.heap.size < lo12 ∧ w.heap.size + 1 < lo12 ∧ gb3 < lo12 ∧ w4.heap.size < lo12 ∧ w5.heap.size < lo12 ∧ w6.heap.size < lo12 ∧ hi3 ≤ lo12 ∧ hi4 ≤ lo12 ∧ hi5 ≤ lo12 ∧ hi6 ≤ lo12 := ⟨_, _, Iv.Ob.of_Rint ho0 (fun _ h_ => trivial), Iv.Ob.of_S ho1 (fun _ h_ => h_), (below_size HB.out), (Bx.box_lt bx1_), (Bx.box_lt bx3_), (Bx.box_lt bx5_), (Bx.box_lt bx7_), (Bx.box_lt bx9_), (Bx.box_lt bx11_), (Iv.Ob.size O3_0.out), (Iv.Ob.size O4_0.out), (Iv.Ob.size O5_0.out), (Iv.Ob.size O6_0.out)⟩
  obtain ⟨lo12, hi12, o0_, o1_, d_w, f_PaA, f_PaB, f_w0, f_x0, f_x1, f_g0, d_w_, d_x0, d_x1, d_g_⟩ := new_
  replace O3_0 := Aside0.mk (Iv.Ob.below O3_0.out hb)
  replace O3_1 := Aside0.mk (Iv.ObV.below O3_1.out hb)
  replace O4_0 := Aside0.mk (Iv.Ob.below O4_0.out hb)
  replace O4_1 := Aside0.mk (Iv.Ob.below O4_1.out hb)
  replace O5_0 := Aside0.mk (Iv.Ob.below O5_0.out hb)
  replace O5_1 := Aside0.mk (Iv.Ob.below O5_1.out hb)
  replace O6_0 := Aside0.mk (Iv.Ob.below O6_0.out hb)
  replace O6_1 := Aside0.mk (Iv.Ob.below O6_1.out hb)
  replace bx1_ := Bx.box_later bx1_ hb
  replace bx2_ := Bx.box_later bx2_ hb
  replace bx3_ := Bx.box_later bx3_ hb
  replace bx4_ := Bx.box_later bx4_ hb
  replace bx5_ := Bx.box_later bx5_ hb
  replace bx6_ := Bx.box_later bx6_ hb
  replace bx7_ := Bx.box_later bx7_ hb
  replace bx8_ := Bx.box_later bx8_ hb
  replace bx9_ := Bx.box_later bx9_ hb
  replace bx10_ := Bx.box_later bx10_ hb
  replace bx11_ := Bx.box_later bx11_ hb
  replace bx12_ := Bx.box_later bx12_ hb
  replace HB := Aside0.mk (below_step HB.out hb)
  clear hb ho0 ho1
  obtain ⟨B12_0, e12_0, rfl⟩ := Iv.Ob.slice o0_
  have O12_0 := Aside0.mk o0_
  clear o0_
  obtain ⟨B12_1, e12_1, rfl⟩ := Iv.Ob.slice o1_
  have O12_1 := Aside0.mk o1_
  clear o1_
  have DW_t12 := Aside0.mk d_w
  clear d_w
  have D_w__t12 := Aside0.mk d_w_
  clear d_w_
  have D_x0_t12 := Aside0.mk d_x0
  clear d_x0
  have D_x1_t12 := Aside0.mk d_x1
  clear d_x1
  have D_g__t12 := Aside0.mk d_g_
  clear d_g_
  have F_PaA_t12 := Aside0.mk f_PaA
  clear f_PaA
  have F_PaB_t12 := Aside0.mk f_PaB
  clear f_PaB
  have F_w0_t12 := Aside0.mk f_w0
  clear f_w0
  have F_x0_t12 := Aside0.mk f_x0
  clear f_x0
  have F_x1_t12 := Aside0.mk f_x1
  clear f_x1
  have F_g0_t12 := Aside0.mk f_g0
  clear f_g0
  refine hK.out _ _ ⟨bx1_, bx2_, bx3_, bx4_, bx5_, bx6_, bx7_, bx8_, bx9_, bx10_, bx11_, bx12_⟩ (fun hHeld => ?_)
  clear hK K
  refine norm_ (a' := ?_) ?_ ?_
  rotate_left
  · show Act.put _ (some 61) _ = _
    simp only [Act.put, List.setIfInBounds_toArray, List.set_cons_zero, List.set_cons_succ, i64_w, i32_w]
    rfl
  refine one_ (i := 3) (N := some 62) #[true, true, true, true, false] rfl rfl (by kernel_rfl) (by decide) (fun K hK => ?_)
  refine goes_ Try.func13 (by kernel_rfl) rfl #[.agg #[.slice B5_0 (List.length x1_0) e5_0, .slice B5_1 (List.length x1_1) e5_1], .agg #[.slice B12_0 (List.length x1_0) e12_0, .slice B12_1 (List.length x1_1) e12_1]] (by rfl) rfl rfl (by (try simp only [List.map_toArray, List.map_cons, List.map_nil]); first | done | rfl | (simp only [List.length_drop, List.length_take]; rfl)) ?_
  with_reducible refine (laws_eqRelation.calls k9 _ _ x1_0 _ _ x1_1 _ _ x1_0 _ _ x1_1 true _ ?s13_1 ?s13_2 ?s13_3 ?s13_4 ?s13_5 ?s13_6 ?s13_7 ?s13_8 H9.out).mono ?_
  (case s13_1 => exact Iv.Ob.C O5_0.out)
  (case s13_2 => exact (Iv.Ob.le O5_0.out))
  (case s13_3 => exact Iv.Ob.C O5_1.out)
  (case s13_4 => exact (Iv.Ob.le O5_1.out))
  (case s13_5 => exact Iv.Ob.C O12_0.out)
  (case s13_6 => exact (Iv.Ob.le O12_0.out))
  (case s13_7 => exact Iv.Ob.C O12_1.out)
  (case s13_8 => exact (Iv.Ob.le O12_1.out))
  rintro e w13 ⟨rfl, hb⟩
  refine ⟨_, rfl, ?_⟩
  replace O3_0 := Aside0.mk (Iv.Ob.below O3_0.out hb)
  replace O3_1 := Aside0.mk (Iv.ObV.below O3_1.out hb)
  replace O4_0 := Aside0.mk (Iv.Ob.below O4_0.out hb)
  replace O4_1 := Aside0.mk (Iv.Ob.below O4_1.out hb)
  replace O5_0 := Aside0.mk (Iv.Ob.below O5_0.out hb)
  replace O5_1 := Aside0.mk (Iv.Ob.below O5_1.out hb)
  replace O6_0 := Aside0.mk (Iv.Ob.below O6_0.out hb)
  replace O6_1 := Aside0.mk (Iv.Ob.below O6_1.out hb)
  replace O12_0 := Aside0.mk (Iv.Ob.below O12_0.out hb)
  replace O12_1 := Aside0.mk (Iv.Ob.below O12_1.out hb)
  replace bx1_ := Bx.box_later bx1_ hb
  replace bx2_ := Bx.box_later bx2_ hb
  replace bx3_ := Bx.box_later bx3_ hb
  replace bx4_ := Bx.box_later bx4_ hb
  replace bx5_ := Bx.box_later bx5_ hb
  replace bx6_ := Bx.box_later bx6_ hb
  replace bx7_ := Bx.box_later bx7_ hb
  replace bx8_ := Bx.box_later bx8_ hb
  replace bx9_ := Bx.box_later bx9_ hb
  replace bx10_ := Bx.box_later bx10_ hb
  replace bx11_ := Bx.box_later bx11_ hb
  replace bx12_ := Bx.box_later bx12_ hb
  replace HB := Aside0.mk (below_step HB.out hb)
  clear hb
  refine hK.out _ _ ⟨bx1_, bx2_, bx3_, bx4_, bx5_, bx6_, bx7_, bx8_, bx9_, bx10_, bx11_, bx12_⟩ (fun hHeld => ?_)
  clear hK K
  refine norm_ (a' := ?_) ?_ ?_
  rotate_left
  · show Act.put _ (some 62) _ = _
    simp only [Act.put, List.setIfInBounds_toArray, List.set_cons_zero, List.set_cons_succ, i64_w, i32_w]
    rfl
  clear O12_0
  clear O12_1
  refine pure_ (i := 4) (N := some 63) (v := ?_) (a' := ?_) #[true, true, true, true, true] rfl rfl (by kernel_rfl) (fun _ _ _ h => h) (Or.inl ⟨by rfl, ?_⟩) ?_ ?_
  rotate_left
  · intro w'
    go_simp
    with_reducible rfl
  rotate_left
  · simp only [Act.put, List.setIfInBounds_toArray, List.set_cons_zero, List.set_cons_succ, i64_w, i32_w]
    rfl
  refine done_ (by kernel_rfl) ?_
  go_wp2_with (first | (go_at_call 14; with_reducible refine (Mk.markRelation w _ lo4 hi4 1 M1 _ _ x0_0 x0_1 HB.out DW_x0.out O4_0.out O4_1.out HMM10.out HMM11.out).mono ?_; rintro e w14 ⟨rfl, mk0, mk1, hb, hk⟩; replace O3_0 := Aside0.mk (Iv.Ob.kept O3_0.out hk (by have h1_ := D_w__x0.out; omega)); replace O3_1 := Aside0.mk (Iv.ObV.kept O3_1.out hk (by have h1_ := D_w__x0.out; omega)); replace O5_0 := Aside0.mk (Iv.Ob.kept O5_0.out hk (by have h1_ := D_x0_x1.out; omega)); replace O5_1 := Aside0.mk (Iv.Ob.kept O5_1.out hk (by have h1_ := D_x0_x1.out; omega)); replace O6_0 := Aside0.mk (Iv.Ob.kept O6_0.out hk (by have h1_ := D_x0_g_.out; omega)); replace O6_1 := Aside0.mk (Iv.Ob.kept O6_1.out hk (by have h1_ := D_x0_g_.out; omega)); replace bx1_ := Bx.box_kept bx1_ hk (.inl (by have := F_PaA_x0.out; simpa using this)); replace bx2_ := Bx.box_kept bx2_ hk (.inl (by have := F_PaA_x0.out; simpa using this)); replace bx3_ := Bx.box_kept bx3_ hk (.inl (by have := F_PaB_x0.out; simpa using this)); replace bx4_ := Bx.box_kept bx4_ hk (.inl (by have := F_PaB_x0.out; simpa using this)); replace bx5_ := Bx.box_kept bx5_ hk (.inl (by have := F_w0_x0.out; simpa using this)); replace bx6_ := Bx.box_kept bx6_ hk (.inl (by have := F_w0_x0.out; simpa using this)); replace bx7_ := Bx.box_kept bx7_ hk (.inr (by have := E_x0_x0.out; simpa using this)); replace bx8_ := Bx.box_kept bx8_ hk (.inr (by have := E_x0_x0.out; simpa using this)); replace bx9_ := Bx.box_kept bx9_ hk (.inr (by have := E_x0_x1.out; simpa using this)); replace bx10_ := Bx.box_kept bx10_ hk (.inr (by have := E_x0_x1.out; simpa using this)); replace bx11_ := Bx.box_kept bx11_ hk (.inr (by have := E_x0_g0.out; simpa using this)); replace bx12_ := Bx.box_kept bx12_ hk (.inr (by have := E_x0_g0.out; simpa using this)); replace HB := Aside0.mk hb; clear hb hk; clear mk0; clear mk1; clear O4_0; clear O4_1))
  go_wp2_with (first | (go_at_call 14; with_reducible refine (Mk.markRelation w _ lo5 hi5 M1 M2 _ _ x1_0 x1_1 HB.out DW_x1.out O5_0.out O5_1.out HMM20.out HMM21.out).mono ?_; rintro e w15 ⟨rfl, mk0, mk1, hb, hk⟩; replace O3_0 := Aside0.mk (Iv.Ob.kept O3_0.out hk (by have h1_ := D_w__x1.out; omega)); replace O3_1 := Aside0.mk (Iv.ObV.kept O3_1.out hk (by have h1_ := D_w__x1.out; omega)); replace O6_0 := Aside0.mk (Iv.Ob.kept O6_0.out hk (by have h1_ := D_x1_g_.out; omega)); replace O6_1 := Aside0.mk (Iv.Ob.kept O6_1.out hk (by have h1_ := D_x1_g_.out; omega)); replace bx1_ := Bx.box_kept bx1_ hk (.inl (by have := F_PaA_x1.out; simpa using this)); replace bx2_ := Bx.box_kept bx2_ hk (.inl (by have := F_PaA_x1.out; simpa using this)); replace bx3_ := Bx.box_kept bx3_ hk (.inl (by have := F_PaB_x1.out; simpa using this)); replace bx4_ := Bx.box_kept bx4_ hk (.inl (by have := F_PaB_x1.out; simpa using this)); replace bx5_ := Bx.box_kept bx5_ hk (.inl (by have := F_w0_x1.out; simpa using this)); replace bx6_ := Bx.box_kept bx6_ hk (.inl (by have := F_w0_x1.out; simpa using this)); replace bx7_ := Bx.box_kept bx7_ hk (.inl (by have := F_x0_x1.out; simpa using this)); replace bx8_ := Bx.box_kept bx8_ hk (.inl (by have := F_x0_x1.out; simpa using this)); replace bx9_ := Bx.box_kept bx9_ hk (.inr (by have := E_x1_x1.out; simpa using this)); replace bx10_ := Bx.box_kept bx10_ hk (.inr (by have := E_x1_x1.out; simpa using this)); replace bx11_ := Bx.box_kept bx11_ hk (.inr (by have := E_x1_g0.out; simpa using this)); replace bx12_ := Bx.box_kept bx12_ hk (.inr (by have := E_x1_g0.out; simpa using this)); replace HB := Aside0.mk hb; clear hb hk; clear mk0; clear mk1; clear O5_0; clear O5_1))
  go_wp2_with (first | (go_at_call 13; with_reducible refine (laws_eqRelation.calls k7 _ _ y0_0 _ _ y0_1 _ _ y0_0 _ _ y0_1 true _ ?s16_1 ?s16_2 ?s16_3 ?s16_4 ?s16_5 ?s16_6 ?s16_7 ?s16_8 H7.out).mono ?_; (case s16_1 => exact Iv.Ob.C O6_0.out); (case s16_2 => exact (Iv.Ob.le O6_0.out)); (case s16_3 => exact Iv.Ob.C O6_1.out); (case s16_4 => exact (Iv.Ob.le O6_1.out)); (case s16_5 => exact Iv.Ob.C O3_0.out); (case s16_6 => exact (Iv.Ob.le O3_0.out)); (case s16_7 => exact Iv.ObV.C O3_1.out); (case s16_8 => exact (Iv.ObV.le O3_1.out)); rintro e w16 ⟨rfl, hb⟩; replace O3_0 := Aside0.mk (Iv.Ob.below O3_0.out hb); replace O3_1 := Aside0.mk (Iv.ObV.below O3_1.out hb); replace O6_0 := Aside0.mk (Iv.Ob.below O6_0.out hb); replace O6_1 := Aside0.mk (Iv.Ob.below O6_1.out hb); replace bx1_ := Bx.box_later bx1_ hb; replace bx2_ := Bx.box_later bx2_ hb; replace bx3_ := Bx.box_later bx3_ hb; replace bx4_ := Bx.box_later bx4_ hb; replace bx5_ := Bx.box_later bx5_ hb; replace bx6_ := Bx.box_later bx6_ hb; replace bx7_ := Bx.box_later bx7_ hb; replace bx8_ := Bx.box_later bx8_ hb; replace bx9_ := Bx.box_later bx9_ hb; replace bx10_ := Bx.box_later bx10_ hb; replace bx11_ := Bx.box_later bx11_ hb; replace bx12_ := Bx.box_later bx12_ hb; replace HB := Aside0.mk (below_step HB.out hb); clear hb))
  go_wp2_with (first | (go_at_call 14; with_reducible refine (Mk.markRelation w _ lo6 hi6 1 M3 _ _ y0_0 y0_1 HB.out DW_g_.out O6_0.out O6_1.out HMM30.out HMM31.out).mono ?_; rintro e w17 ⟨rfl, mk0, mk1, hb, hk⟩; replace O3_0 := Aside0.mk (Iv.Ob.kept O3_0.out hk (by have h1_ := D_w__g_.out; omega)); replace O3_1 := Aside0.mk (Iv.ObV.kept O3_1.out hk (by have h1_ := D_w__g_.out; omega)); replace bx1_ := Bx.box_kept bx1_ hk (.inl (by have := F_PaA_g_.out; simpa using this)); replace bx2_ := Bx.box_kept bx2_ hk (.inl (by have := F_PaA_g_.out; simpa using this)); replace bx3_ := Bx.box_kept bx3_ hk (.inl (by have := F_PaB_g_.out; simpa using this)); replace bx4_ := Bx.box_kept bx4_ hk (.inl (by have := F_PaB_g_.out; simpa using this)); replace bx5_ := Bx.box_kept bx5_ hk (.inl (by have := F_w0_g_.out; simpa using this)); replace bx6_ := Bx.box_kept bx6_ hk (.inl (by have := F_w0_g_.out; simpa using this)); replace bx7_ := Bx.box_kept bx7_ hk (.inl (by have := F_x0_g_.out; simpa using this)); replace bx8_ := Bx.box_kept bx8_ hk (.inl (by have := F_x0_g_.out; simpa using this)); replace bx9_ := Bx.box_kept bx9_ hk (.inl (by have := F_x1_g_.out; simpa using this)); replace bx10_ := Bx.box_kept bx10_ hk (.inl (by have := F_x1_g_.out; simpa using this)); replace bx11_ := Bx.box_kept bx11_ hk (.inr (by have := E_g__g0.out; simpa using this)); replace bx12_ := Bx.box_kept bx12_ hk (.inr (by have := E_g__g0.out; simpa using this)); replace HB := Aside0.mk hb; clear hb hk; replace O6_0 := Aside0.mk mk0; replace O6_1 := Aside0.mk mk1; clear mk0; clear mk1))
  go_wp2_with (first | (go_at_call 15; with_reducible refine Bx.calls_at ?e18_ ((laws_heldRelation.calls k10 B6_0 e6_0 (Ax.mkRelation_0 y0_0 y0_1 1) B6_1 e6_1 (Ax.mkRelation_1 y0_0 y0_1 1) 1 M3 _ ?s18_1 ?s18_2 ?s18_3 ?s18_4 H10.out).mono ?_); (case e18_ => simp only [Ax.mkIntS_length, Ax.mkOf_length]); (case s18_1 => exact Iv.Ob.C O6_0.out); (case s18_2 => exact (Iv.Ob.le O6_0.out)); (case s18_3 => exact Iv.Ob.C O6_1.out); (case s18_4 => exact (Iv.Ob.le O6_1.out)); rintro e w18 ⟨rfl, hb⟩; replace O3_0 := Aside0.mk (Iv.Ob.below O3_0.out hb); replace O3_1 := Aside0.mk (Iv.ObV.below O3_1.out hb); replace O6_0 := Aside0.mk (Iv.Ob.below O6_0.out hb); replace O6_1 := Aside0.mk (Iv.Ob.below O6_1.out hb); replace bx1_ := Bx.box_later bx1_ hb; replace bx2_ := Bx.box_later bx2_ hb; replace bx3_ := Bx.box_later bx3_ hb; replace bx4_ := Bx.box_later bx4_ hb; replace bx5_ := Bx.box_later bx5_ hb; replace bx6_ := Bx.box_later bx6_ hb; replace bx7_ := Bx.box_later bx7_ hb; replace bx8_ := Bx.box_later bx8_ hb; replace bx9_ := Bx.box_later bx9_ hb; replace bx10_ := Bx.box_later bx10_ hb; replace bx11_ := Bx.box_later bx11_ hb; replace bx12_ := Bx.box_later bx12_ hb; replace HB := Aside0.mk (below_step HB.out hb); clear hb))
  refine J.reg31 _ _ _ _ A0_0 A0_1 A1_0 A1_1 c0_0 c0_1 c1_0 c1_1 l0_0 l1_0 x0_0 x1_0 y0_0 l0_1 l1_1 x0_1 x1_1 y0_1 y1 k3 k4 k6 (Nat.le_of_ble_eq_true rfl) rfl rfl bx1_ bx2_ bx3_ bx4_ (Kd.C_below HR0_0.out HB.out) HC0_0.out (Kd.C_below HR0_1.out HB.out) HC0_1.out (Kd.C_below HR1_0.out HB.out) HC1_0.out (Kd.C_below HR1_1.out HB.out) HC1_1.out H3.out H4.out H6.out ?_
  intro w19 _ _ _ _ B19_0 B19_1 _ _ _ _ e19_0 e19_1 gb19 lo19 hi19 hb o0_ o1_ lo_ hi_ _ gl_ gc_
  have DW_h_ := Aside0.mk (Nat.le_trans (below_size HB.out) lo_)
  have F_PaA_h_ := Aside0.mk (Nat.lt_of_lt_of_le (Bx.box_lt bx1_) lo_)
  have F_PaB_h_ := Aside0.mk (Nat.lt_of_lt_of_le (Bx.box_lt bx3_) lo_)
  have F_w0_h_ := Aside0.mk (Nat.lt_of_lt_of_le (Bx.box_lt bx5_) lo_)
  have F_x0_h_ := Aside0.mk (Nat.lt_of_lt_of_le (Bx.box_lt bx7_) lo_)
  have F_x1_h_ := Aside0.mk (Nat.lt_of_lt_of_le (Bx.box_lt bx9_) lo_)
  have F_g0_h_ := Aside0.mk (Nat.lt_of_lt_of_le (Bx.box_lt bx11_) lo_)
  have D_w__h_ := Aside0.mk (Nat.le_trans (Iv.Ob.size O3_0.out) lo_)
  have E_w__h0 := Aside0.mk (Nat.le_trans (Iv.Ob.size O3_0.out) gl_)
  have D_g__h_ := Aside0.mk (Nat.le_trans (Iv.Ob.size O6_0.out) lo_)
  have E_g__h0 := Aside0.mk (Nat.le_trans (Iv.Ob.size O6_0.out) gl_)
  replace O3_0 := Aside0.mk (Iv.Ob.below O3_0.out hb)
  replace O3_1 := Aside0.mk (Iv.ObV.below O3_1.out hb)
  replace O6_0 := Aside0.mk (Iv.Ob.below O6_0.out hb)
  replace O6_1 := Aside0.mk (Iv.Ob.below O6_1.out hb)
  replace bx1_ := Bx.box_later bx1_ hb
  replace bx2_ := Bx.box_later bx2_ hb
  replace bx3_ := Bx.box_later bx3_ hb
  replace bx4_ := Bx.box_later bx4_ hb
  replace bx5_ := Bx.box_later bx5_ hb
  replace bx6_ := Bx.box_later bx6_ hb
  replace bx7_ := Bx.box_later bx7_ hb
  replace bx8_ := Bx.box_later bx8_ hb
  replace bx9_ := Bx.box_later bx9_ hb
  replace bx10_ := Bx.box_later bx10_ hb
  replace bx11_ := Bx.box_later bx11_ hb
  replace bx12_ := Bx.box_later bx12_ hb
  replace HB := Aside0.mk (below_step HB.out hb)
  have O19_0 := Aside0.mk o0_
  have O19_1 := Aside0.mk o1_
  clear o0_ o1_ hb
  have bx13_ : World.cell? w19 ⟨gb19, 0, none⟩ = some (.slice B19_0 (List.length y0_0) e19_0) := (blk_cell gc_ 0).trans rfl
  have bx14_ : World.cell? w19 ⟨gb19, 1, none⟩ = some (.slice B19_1 (List.length y0_1) e19_1) := (blk_cell gc_ 1).trans rfl
  clear gc_ lo_ hi_ gl_
  simp only [putSel, Act.put, if_true, List.setIfInBounds_toArray, List.set_cons_zero, List.set_cons_succ]
  go_wp2_with (first | (go_at_call 13; with_reducible refine (laws_eqRelation.calls k7 _ _ y0_0 _ _ y0_1 _ _ y0_0 _ _ y0_1 true _ ?s20_1 ?s20_2 ?s20_3 ?s20_4 ?s20_5 ?s20_6 ?s20_7 ?s20_8 H7.out).mono ?_; (case s20_1 => exact Iv.Ob.C O19_0.out); (case s20_2 => exact (Iv.Ob.le O19_0.out)); (case s20_3 => exact Iv.Ob.C O19_1.out); (case s20_4 => exact (Iv.Ob.le O19_1.out)); (case s20_5 => exact Iv.Ob.C O3_0.out); (case s20_6 => exact (Iv.Ob.le O3_0.out)); (case s20_7 => exact Iv.ObV.C O3_1.out); (case s20_8 => exact (Iv.ObV.le O3_1.out)); rintro e w20 ⟨rfl, hb⟩; replace O3_0 := Aside0.mk (Iv.Ob.below O3_0.out hb); replace O3_1 := Aside0.mk (Iv.ObV.below O3_1.out hb); replace O6_0 := Aside0.mk (Iv.Ob.below O6_0.out hb); replace O6_1 := Aside0.mk (Iv.Ob.below O6_1.out hb); replace O19_0 := Aside0.mk (Iv.Ob.below O19_0.out hb); replace O19_1 := Aside0.mk (Iv.Ob.below O19_1.out hb); replace bx1_ := Bx.box_later bx1_ hb; replace bx2_ := Bx.box_later bx2_ hb; replace bx3_ := Bx.box_later bx3_ hb; replace bx4_ := Bx.box_later bx4_ hb; replace bx5_ := Bx.box_later bx5_ hb; replace bx6_ := Bx.box_later bx6_ hb; replace bx7_ := Bx.box_later bx7_ hb; replace bx8_ := Bx.box_later bx8_ hb; replace bx9_ := Bx.box_later bx9_ hb; replace bx10_ := Bx.box_later bx10_ hb; replace bx11_ := Bx.box_later bx11_ hb; replace bx12_ := Bx.box_later bx12_ hb; replace bx13_ := Bx.box_later bx13_ hb; replace bx14_ := Bx.box_later bx14_ hb; replace HB := Aside0.mk (below_step HB.out hb); clear hb; clear O19_0; clear O19_1))
  go_wp2_with (first | (go_at_call 15; with_reducible refine Bx.calls_at ?e21_ ((laws_heldRelation.calls k10 B6_0 e6_0 (Ax.mkRelation_0 y0_0 y0_1 1) B6_1 e6_1 (Ax.mkRelation_1 y0_0 y0_1 1) 1 M3 _ ?s21_1 ?s21_2 ?s21_3 ?s21_4 H10.out).mono ?_); (case e21_ => simp only [Ax.mkIntS_length, Ax.mkOf_length]); (case s21_1 => exact Iv.Ob.C O6_0.out); (case s21_2 => exact (Iv.Ob.le O6_0.out)); (case s21_3 => exact Iv.Ob.C O6_1.out); (case s21_4 => exact (Iv.Ob.le O6_1.out)); rintro e w21 ⟨rfl, hb⟩; replace O3_0 := Aside0.mk (Iv.Ob.below O3_0.out hb); replace O3_1 := Aside0.mk (Iv.ObV.below O3_1.out hb); replace O6_0 := Aside0.mk (Iv.Ob.below O6_0.out hb); replace O6_1 := Aside0.mk (Iv.Ob.below O6_1.out hb); replace bx1_ := Bx.box_later bx1_ hb; replace bx2_ := Bx.box_later bx2_ hb; replace bx3_ := Bx.box_later bx3_ hb; replace bx4_ := Bx.box_later bx4_ hb; replace bx5_ := Bx.box_later bx5_ hb; replace bx6_ := Bx.box_later bx6_ hb; replace bx7_ := Bx.box_later bx7_ hb; replace bx8_ := Bx.box_later bx8_ hb; replace bx9_ := Bx.box_later bx9_ hb; replace bx10_ := Bx.box_later bx10_ hb; replace bx11_ := Bx.box_later bx11_ hb; replace bx12_ := Bx.box_later bx12_ hb; replace bx13_ := Bx.box_later bx13_ hb; replace bx14_ := Bx.box_later bx14_ hb; replace HB := Aside0.mk (below_step HB.out hb); clear hb))
  go_ret
  exact ⟨rfl, HB.out⟩
end Go.Proofs.Ytmimoaecdjkciaa.L
