/- The walk of the law WitnessFor, given what its callees come to: it returns true and leaves what lay ahead of it. Written by lawk.py. Conditions: the equations of the callees. -/
import Derived.Test.YtcengijoicmldaaGreatJReg
import Derived.Test.YtcengijoicmldaaGreatEToDepSA
import Derived.Test.YtcengijoicmldaaGreatPr5
import Derived.Test.YtcengijoicmldaaGreatPr6
import Derived.Test.YtcengijoicmldaaGreatPr7
import Derived.Test.YtcengijoicmldaaGreatPr9
import Derived.Test.YtcengijoicmldaaGreatMerge0
import Derived.Test.YtcengijoicmldaaGreatIv
namespace Go.Proofs.YtcengijoicmldaaGreat.L
open Go.RowKit Go.Proofs.YtcengijoicmldaaGreat Go.Proofs.YtcengijoicmldaaGreat.Pr Go.Proofs.YtcengijoicmldaaGreatW.PrintWords Go.Proofs.YtcengijoicmldaaGreatW.PrintLast Go.Proofs.YtcengijoicmldaaGreatW.PrintMore
set_option linter.unusedVariables false
set_option linter.unusedSimpArgs false
set_option maxHeartbeats 4000000 in
set_option maxRecDepth 100000 in
theorem WitnessFor_sz0 (a0 : Int) (A1 : Option Addr) (c1 : Nat) (l1 : (List S25)) (A2_0 : Option Addr) (c2_0 : Nat) (l2_0 : (List Int)) (A2_1 : Option Addr) (c2_1 : Nat) (l2_1 : (List Int)) (s1 : Int) (k1 : Nat) (w : World) (HR1 : Aside0 (Kd.C k25 w A1 l1.length l1)) (HC1 : Aside0 (l1.length ≤ c1)) (HR2_0 : Aside0 (Kd.C (Kd.int .i64) w A2_0 l2_0.length l2_0)) (HC2_0 : Aside0 (l2_0.length ≤ c2_0)) (HR2_1 : Aside0 (Kd.C (Kd.int .i64) w A2_1 l2_1.length l2_1)) (HC2_1 : Aside0 (l2_1.length ≤ c2_1)) (H1 : Aside0 (laws_szDepS.f k1 l1 1048576 = some s1)) (d0 : decide (s1 < 0) = true) :
    Calls Tryz.prog 3 #[.int .i64 a0, .slice A1 l1.length c1, .agg #[.slice A2_0 l2_0.length c2_0, .slice A2_1 l2_1.length c2_1]] w fun e w' => e = .returned (.bool true) ∧ Below w.heap.size w w' := by
  have HB := Aside0.mk (Below.refl w.heap.size w)
  have bx1_ : World.cell? (World.alloc w (.cells #[.slice A2_0 (List.length l2_0) c2_0, .slice A2_1 (List.length l2_1) c2_1] 25)) ⟨w.heap.size, 0, none⟩ = some (.slice A2_0 (List.length l2_0) c2_0) := Bx.box_new _ _ _ _ _ rfl
  have bx2_ : World.cell? (World.alloc w (.cells #[.slice A2_0 (List.length l2_0) c2_0, .slice A2_1 (List.length l2_1) c2_1] 25)) ⟨w.heap.size, 1, none⟩ = some (.slice A2_1 (List.length l2_1) c2_1) := Bx.box_new _ _ _ _ _ rfl
  have hal_ := below_alloc (Below.refl (World.heap w).size w) (.cells #[.slice A2_0 (List.length l2_0) c2_0, .slice A2_1 (List.length l2_1) c2_1] 25)
  replace HB := Aside0.mk (below_alloc HB.out (.cells #[.slice A2_0 (List.length l2_0) c2_0, .slice A2_1 (List.length l2_1) c2_1] 25))
  clear hal_
  go_enter Tryz.func3, Tryz.ntmps3
  go_wp2_with (first | (go_at_call 4; with_reducible refine (laws_szDepS.calls k1 _ _ l1 1048576 s1 _ ?s1_1 ?s1_2 H1.out).mono ?_; (case s1_1 => exact Kd.C_below HR1.out HB.out); (case s1_2 => exact HC1.out); rintro e w1 ⟨rfl, hb⟩; replace bx1_ := Bx.box_later bx1_ hb; replace bx2_ := Bx.box_later bx2_ hb; replace HB := Aside0.mk (below_step HB.out hb); clear hb))
  go_ret
  exact ⟨rfl, HB.out⟩
set_option maxHeartbeats 4000000 in
set_option maxRecDepth 100000 in
theorem WitnessFor_sz1 (a0 : Int) (A1 : Option Addr) (c1 : Nat) (l1 : (List S25)) (A2_0 : Option Addr) (c2_0 : Nat) (l2_0 : (List Int)) (A2_1 : Option Addr) (c2_1 : Nat) (l2_1 : (List Int)) (s1 : Int) (k1 : Nat) (s2 : Int) (w : World) (HR1 : Aside0 (Kd.C k25 w A1 l1.length l1)) (HC1 : Aside0 (l1.length ≤ c1)) (HR2_0 : Aside0 (Kd.C (Kd.int .i64) w A2_0 l2_0.length l2_0)) (HC2_0 : Aside0 (l2_0.length ≤ c2_0)) (HR2_1 : Aside0 (Kd.C (Kd.int .i64) w A2_1 l2_1.length l2_1)) (HC2_1 : Aside0 (l2_1.length ≤ c2_1)) (H1 : Aside0 (laws_szDepS.f k1 l1 1048576 = some s1)) (H2 : Aside0 (laws_szDep.f l2_0 l2_1 s1 = some s2)) (d0 : decide (s1 < 0) = false) (d1 : decide (s2 < 0) = true) :
    Calls Tryz.prog 3 #[.int .i64 a0, .slice A1 l1.length c1, .agg #[.slice A2_0 l2_0.length c2_0, .slice A2_1 l2_1.length c2_1]] w fun e w' => e = .returned (.bool true) ∧ Below w.heap.size w w' := by
  have HB := Aside0.mk (Below.refl w.heap.size w)
  have bx1_ : World.cell? (World.alloc w (.cells #[.slice A2_0 (List.length l2_0) c2_0, .slice A2_1 (List.length l2_1) c2_1] 25)) ⟨w.heap.size, 0, none⟩ = some (.slice A2_0 (List.length l2_0) c2_0) := Bx.box_new _ _ _ _ _ rfl
  have bx2_ : World.cell? (World.alloc w (.cells #[.slice A2_0 (List.length l2_0) c2_0, .slice A2_1 (List.length l2_1) c2_1] 25)) ⟨w.heap.size, 1, none⟩ = some (.slice A2_1 (List.length l2_1) c2_1) := Bx.box_new _ _ _ _ _ rfl
  have hal_ := below_alloc (Below.refl (World.heap w).size w) (.cells #[.slice A2_0 (List.length l2_0) c2_0, .slice A2_1 (List.length l2_1) c2_1] 25)
  replace HB := Aside0.mk (below_alloc HB.out (.cells #[.slice A2_0 (List.length l2_0) c2_0, .slice A2_1 (List.length l2_1) c2_1] 25))
  clear hal_
  go_enter Tryz.func3, Tryz.ntmps3
  go_wp2_with (first | (go_at_call 4; with_reducible refine (laws_szDepS.calls k1 _ _ l1 1048576 s1 _ ?s1_1 ?s1_2 H1.out).mono ?_; (case s1_1 => exact Kd.C_below HR1.out HB.out); (case s1_2 => exact HC1.out); rintro e w1 ⟨rfl, hb⟩; replace bx1_ := Bx.box_later bx1_ hb; replace bx2_ := Bx.box_later bx2_ hb; replace HB := Aside0.mk (below_step HB.out hb); clear hb))
  go_wp2_with (first | (go_at_call 5; with_reducible refine (laws_szDep.calls _ _ l2_0 _ _ l2_1 s1 s2 _ ?s2_1 ?s2_2 ?s2_3 ?s2_4 H2.out).mono ?_; (case s2_1 => exact Kd.C_below HR2_0.out HB.out); (case s2_2 => exact HC2_0.out); (case s2_3 => exact Kd.C_below HR2_1.out HB.out); (case s2_4 => exact HC2_1.out); rintro e w2 ⟨rfl, hb⟩; replace bx1_ := Bx.box_later bx1_ hb; replace bx2_ := Bx.box_later bx2_ hb; replace HB := Aside0.mk (below_step HB.out hb); clear hb))
  go_ret
  exact ⟨rfl, HB.out⟩
set_option maxHeartbeats 40000000 in
set_option maxRecDepth 100000 in
theorem WitnessFor (a0 : Int) (A1 : Option Addr) (c1 : Nat) (l1 : (List S25)) (A2_0 : Option Addr) (c2_0 : Nat) (l2_0 : (List Int)) (A2_1 : Option Addr) (c2_1 : Nat) (l2_1 : (List Int)) (s1 : Int) (k1 : Nat) (s2 : Int) (x1_0 : (List S35)) (x2_0 : (List Int)) (x2_1 : (List Int)) (k3 : Nat) (k4 : Nat) (y0_0 : (List Int)) (y0_1 : (List (List Int))) (y1 : Bool) (k5 : Nat) (k6 : Nat) (k7 : Nat) (k8 : Nat) (k9 : Nat) (M1 : Int) (M2 : Int) (M3 : Int) (k10 : Nat) (w : World) (HR1 : Aside0 (Kd.C k25 w A1 l1.length l1)) (HC1 : Aside0 (l1.length ≤ c1)) (HR2_0 : Aside0 (Kd.C (Kd.int .i64) w A2_0 l2_0.length l2_0)) (HC2_0 : Aside0 (l2_0.length ≤ c2_0)) (HR2_1 : Aside0 (Kd.C (Kd.int .i64) w A2_1 l2_1.length l2_1)) (HC2_1 : Aside0 (l2_1.length ≤ c2_1)) (H1 : Aside0 (laws_szDepS.f k1 l1 1048576 = some s1)) (H2 : Aside0 (laws_szDep.f l2_0 l2_1 s1 = some s2)) (H3 : Aside0 (laws_toDepS.f k3 l1 = some x1_0)) (H4 : Aside0 (laws_toDep.f k4 l2_0 l2_1 = some (x2_0, x2_1))) (H5 : Aside0 (spec_WitnessFor.f k5 a0 x1_0 x2_0 x2_1 = some (y0_0, y0_1, y1))) (H6 : Aside0 (impl_WitnessFor.f k6 a0 x1_0 x2_0 x2_1 = some (y0_0, y0_1, y1))) (H7 : Aside0 (laws_eqRelation.f k7 y0_0 y0_1 y0_0 y0_1 = some true)) (H8 : Aside0 (laws_eqDepS.f k8 x1_0 x1_0 = some true)) (H9 : Aside0 (laws_eqDep.f k9 x2_0 x2_1 x2_0 x2_1 = some true)) (H10 : Aside0 (laws_heldRelation.f k10 (Ax.mkRelation_0 y0_0 y0_1 1) (Ax.mkRelation_1 y0_0 y0_1 1) 1 = some M3)) (d0 : decide (s1 < 0) = false) (d1 : decide (s2 < 0) = false) (d2 : decide (M1 < 0) = false) (d3 : decide (M2 < 0) = false) (d4 : decide (M3 < 0) = false) (HMM10 : Aside0 ((0 : Int) ≤ 1)) (HMM11 : Aside0 ((1 : Int) + (Ax.cntDepS x1_0 : Nat) = M1 ∧ M1 < 9223372036854775807)) (HMM20 : Aside0 ((0 : Int) ≤ M1)) (HMM21 : Aside0 ((M1 : Int) + (Ax.cntDep x2_0 x2_1 : Nat) = M2 ∧ M2 < 9223372036854775807)) (HMM30 : Aside0 ((0 : Int) ≤ 1)) (HMM31 : Aside0 ((1 : Int) + (Ax.cntRelation y0_0 y0_1 : Nat) = M3 ∧ M3 < 9223372036854775807)) :
    Calls Tryz.prog 3 #[.int .i64 a0, .slice A1 l1.length c1, .agg #[.slice A2_0 l2_0.length c2_0, .slice A2_1 l2_1.length c2_1]] w fun e w' => e = .returned (.bool true) ∧ Below w.heap.size w w' := by
  have HB := Aside0.mk (Below.refl w.heap.size w)
  have bx1_ : World.cell? (World.alloc w (.cells #[.slice A2_0 (List.length l2_0) c2_0, .slice A2_1 (List.length l2_1) c2_1] 25)) ⟨w.heap.size, 0, none⟩ = some (.slice A2_0 (List.length l2_0) c2_0) := Bx.box_new _ _ _ _ _ rfl
  have bx2_ : World.cell? (World.alloc w (.cells #[.slice A2_0 (List.length l2_0) c2_0, .slice A2_1 (List.length l2_1) c2_1] 25)) ⟨w.heap.size, 1, none⟩ = some (.slice A2_1 (List.length l2_1) c2_1) := Bx.box_new _ _ _ _ _ rfl
  have hal_ := below_alloc (Below.refl (World.heap w).size w) (.cells #[.slice A2_0 (List.length l2_0) c2_0, .slice A2_1 (List.length l2_1) c2_1] 25)
  replace HB := Aside0.mk (below_alloc HB.out (.cells #[.slice A2_0 (List.length l2_0) c2_0, .slice A2_1 (List.length l2_1) c2_1] 25))
  clear hal_
  go_enter Tryz.func3, Tryz.ntmps3
  go_wp2_with (first | (go_at_call 4; with_reducible refine (laws_szDepS.calls k1 _ _ l1 1048576 s1 _ ?s1_1 ?s1_2 H1.out).mono ?_; (case s1_1 => exact Kd.C_below HR1.out HB.out); (case s1_2 => exact HC1.out); rintro e w1 ⟨rfl, hb⟩; replace bx1_ := Bx.box_later bx1_ hb; replace bx2_ := Bx.box_later bx2_ hb; replace HB := Aside0.mk (below_step HB.out hb); clear hb))
  go_wp2_with (first | (go_at_call 5; with_reducible refine (laws_szDep.calls _ _ l2_0 _ _ l2_1 s1 s2 _ ?s2_1 ?s2_2 ?s2_3 ?s2_4 H2.out).mono ?_; (case s2_1 => exact Kd.C_below HR2_0.out HB.out); (case s2_2 => exact HC2_0.out); (case s2_3 => exact Kd.C_below HR2_1.out HB.out); (case s2_4 => exact HC2_1.out); rintro e w2 ⟨rfl, hb⟩; replace bx1_ := Bx.box_later bx1_ hb; replace bx2_ := Bx.box_later bx2_ hb; replace HB := Aside0.mk (below_step HB.out hb); clear hb))
  refine J.reg8 _ _ _ a0 A1 A2_0 A2_1 c1 c2_0 c2_1 l1 x1_0 l2_0 l2_1 x2_0 x2_1 y0_0 y0_1 y1 k3 k4 k5 (Nat.le_of_ble_eq_true rfl) rfl rfl rfl bx1_ bx2_ (Kd.C_below HR1.out HB.out) HC1.out (Kd.C_below HR2_0.out HB.out) HC2_0.out (Kd.C_below HR2_1.out HB.out) HC2_1.out H3.out H4.out H5.out ?_
  intro w3 _ _ _ B3_0 B3_1 _ _ _ e3_0 e3_1 gb3 lo3 hi3 hb o0_ o1_ lo_ hi_ _ gl_ gc_
  have DW_w_ := Aside0.mk (Nat.le_trans (below_size HB.out) lo_)
  have F_PaD_w_ := Aside0.mk (Nat.lt_of_lt_of_le (Bx.box_lt bx1_) lo_)
  replace bx1_ := Bx.box_later bx1_ hb
  replace bx2_ := Bx.box_later bx2_ hb
  replace HB := Aside0.mk (below_step HB.out hb)
  have O3_0 := Aside0.mk o0_
  have O3_1 := Aside0.mk (show Iv.ObV (Kd.slice 3 (Kd.int .i64)) 23 w3 hi3 _ _ from ⟨Kd.V_mono (Kd.V_lower o1_ (Nat.zero_le _)) (fun _ h_ => h_.2), hi_⟩)
  clear o0_ o1_ hb
  have bx3_ : World.cell? w3 ⟨gb3, 0, none⟩ = some (.slice B3_0 (List.length y0_0) e3_0) := (blk_cell gc_ 0).trans rfl
  have bx4_ : World.cell? w3 ⟨gb3, 1, none⟩ = some (.slice B3_1 (List.length y0_1) e3_1) := (blk_cell gc_ 1).trans rfl
  clear gc_ lo_ hi_ gl_
  simp only [putSel, Act.put, if_true, List.setIfInBounds_toArray, List.set_cons_zero, List.set_cons_succ]
  go_wp2_with (first | (go_at_call 7; with_reducible refine (laws_toDepSA.calls k3 _ _ l1 x1_0 _ ?s4_1 ?s4_2 H3.out).mono ?_; (case s4_1 => exact Kd.C_below HR1.out HB.out); (case s4_2 => exact HC1.out); rintro e w4 ⟨v4_0, rfl, ho0, hb⟩; have new_ : ∃ lo4 hi4 : Nat, Iv.Ob kA 35 w4 lo4 hi4 (fun k_ => True) v4_0 x1_0 ∧ w.heap.size ≤ lo4 ∧ w.heap.size < lo4 ∧ gb3 < lo4 ∧ hi3 ≤ lo4 := ⟨_, _, Iv.Ob.of_S ho0 (fun _ h_ => trivial), (below_size HB.out), (Bx.box_lt bx1_), (Bx.box_lt bx3_), (Iv.Ob.size O3_0.out)⟩; obtain ⟨lo4, hi4, o0_, d_w, f_PaD, f_w0, d_w_⟩ := new_; replace O3_0 := Aside0.mk (Iv.Ob.below O3_0.out hb); replace O3_1 := Aside0.mk (Iv.ObV.below O3_1.out hb); replace bx1_ := Bx.box_later bx1_ hb; replace bx2_ := Bx.box_later bx2_ hb; replace bx3_ := Bx.box_later bx3_ hb; replace bx4_ := Bx.box_later bx4_ hb; replace HB := Aside0.mk (below_step HB.out hb); clear hb ho0; obtain ⟨B4_0, e4_0, rfl⟩ := Iv.Ob.slice o0_; have O4_0 := Aside0.mk o0_; clear o0_; have DW_x1 := Aside0.mk d_w; clear d_w; have D_w__x1 := Aside0.mk d_w_; clear d_w_; have F_PaD_x1 := Aside0.mk f_PaD; clear f_PaD; have F_w0_x1 := Aside0.mk f_w0; clear f_w0))
  go_wp2_with (first | (go_at_call 8; with_reducible refine (laws_toDep.calls k4 _ _ l2_0 _ _ l2_1 x2_0 x2_1 _ ?s5_1 ?s5_2 ?s5_3 ?s5_4 H4.out).mono ?_; (case s5_1 => exact Kd.C_below HR2_0.out HB.out); (case s5_2 => exact HC2_0.out); (case s5_3 => exact Kd.C_below HR2_1.out HB.out); (case s5_4 => exact HC2_1.out); rintro e w5 ⟨v5_0, v5_1, rfl, ho0, ho1, hb⟩; have new_ : ∃ lo5 hi5 : Nat, Iv.Ob (Kd.int .i64) 3 w5 lo5 hi5 (fun k_ => some k_ ≠ (v5_1 : Value).ownBlock) v5_0 x2_0 ∧ Iv.Ob (Kd.int .i64) 3 w5 lo5 hi5 (fun k_ => some k_ ≠ (v5_0 : Value).ownBlock) v5_1 x2_1 ∧ w.heap.size ≤ lo5 ∧ w.heap.size < lo5 ∧ gb3 < lo5 ∧ hi3 ≤ lo5 ∧ hi4 ≤ lo5 := ⟨_, _, Iv.Ob.of_Rint ho0 (fun _ h_ => h_), Iv.Ob.of_Rint ho1 (fun _ h_ => h_), (below_size HB.out), (Bx.box_lt bx1_), (Bx.box_lt bx3_), (Iv.Ob.size O3_0.out), (Iv.Ob.size O4_0.out)⟩; obtain ⟨lo5, hi5, o0_, o1_, d_w, f_PaD, f_w0, d_w_, d_x1⟩ := new_; replace O3_0 := Aside0.mk (Iv.Ob.below O3_0.out hb); replace O3_1 := Aside0.mk (Iv.ObV.below O3_1.out hb); replace O4_0 := Aside0.mk (Iv.Ob.below O4_0.out hb); replace bx1_ := Bx.box_later bx1_ hb; replace bx2_ := Bx.box_later bx2_ hb; replace bx3_ := Bx.box_later bx3_ hb; replace bx4_ := Bx.box_later bx4_ hb; replace HB := Aside0.mk (below_step HB.out hb); clear hb ho0 ho1; obtain ⟨B5_0, e5_0, rfl⟩ := Iv.Ob.slice o0_; have O5_0 := Aside0.mk o0_; clear o0_; obtain ⟨B5_1, e5_1, rfl⟩ := Iv.Ob.slice o1_; have O5_1 := Aside0.mk o1_; clear o1_; have DW_x2 := Aside0.mk d_w; clear d_w; have D_w__x2 := Aside0.mk d_w_; clear d_w_; have D_x1_x2 := Aside0.mk d_x1; clear d_x1; have F_PaD_x2 := Aside0.mk f_PaD; clear f_PaD; have F_w0_x2 := Aside0.mk f_w0; clear f_w0; have E_w__x2 : Aside0 (hi3 ≤ w5.heap.size) := Aside0.mk (Iv.Ob.size (w := w5) O3_0.out); have E_x1_x2 : Aside0 (hi4 ≤ w5.heap.size) := Aside0.mk (Iv.Ob.size (w := w5) O4_0.out); have E_x2_x2 : Aside0 (hi5 ≤ w5.heap.size) := Aside0.mk (Iv.Ob.size (w := w5) O5_0.out); have bx5_ : World.cell? (World.alloc w5 (.cells #[.slice B5_0 (List.length x2_0) e5_0, .slice B5_1 (List.length x2_1) e5_1] 35)) ⟨w5.heap.size, 0, none⟩ = some (.slice B5_0 (List.length x2_0) e5_0) := Bx.box_new _ _ _ _ _ rfl; have bx6_ : World.cell? (World.alloc w5 (.cells #[.slice B5_0 (List.length x2_0) e5_0, .slice B5_1 (List.length x2_1) e5_1] 35)) ⟨w5.heap.size, 1, none⟩ = some (.slice B5_1 (List.length x2_1) e5_1) := Bx.box_new _ _ _ _ _ rfl; have hal_ := below_alloc (Below.refl (World.heap w5).size w5) (.cells #[.slice B5_0 (List.length x2_0) e5_0, .slice B5_1 (List.length x2_1) e5_1] 35); replace bx1_ := Bx.box_later bx1_ hal_; replace bx2_ := Bx.box_later bx2_ hal_; replace bx3_ := Bx.box_later bx3_ hal_; replace bx4_ := Bx.box_later bx4_ hal_; replace O3_0 := Aside0.mk (Iv.Ob.below O3_0.out hal_); replace O3_1 := Aside0.mk (Iv.ObV.below O3_1.out hal_); replace O4_0 := Aside0.mk (Iv.Ob.below O4_0.out hal_); replace O5_0 := Aside0.mk (Iv.Ob.below O5_0.out hal_); replace O5_1 := Aside0.mk (Iv.Ob.below O5_1.out hal_); replace HB := Aside0.mk (below_alloc HB.out (.cells #[.slice B5_0 (List.length x2_0) e5_0, .slice B5_1 (List.length x2_1) e5_1] 35)); clear hal_))
  go_wp2_with (first | (go_at_call 9; with_reducible refine (impl_WitnessFor.calls k6 a0 _ _ x1_0 _ _ x2_0 _ _ x2_1 y0_0 y0_1 y1 _ ?s6_1 ?s6_2 ?s6_3 ?s6_4 ?s6_5 ?s6_6 H6.out).mono ?_; (case s6_1 => exact kA_C (Iv.Ob.C O4_0.out)); (case s6_2 => exact (Iv.Ob.le O4_0.out)); (case s6_3 => exact Iv.Ob.C O5_0.out); (case s6_4 => exact (Iv.Ob.le O5_0.out)); (case s6_5 => exact Iv.Ob.C O5_1.out); (case s6_6 => exact (Iv.Ob.le O5_1.out)); rintro e w6 ⟨v6_0, v6_1, rfl, ho0, ho1, hb⟩; have new_ : ∃ lo6 hi6 : Nat, Iv.Ob (Kd.int .i64) 3 w6 lo6 hi6 (fun k_ => True) v6_0 y0_0 ∧ Iv.Ob (Kd.slice 3 (Kd.int .i64)) 23 w6 lo6 hi6 (fun k_ => some k_ ≠ (v6_0 : Value).ownBlock) v6_1 y0_1 ∧ w.heap.size ≤ lo6 ∧ w.heap.size < lo6 ∧ gb3 < lo6 ∧ w5.heap.size < lo6 ∧ hi3 ≤ lo6 ∧ hi4 ≤ lo6 ∧ hi5 ≤ lo6 := ⟨_, _, Iv.Ob.of_Rint ho0 (fun _ h_ => trivial), Iv.Ob.of_S ho1 (fun _ h_ => h_), (below_size HB.out), (Bx.box_lt bx1_), (Bx.box_lt bx3_), (Bx.box_lt bx5_), (Iv.Ob.size O3_0.out), (Iv.Ob.size O4_0.out), (Iv.Ob.size O5_0.out)⟩; obtain ⟨lo6, hi6, o0_, o1_, d_w, f_PaD, f_w0, f_x2, d_w_, d_x1, d_x2⟩ := new_; replace O3_0 := Aside0.mk (Iv.Ob.below O3_0.out hb); replace O3_1 := Aside0.mk (Iv.ObV.below O3_1.out hb); replace O4_0 := Aside0.mk (Iv.Ob.below O4_0.out hb); replace O5_0 := Aside0.mk (Iv.Ob.below O5_0.out hb); replace O5_1 := Aside0.mk (Iv.Ob.below O5_1.out hb); replace bx1_ := Bx.box_later bx1_ hb; replace bx2_ := Bx.box_later bx2_ hb; replace bx3_ := Bx.box_later bx3_ hb; replace bx4_ := Bx.box_later bx4_ hb; replace bx5_ := Bx.box_later bx5_ hb; replace bx6_ := Bx.box_later bx6_ hb; replace HB := Aside0.mk (below_step HB.out hb); clear hb ho0 ho1; obtain ⟨B6_0, e6_0, rfl⟩ := Iv.Ob.slice o0_; have O6_0 := Aside0.mk o0_; clear o0_; obtain ⟨B6_1, e6_1, rfl⟩ := Iv.Ob.slice o1_; have O6_1 := Aside0.mk o1_; clear o1_; have DW_g_ := Aside0.mk d_w; clear d_w; have D_w__g_ := Aside0.mk d_w_; clear d_w_; have D_x1_g_ := Aside0.mk d_x1; clear d_x1; have D_x2_g_ := Aside0.mk d_x2; clear d_x2; have F_PaD_g_ := Aside0.mk f_PaD; clear f_PaD; have F_w0_g_ := Aside0.mk f_w0; clear f_w0; have F_x2_g_ := Aside0.mk f_x2; clear f_x2; have E_w__g0 : Aside0 (hi3 ≤ w6.heap.size) := Aside0.mk (Iv.Ob.size (w := w6) O3_0.out); have E_x1_g0 : Aside0 (hi4 ≤ w6.heap.size) := Aside0.mk (Iv.Ob.size (w := w6) O4_0.out); have E_x2_g0 : Aside0 (hi5 ≤ w6.heap.size) := Aside0.mk (Iv.Ob.size (w := w6) O5_0.out); have E_g__g0 : Aside0 (hi6 ≤ w6.heap.size) := Aside0.mk (Iv.Ob.size (w := w6) O6_0.out); have bx7_ : World.cell? (World.alloc w6 (.cells #[.slice B6_0 (List.length y0_0) e6_0, .slice B6_1 (List.length y0_1) e6_1] 30)) ⟨w6.heap.size, 0, none⟩ = some (.slice B6_0 (List.length y0_0) e6_0) := Bx.box_new _ _ _ _ _ rfl; have bx8_ : World.cell? (World.alloc w6 (.cells #[.slice B6_0 (List.length y0_0) e6_0, .slice B6_1 (List.length y0_1) e6_1] 30)) ⟨w6.heap.size, 1, none⟩ = some (.slice B6_1 (List.length y0_1) e6_1) := Bx.box_new _ _ _ _ _ rfl; have hal_ := below_alloc (Below.refl (World.heap w6).size w6) (.cells #[.slice B6_0 (List.length y0_0) e6_0, .slice B6_1 (List.length y0_1) e6_1] 30); replace bx1_ := Bx.box_later bx1_ hal_; replace bx2_ := Bx.box_later bx2_ hal_; replace bx3_ := Bx.box_later bx3_ hal_; replace bx4_ := Bx.box_later bx4_ hal_; replace bx5_ := Bx.box_later bx5_ hal_; replace bx6_ := Bx.box_later bx6_ hal_; replace O3_0 := Aside0.mk (Iv.Ob.below O3_0.out hal_); replace O3_1 := Aside0.mk (Iv.ObV.below O3_1.out hal_); replace O4_0 := Aside0.mk (Iv.Ob.below O4_0.out hal_); replace O5_0 := Aside0.mk (Iv.Ob.below O5_0.out hal_); replace O5_1 := Aside0.mk (Iv.Ob.below O5_1.out hal_); replace O6_0 := Aside0.mk (Iv.Ob.below O6_0.out hal_); replace O6_1 := Aside0.mk (Iv.Ob.below O6_1.out hal_); replace HB := Aside0.mk (below_alloc HB.out (.cells #[.slice B6_0 (List.length y0_0) e6_0, .slice B6_1 (List.length y0_1) e6_1] 30)); clear hal_))
  go_wp2_with (first | (go_at_call 10; with_reducible refine (laws_eqRelation.calls k7 _ _ y0_0 _ _ y0_1 _ _ y0_0 _ _ y0_1 true _ ?s7_1 ?s7_2 ?s7_3 ?s7_4 ?s7_5 ?s7_6 ?s7_7 ?s7_8 H7.out).mono ?_; (case s7_1 => exact Iv.Ob.C O6_0.out); (case s7_2 => exact (Iv.Ob.le O6_0.out)); (case s7_3 => exact Iv.Ob.C O6_1.out); (case s7_4 => exact (Iv.Ob.le O6_1.out)); (case s7_5 => exact Iv.Ob.C O3_0.out); (case s7_6 => exact (Iv.Ob.le O3_0.out)); (case s7_7 => exact Iv.ObV.C O3_1.out); (case s7_8 => exact (Iv.ObV.le O3_1.out)); rintro e w7 ⟨rfl, hb⟩; replace O3_0 := Aside0.mk (Iv.Ob.below O3_0.out hb); replace O3_1 := Aside0.mk (Iv.ObV.below O3_1.out hb); replace O4_0 := Aside0.mk (Iv.Ob.below O4_0.out hb); replace O5_0 := Aside0.mk (Iv.Ob.below O5_0.out hb); replace O5_1 := Aside0.mk (Iv.Ob.below O5_1.out hb); replace O6_0 := Aside0.mk (Iv.Ob.below O6_0.out hb); replace O6_1 := Aside0.mk (Iv.Ob.below O6_1.out hb); replace bx1_ := Bx.box_later bx1_ hb; replace bx2_ := Bx.box_later bx2_ hb; replace bx3_ := Bx.box_later bx3_ hb; replace bx4_ := Bx.box_later bx4_ hb; replace bx5_ := Bx.box_later bx5_ hb; replace bx6_ := Bx.box_later bx6_ hb; replace bx7_ := Bx.box_later bx7_ hb; replace bx8_ := Bx.box_later bx8_ hb; replace HB := Aside0.mk (below_step HB.out hb); clear hb))
  go_wp2_with (first | (go_at_call 7; with_reducible refine (laws_toDepSA.calls k3 _ _ l1 x1_0 _ ?s8_1 ?s8_2 H3.out).mono ?_; (case s8_1 => exact Kd.C_below HR1.out HB.out); (case s8_2 => exact HC1.out); rintro e w8 ⟨v8_0, rfl, ho0, hb⟩; have new_ : ∃ lo8 hi8 : Nat, Iv.Ob kA 35 w8 lo8 hi8 (fun k_ => True) v8_0 x1_0 ∧ w.heap.size ≤ lo8 ∧ w.heap.size < lo8 ∧ gb3 < lo8 ∧ w5.heap.size < lo8 ∧ w6.heap.size < lo8 ∧ hi3 ≤ lo8 ∧ hi4 ≤ lo8 ∧ hi5 ≤ lo8 ∧ hi6 ≤ lo8 := ⟨_, _, Iv.Ob.of_S ho0 (fun _ h_ => trivial), (below_size HB.out), (Bx.box_lt bx1_), (Bx.box_lt bx3_), (Bx.box_lt bx5_), (Bx.box_lt bx7_), (Iv.Ob.size O3_0.out), (Iv.Ob.size O4_0.out), (Iv.Ob.size O5_0.out), (Iv.Ob.size O6_0.out)⟩; obtain ⟨lo8, hi8, o0_, d_w, f_PaD, f_w0, f_x2, f_g0, d_w_, d_x1, d_x2, d_g_⟩ := new_; replace O3_0 := Aside0.mk (Iv.Ob.below O3_0.out hb); replace O3_1 := Aside0.mk (Iv.ObV.below O3_1.out hb); replace O4_0 := Aside0.mk (Iv.Ob.below O4_0.out hb); replace O5_0 := Aside0.mk (Iv.Ob.below O5_0.out hb); replace O5_1 := Aside0.mk (Iv.Ob.below O5_1.out hb); replace O6_0 := Aside0.mk (Iv.Ob.below O6_0.out hb); replace O6_1 := Aside0.mk (Iv.Ob.below O6_1.out hb); replace bx1_ := Bx.box_later bx1_ hb; replace bx2_ := Bx.box_later bx2_ hb; replace bx3_ := Bx.box_later bx3_ hb; replace bx4_ := Bx.box_later bx4_ hb; replace bx5_ := Bx.box_later bx5_ hb; replace bx6_ := Bx.box_later bx6_ hb; replace bx7_ := Bx.box_later bx7_ hb; replace bx8_ := Bx.box_later bx8_ hb; replace HB := Aside0.mk (below_step HB.out hb); clear hb ho0; obtain ⟨B8_0, e8_0, rfl⟩ := Iv.Ob.slice o0_; have O8_0 := Aside0.mk o0_; clear o0_; have DW_t8 := Aside0.mk d_w; clear d_w; have D_w__t8 := Aside0.mk d_w_; clear d_w_; have D_x1_t8 := Aside0.mk d_x1; clear d_x1; have D_x2_t8 := Aside0.mk d_x2; clear d_x2; have D_g__t8 := Aside0.mk d_g_; clear d_g_; have F_PaD_t8 := Aside0.mk f_PaD; clear f_PaD; have F_w0_t8 := Aside0.mk f_w0; clear f_w0; have F_x2_t8 := Aside0.mk f_x2; clear f_x2; have F_g0_t8 := Aside0.mk f_g0; clear f_g0))
  go_wp2_with (first | (go_at_call 11; with_reducible refine (laws_eqDepS.calls k8 _ _ x1_0 _ _ x1_0 true _ ?s9_1 ?s9_2 ?s9_3 ?s9_4 H8.out).mono ?_; (case s9_1 => exact kA_C (Iv.Ob.C O4_0.out)); (case s9_2 => exact (Iv.Ob.le O4_0.out)); (case s9_3 => exact kA_C (Iv.Ob.C O8_0.out)); (case s9_4 => exact (Iv.Ob.le O8_0.out)); rintro e w9 ⟨rfl, hb⟩; replace O3_0 := Aside0.mk (Iv.Ob.below O3_0.out hb); replace O3_1 := Aside0.mk (Iv.ObV.below O3_1.out hb); replace O4_0 := Aside0.mk (Iv.Ob.below O4_0.out hb); replace O5_0 := Aside0.mk (Iv.Ob.below O5_0.out hb); replace O5_1 := Aside0.mk (Iv.Ob.below O5_1.out hb); replace O6_0 := Aside0.mk (Iv.Ob.below O6_0.out hb); replace O6_1 := Aside0.mk (Iv.Ob.below O6_1.out hb); replace O8_0 := Aside0.mk (Iv.Ob.below O8_0.out hb); replace bx1_ := Bx.box_later bx1_ hb; replace bx2_ := Bx.box_later bx2_ hb; replace bx3_ := Bx.box_later bx3_ hb; replace bx4_ := Bx.box_later bx4_ hb; replace bx5_ := Bx.box_later bx5_ hb; replace bx6_ := Bx.box_later bx6_ hb; replace bx7_ := Bx.box_later bx7_ hb; replace bx8_ := Bx.box_later bx8_ hb; replace HB := Aside0.mk (below_step HB.out hb); clear hb; clear O8_0))
  refine Bx.start_any (n := 5) (S := fun w_ => World.cell? w_ ⟨w.heap.size, 0, none⟩ = some (.slice A2_0 (List.length l2_0) c2_0) ∧ World.cell? w_ ⟨w.heap.size, 1, none⟩ = some (.slice A2_1 (List.length l2_1) c2_1) ∧ World.cell? w_ ⟨gb3, 0, none⟩ = some (.slice B3_0 (List.length y0_0) e3_0) ∧ World.cell? w_ ⟨gb3, 1, none⟩ = some (.slice B3_1 (List.length y0_1) e3_1) ∧ World.cell? w_ ⟨w5.heap.size, 0, none⟩ = some (.slice B5_0 (List.length x2_0) e5_0) ∧ World.cell? w_ ⟨w5.heap.size, 1, none⟩ = some (.slice B5_1 (List.length x2_1) e5_1) ∧ World.cell? w_ ⟨w6.heap.size, 0, none⟩ = some (.slice B6_0 (List.length y0_0) e6_0) ∧ World.cell? w_ ⟨w6.heap.size, 1, none⟩ = some (.slice B6_1 (List.length y0_1) e6_1)) (ds := []) #[false, false, false, false, false] (by kernel_rfl) rfl rfl ⟨bx1_, bx2_, bx3_, bx4_, bx5_, bx6_, bx7_, bx8_⟩ (fun w10 hb hHeld => ?_)
  replace O3_0 := Aside0.mk (Iv.Ob.below O3_0.out hb)
  replace O3_1 := Aside0.mk (Iv.ObV.below O3_1.out hb)
  replace O4_0 := Aside0.mk (Iv.Ob.below O4_0.out hb)
  replace O5_0 := Aside0.mk (Iv.Ob.below O5_0.out hb)
  replace O5_1 := Aside0.mk (Iv.Ob.below O5_1.out hb)
  replace O6_0 := Aside0.mk (Iv.Ob.below O6_0.out hb)
  replace O6_1 := Aside0.mk (Iv.Ob.below O6_1.out hb)
  replace bx1_ := Bx.box_later bx1_ hb
  replace bx2_ := Bx.box_later bx2_ hb
  replace bx3_ := Bx.box_later bx3_ hb
  replace bx4_ := Bx.box_later bx4_ hb
  replace bx5_ := Bx.box_later bx5_ hb
  replace bx6_ := Bx.box_later bx6_ hb
  replace bx7_ := Bx.box_later bx7_ hb
  replace bx8_ := Bx.box_later bx8_ hb
  replace HB := Aside0.mk (below_step HB.out hb)
  clear hb
  refine take_ (i := 0) (N := some 63) (v := ?_) (a' := ?_) #[true, false, false, false, false] rfl rfl (by kernel_rfl) (fun _ _ _ h => h) (Or.inl ⟨by rfl, ?_⟩) hHeld ?_ ?_
  rotate_left
  · rintro w' ⟨s0_, s1_, s2_, s3_, s4_, s5_, s6_, s7_⟩
    go_simp
    with_reducible rfl
  rotate_left
  · simp only [Act.put, List.setIfInBounds_toArray, List.set_cons_zero, List.set_cons_succ, i64_w, i32_w]
    rfl
  refine take_ (i := 1) (N := some 64) (v := ?_) (a' := ?_) #[true, true, false, false, false] rfl rfl (by kernel_rfl) (fun _ _ _ h => h) (Or.inl ⟨by rfl, ?_⟩) hHeld ?_ ?_
  rotate_left
  · rintro w' ⟨s0_, s1_, s2_, s3_, s4_, s5_, s6_, s7_⟩
    go_simp
    with_reducible rfl
  rotate_left
  · simp only [Act.put, List.setIfInBounds_toArray, List.set_cons_zero, List.set_cons_succ, i64_w, i32_w]
    rfl
  refine one_ (i := 2) (N := some 65) #[true, true, true, false, false] rfl rfl (by kernel_rfl) (by decide) (fun K hK => ?_)
  refine goes_ Tryz.func8 (by kernel_rfl) rfl #[.agg #[.slice A2_0 l2_0.length c2_0, .slice A2_1 l2_1.length c2_1]] (by rfl) rfl rfl (by (try simp only [List.map_toArray, List.map_cons, List.map_nil]); first | done | rfl | (simp only [List.length_drop, List.length_take]; rfl)) ?_
  with_reducible refine (laws_toDep.calls k4 _ _ l2_0 _ _ l2_1 x2_0 x2_1 _ ?s11_1 ?s11_2 ?s11_3 ?s11_4 H4.out).mono ?_
  (case s11_1 => exact Kd.C_below HR2_0.out HB.out)
  (case s11_2 => exact HC2_0.out)
  (case s11_3 => exact Kd.C_below HR2_1.out HB.out)
  (case s11_4 => exact HC2_1.out)
  rintro e w11 ⟨v11_0, v11_1, rfl, ho0, ho1, hb⟩
  refine ⟨_, rfl, ?_⟩
  have new_ : ∃ lo11 hi11 : Nat, Iv.Ob (Kd.int .i64) 3 w11 lo11 hi11 (fun k_ => some k_ ≠ (v11_1 : Value).ownBlock) v11_0 x2_0 ∧ Iv.Ob (Kd.int .i64) 3 w11 lo11 hi11 (fun k_ => some k_ ≠ (v11_0 : Value).ownBlock) v11_1 x2_1 ∧ w.heap.size ≤ lo11 ∧ w.heap.size < lo11 ∧ gb3 < lo11 ∧ w5.heap.size < lo11 ∧ w6.heap.size < lo11 ∧ hi3 ≤ lo11 ∧ hi4 ≤ lo11 ∧ hi5 ≤ lo11 ∧ hi6 ≤ lo11 := ⟨_, _, Iv.Ob.of_Rint ho0 (fun _ h_ => h_), Iv.Ob.of_Rint ho1 (fun _ h_ => h_), (below_size HB.out), (Bx.box_lt bx1_), (Bx.box_lt bx3_), (Bx.box_lt bx5_), (Bx.box_lt bx7_), (Iv.Ob.size O3_0.out), (Iv.Ob.size O4_0.out), (Iv.Ob.size O5_0.out), (Iv.Ob.size O6_0.out)⟩
  obtain ⟨lo11, hi11, o0_, o1_, d_w, f_PaD, f_w0, f_x2, f_g0, d_w_, d_x1, d_x2, d_g_⟩ := new_
  replace O3_0 := Aside0.mk (Iv.Ob.below O3_0.out hb)
  replace O3_1 := Aside0.mk (Iv.ObV.below O3_1.out hb)
  replace O4_0 := Aside0.mk (Iv.Ob.below O4_0.out hb)
  replace O5_0 := Aside0.mk (Iv.Ob.below O5_0.out hb)
  replace O5_1 := Aside0.mk (Iv.Ob.below O5_1.out hb)
  replace O6_0 := Aside0.mk (Iv.Ob.below O6_0.out hb)
  replace O6_1 := Aside0.mk (Iv.Ob.below O6_1.out hb)
  replace bx1_ := Bx.box_later bx1_ hb
  replace bx2_ := Bx.box_later bx2_ hb
  replace bx3_ := Bx.box_later bx3_ hb
  replace bx4_ := Bx.box_later bx4_ hb
  replace bx5_ := Bx.box_later bx5_ hb
  replace bx6_ := Bx.box_later bx6_ hb
  replace bx7_ := Bx.box_later bx7_ hb
  replace bx8_ := Bx.box_later bx8_ hb
  replace HB := Aside0.mk (below_step HB.out hb)
  clear hb ho0 ho1
  obtain ⟨B11_0, e11_0, rfl⟩ := Iv.Ob.slice o0_
  have O11_0 := Aside0.mk o0_
  clear o0_
  obtain ⟨B11_1, e11_1, rfl⟩ := Iv.Ob.slice o1_
  have O11_1 := Aside0.mk o1_
  clear o1_
  have DW_t11 := Aside0.mk d_w
  clear d_w
  have D_w__t11 := Aside0.mk d_w_
  clear d_w_
  have D_x1_t11 := Aside0.mk d_x1
  clear d_x1
  have D_x2_t11 := Aside0.mk d_x2
  clear d_x2
  have D_g__t11 := Aside0.mk d_g_
  clear d_g_
  have F_PaD_t11 := Aside0.mk f_PaD
  clear f_PaD
  have F_w0_t11 := Aside0.mk f_w0
  clear f_w0
  have F_x2_t11 := Aside0.mk f_x2
  clear f_x2
  have F_g0_t11 := Aside0.mk f_g0
  clear f_g0
  refine hK.out _ _ ⟨bx1_, bx2_, bx3_, bx4_, bx5_, bx6_, bx7_, bx8_⟩ (fun hHeld => ?_)
  clear hK K
  refine norm_ (a' := ?_) ?_ ?_
  rotate_left
  · show Act.put _ (some 65) _ = _
    simp only [Act.put, List.setIfInBounds_toArray, List.set_cons_zero, List.set_cons_succ, i64_w, i32_w]
    rfl
  refine one_ (i := 3) (N := some 66) #[true, true, true, true, false] rfl rfl (by kernel_rfl) (by decide) (fun K hK => ?_)
  refine goes_ Tryz.func12 (by kernel_rfl) rfl #[.agg #[.slice B5_0 (List.length x2_0) e5_0, .slice B5_1 (List.length x2_1) e5_1], .agg #[.slice B11_0 (List.length x2_0) e11_0, .slice B11_1 (List.length x2_1) e11_1]] (by rfl) rfl rfl (by (try simp only [List.map_toArray, List.map_cons, List.map_nil]); first | done | rfl | (simp only [List.length_drop, List.length_take]; rfl)) ?_
  with_reducible refine (laws_eqDep.calls k9 _ _ x2_0 _ _ x2_1 _ _ x2_0 _ _ x2_1 true _ ?s12_1 ?s12_2 ?s12_3 ?s12_4 ?s12_5 ?s12_6 ?s12_7 ?s12_8 H9.out).mono ?_
  (case s12_1 => exact Iv.Ob.C O5_0.out)
  (case s12_2 => exact (Iv.Ob.le O5_0.out))
  (case s12_3 => exact Iv.Ob.C O5_1.out)
  (case s12_4 => exact (Iv.Ob.le O5_1.out))
  (case s12_5 => exact Iv.Ob.C O11_0.out)
  (case s12_6 => exact (Iv.Ob.le O11_0.out))
  (case s12_7 => exact Iv.Ob.C O11_1.out)
  (case s12_8 => exact (Iv.Ob.le O11_1.out))
  rintro e w12 ⟨rfl, hb⟩
  refine ⟨_, rfl, ?_⟩
  replace O3_0 := Aside0.mk (Iv.Ob.below O3_0.out hb)
  replace O3_1 := Aside0.mk (Iv.ObV.below O3_1.out hb)
  replace O4_0 := Aside0.mk (Iv.Ob.below O4_0.out hb)
  replace O5_0 := Aside0.mk (Iv.Ob.below O5_0.out hb)
  replace O5_1 := Aside0.mk (Iv.Ob.below O5_1.out hb)
  replace O6_0 := Aside0.mk (Iv.Ob.below O6_0.out hb)
  replace O6_1 := Aside0.mk (Iv.Ob.below O6_1.out hb)
  replace O11_0 := Aside0.mk (Iv.Ob.below O11_0.out hb)
  replace O11_1 := Aside0.mk (Iv.Ob.below O11_1.out hb)
  replace bx1_ := Bx.box_later bx1_ hb
  replace bx2_ := Bx.box_later bx2_ hb
  replace bx3_ := Bx.box_later bx3_ hb
  replace bx4_ := Bx.box_later bx4_ hb
  replace bx5_ := Bx.box_later bx5_ hb
  replace bx6_ := Bx.box_later bx6_ hb
  replace bx7_ := Bx.box_later bx7_ hb
  replace bx8_ := Bx.box_later bx8_ hb
  replace HB := Aside0.mk (below_step HB.out hb)
  clear hb
  refine hK.out _ _ ⟨bx1_, bx2_, bx3_, bx4_, bx5_, bx6_, bx7_, bx8_⟩ (fun hHeld => ?_)
  clear hK K
  refine norm_ (a' := ?_) ?_ ?_
  rotate_left
  · show Act.put _ (some 66) _ = _
    simp only [Act.put, List.setIfInBounds_toArray, List.set_cons_zero, List.set_cons_succ, i64_w, i32_w]
    rfl
  clear O11_0
  clear O11_1
  refine pure_ (i := 4) (N := some 67) (v := ?_) (a' := ?_) #[true, true, true, true, true] rfl rfl (by kernel_rfl) (fun _ _ _ h => h) (Or.inl ⟨by rfl, ?_⟩) ?_ ?_
  rotate_left
  · intro w'
    go_simp
    with_reducible rfl
  rotate_left
  · simp only [Act.put, List.setIfInBounds_toArray, List.set_cons_zero, List.set_cons_succ, i64_w, i32_w]
    rfl
  refine done_ (by kernel_rfl) ?_
  go_wp2_with (first | (go_at_call 13; with_reducible refine (Mk.markDepS w _ lo4 hi4 1 M1 _ x1_0 HB.out DW_x1.out O4_0.out HMM10.out HMM11.out).mono ?_; rintro e w13 ⟨rfl, mk0, hb, hk⟩; replace O3_0 := Aside0.mk (Iv.Ob.kept O3_0.out hk (by have h1_ := D_w__x1.out; omega)); replace O3_1 := Aside0.mk (Iv.ObV.kept O3_1.out hk (by have h1_ := D_w__x1.out; omega)); replace O5_0 := Aside0.mk (Iv.Ob.kept O5_0.out hk (by have h1_ := D_x1_x2.out; omega)); replace O5_1 := Aside0.mk (Iv.Ob.kept O5_1.out hk (by have h1_ := D_x1_x2.out; omega)); replace O6_0 := Aside0.mk (Iv.Ob.kept O6_0.out hk (by have h1_ := D_x1_g_.out; omega)); replace O6_1 := Aside0.mk (Iv.Ob.kept O6_1.out hk (by have h1_ := D_x1_g_.out; omega)); replace bx1_ := Bx.box_kept bx1_ hk (.inl (by have := F_PaD_x1.out; simpa using this)); replace bx2_ := Bx.box_kept bx2_ hk (.inl (by have := F_PaD_x1.out; simpa using this)); replace bx3_ := Bx.box_kept bx3_ hk (.inl (by have := F_w0_x1.out; simpa using this)); replace bx4_ := Bx.box_kept bx4_ hk (.inl (by have := F_w0_x1.out; simpa using this)); replace bx5_ := Bx.box_kept bx5_ hk (.inr (by have := E_x1_x2.out; simpa using this)); replace bx6_ := Bx.box_kept bx6_ hk (.inr (by have := E_x1_x2.out; simpa using this)); replace bx7_ := Bx.box_kept bx7_ hk (.inr (by have := E_x1_g0.out; simpa using this)); replace bx8_ := Bx.box_kept bx8_ hk (.inr (by have := E_x1_g0.out; simpa using this)); replace HB := Aside0.mk hb; clear hb hk; clear mk0; clear O4_0))
  go_wp2_with (first | (go_at_call 14; with_reducible refine (Mk.markDep w _ lo5 hi5 M1 M2 _ _ x2_0 x2_1 HB.out DW_x2.out O5_0.out O5_1.out HMM20.out HMM21.out).mono ?_; rintro e w14 ⟨rfl, mk0, mk1, hb, hk⟩; replace O3_0 := Aside0.mk (Iv.Ob.kept O3_0.out hk (by have h1_ := D_w__x2.out; omega)); replace O3_1 := Aside0.mk (Iv.ObV.kept O3_1.out hk (by have h1_ := D_w__x2.out; omega)); replace O6_0 := Aside0.mk (Iv.Ob.kept O6_0.out hk (by have h1_ := D_x2_g_.out; omega)); replace O6_1 := Aside0.mk (Iv.Ob.kept O6_1.out hk (by have h1_ := D_x2_g_.out; omega)); replace bx1_ := Bx.box_kept bx1_ hk (.inl (by have := F_PaD_x2.out; simpa using this)); replace bx2_ := Bx.box_kept bx2_ hk (.inl (by have := F_PaD_x2.out; simpa using this)); replace bx3_ := Bx.box_kept bx3_ hk (.inl (by have := F_w0_x2.out; simpa using this)); replace bx4_ := Bx.box_kept bx4_ hk (.inl (by have := F_w0_x2.out; simpa using this)); replace bx5_ := Bx.box_kept bx5_ hk (.inr (by have := E_x2_x2.out; simpa using this)); replace bx6_ := Bx.box_kept bx6_ hk (.inr (by have := E_x2_x2.out; simpa using this)); replace bx7_ := Bx.box_kept bx7_ hk (.inr (by have := E_x2_g0.out; simpa using this)); replace bx8_ := Bx.box_kept bx8_ hk (.inr (by have := E_x2_g0.out; simpa using this)); replace HB := Aside0.mk hb; clear hb hk; clear mk0; clear mk1; clear O5_0; clear O5_1))
  go_wp2_with (first | (go_at_call 10; with_reducible refine (laws_eqRelation.calls k7 _ _ y0_0 _ _ y0_1 _ _ y0_0 _ _ y0_1 true _ ?s15_1 ?s15_2 ?s15_3 ?s15_4 ?s15_5 ?s15_6 ?s15_7 ?s15_8 H7.out).mono ?_; (case s15_1 => exact Iv.Ob.C O6_0.out); (case s15_2 => exact (Iv.Ob.le O6_0.out)); (case s15_3 => exact Iv.Ob.C O6_1.out); (case s15_4 => exact (Iv.Ob.le O6_1.out)); (case s15_5 => exact Iv.Ob.C O3_0.out); (case s15_6 => exact (Iv.Ob.le O3_0.out)); (case s15_7 => exact Iv.ObV.C O3_1.out); (case s15_8 => exact (Iv.ObV.le O3_1.out)); rintro e w15 ⟨rfl, hb⟩; replace O3_0 := Aside0.mk (Iv.Ob.below O3_0.out hb); replace O3_1 := Aside0.mk (Iv.ObV.below O3_1.out hb); replace O6_0 := Aside0.mk (Iv.Ob.below O6_0.out hb); replace O6_1 := Aside0.mk (Iv.Ob.below O6_1.out hb); replace bx1_ := Bx.box_later bx1_ hb; replace bx2_ := Bx.box_later bx2_ hb; replace bx3_ := Bx.box_later bx3_ hb; replace bx4_ := Bx.box_later bx4_ hb; replace bx5_ := Bx.box_later bx5_ hb; replace bx6_ := Bx.box_later bx6_ hb; replace bx7_ := Bx.box_later bx7_ hb; replace bx8_ := Bx.box_later bx8_ hb; replace HB := Aside0.mk (below_step HB.out hb); clear hb))
  go_wp2_with (first | (go_at_call 15; with_reducible refine (Mk.markRelation w _ lo6 hi6 1 M3 _ _ y0_0 y0_1 HB.out DW_g_.out O6_0.out O6_1.out HMM30.out HMM31.out).mono ?_; rintro e w16 ⟨rfl, mk0, mk1, hb, hk⟩; replace O3_0 := Aside0.mk (Iv.Ob.kept O3_0.out hk (by have h1_ := D_w__g_.out; omega)); replace O3_1 := Aside0.mk (Iv.ObV.kept O3_1.out hk (by have h1_ := D_w__g_.out; omega)); replace bx1_ := Bx.box_kept bx1_ hk (.inl (by have := F_PaD_g_.out; simpa using this)); replace bx2_ := Bx.box_kept bx2_ hk (.inl (by have := F_PaD_g_.out; simpa using this)); replace bx3_ := Bx.box_kept bx3_ hk (.inl (by have := F_w0_g_.out; simpa using this)); replace bx4_ := Bx.box_kept bx4_ hk (.inl (by have := F_w0_g_.out; simpa using this)); replace bx5_ := Bx.box_kept bx5_ hk (.inl (by have := F_x2_g_.out; simpa using this)); replace bx6_ := Bx.box_kept bx6_ hk (.inl (by have := F_x2_g_.out; simpa using this)); replace bx7_ := Bx.box_kept bx7_ hk (.inr (by have := E_g__g0.out; simpa using this)); replace bx8_ := Bx.box_kept bx8_ hk (.inr (by have := E_g__g0.out; simpa using this)); replace HB := Aside0.mk hb; clear hb hk; replace O6_0 := Aside0.mk mk0; replace O6_1 := Aside0.mk mk1; clear mk0; clear mk1))
  go_wp2_with (first | (go_at_call 16; with_reducible refine Bx.calls_at ?e17_ ((laws_heldRelation.calls k10 B6_0 e6_0 (Ax.mkRelation_0 y0_0 y0_1 1) B6_1 e6_1 (Ax.mkRelation_1 y0_0 y0_1 1) 1 M3 _ ?s17_1 ?s17_2 ?s17_3 ?s17_4 H10.out).mono ?_); (case e17_ => simp only [Ax.mkIntS_length, Ax.mkOf_length]); (case s17_1 => exact Iv.Ob.C O6_0.out); (case s17_2 => exact (Iv.Ob.le O6_0.out)); (case s17_3 => exact Iv.Ob.C O6_1.out); (case s17_4 => exact (Iv.Ob.le O6_1.out)); rintro e w17 ⟨rfl, hb⟩; replace O3_0 := Aside0.mk (Iv.Ob.below O3_0.out hb); replace O3_1 := Aside0.mk (Iv.ObV.below O3_1.out hb); replace O6_0 := Aside0.mk (Iv.Ob.below O6_0.out hb); replace O6_1 := Aside0.mk (Iv.Ob.below O6_1.out hb); replace bx1_ := Bx.box_later bx1_ hb; replace bx2_ := Bx.box_later bx2_ hb; replace bx3_ := Bx.box_later bx3_ hb; replace bx4_ := Bx.box_later bx4_ hb; replace bx5_ := Bx.box_later bx5_ hb; replace bx6_ := Bx.box_later bx6_ hb; replace bx7_ := Bx.box_later bx7_ hb; replace bx8_ := Bx.box_later bx8_ hb; replace HB := Aside0.mk (below_step HB.out hb); clear hb))
  refine J.reg31 _ _ _ a0 A1 A2_0 A2_1 c1 c2_0 c2_1 l1 x1_0 l2_0 l2_1 x2_0 x2_1 y0_0 y0_1 y1 k3 k4 k6 (Nat.le_of_ble_eq_true rfl) rfl rfl rfl bx1_ bx2_ (Kd.C_below HR1.out HB.out) HC1.out (Kd.C_below HR2_0.out HB.out) HC2_0.out (Kd.C_below HR2_1.out HB.out) HC2_1.out H3.out H4.out H6.out ?_
  intro w18 _ _ _ B18_0 B18_1 _ _ _ e18_0 e18_1 gb18 lo18 hi18 hb o0_ o1_ lo_ hi_ _ gl_ gc_
  have DW_h_ := Aside0.mk (Nat.le_trans (below_size HB.out) lo_)
  have F_PaD_h_ := Aside0.mk (Nat.lt_of_lt_of_le (Bx.box_lt bx1_) lo_)
  have F_w0_h_ := Aside0.mk (Nat.lt_of_lt_of_le (Bx.box_lt bx3_) lo_)
  have F_x2_h_ := Aside0.mk (Nat.lt_of_lt_of_le (Bx.box_lt bx5_) lo_)
  have F_g0_h_ := Aside0.mk (Nat.lt_of_lt_of_le (Bx.box_lt bx7_) lo_)
  have D_w__h_ := Aside0.mk (Nat.le_trans (Iv.Ob.size O3_0.out) lo_)
  have E_w__h0 := Aside0.mk (Nat.le_trans (Iv.Ob.size O3_0.out) gl_)
  have D_g__h_ := Aside0.mk (Nat.le_trans (Iv.Ob.size O6_0.out) lo_)
  have E_g__h0 := Aside0.mk (Nat.le_trans (Iv.Ob.size O6_0.out) gl_)
  replace O3_0 := Aside0.mk (Iv.Ob.below O3_0.out hb)
  replace O3_1 := Aside0.mk (Iv.ObV.below O3_1.out hb)
  replace O6_0 := Aside0.mk (Iv.Ob.below O6_0.out hb)
  replace O6_1 := Aside0.mk (Iv.Ob.below O6_1.out hb)
  replace bx1_ := Bx.box_later bx1_ hb
  replace bx2_ := Bx.box_later bx2_ hb
  replace bx3_ := Bx.box_later bx3_ hb
  replace bx4_ := Bx.box_later bx4_ hb
  replace bx5_ := Bx.box_later bx5_ hb
  replace bx6_ := Bx.box_later bx6_ hb
  replace bx7_ := Bx.box_later bx7_ hb
  replace bx8_ := Bx.box_later bx8_ hb
  replace HB := Aside0.mk (below_step HB.out hb)
  have O18_0 := Aside0.mk o0_
  have O18_1 := Aside0.mk o1_
  clear o0_ o1_ hb
  have bx9_ : World.cell? w18 ⟨gb18, 0, none⟩ = some (.slice B18_0 (List.length y0_0) e18_0) := (blk_cell gc_ 0).trans rfl
  have bx10_ : World.cell? w18 ⟨gb18, 1, none⟩ = some (.slice B18_1 (List.length y0_1) e18_1) := (blk_cell gc_ 1).trans rfl
  clear gc_ lo_ hi_ gl_
  simp only [putSel, Act.put, if_true, List.setIfInBounds_toArray, List.set_cons_zero, List.set_cons_succ]
  go_wp2_with (first | (go_at_call 10; with_reducible refine (laws_eqRelation.calls k7 _ _ y0_0 _ _ y0_1 _ _ y0_0 _ _ y0_1 true _ ?s19_1 ?s19_2 ?s19_3 ?s19_4 ?s19_5 ?s19_6 ?s19_7 ?s19_8 H7.out).mono ?_; (case s19_1 => exact Iv.Ob.C O18_0.out); (case s19_2 => exact (Iv.Ob.le O18_0.out)); (case s19_3 => exact Iv.Ob.C O18_1.out); (case s19_4 => exact (Iv.Ob.le O18_1.out)); (case s19_5 => exact Iv.Ob.C O3_0.out); (case s19_6 => exact (Iv.Ob.le O3_0.out)); (case s19_7 => exact Iv.ObV.C O3_1.out); (case s19_8 => exact (Iv.ObV.le O3_1.out)); rintro e w19 ⟨rfl, hb⟩; replace O3_0 := Aside0.mk (Iv.Ob.below O3_0.out hb); replace O3_1 := Aside0.mk (Iv.ObV.below O3_1.out hb); replace O6_0 := Aside0.mk (Iv.Ob.below O6_0.out hb); replace O6_1 := Aside0.mk (Iv.Ob.below O6_1.out hb); replace O18_0 := Aside0.mk (Iv.Ob.below O18_0.out hb); replace O18_1 := Aside0.mk (Iv.Ob.below O18_1.out hb); replace bx1_ := Bx.box_later bx1_ hb; replace bx2_ := Bx.box_later bx2_ hb; replace bx3_ := Bx.box_later bx3_ hb; replace bx4_ := Bx.box_later bx4_ hb; replace bx5_ := Bx.box_later bx5_ hb; replace bx6_ := Bx.box_later bx6_ hb; replace bx7_ := Bx.box_later bx7_ hb; replace bx8_ := Bx.box_later bx8_ hb; replace bx9_ := Bx.box_later bx9_ hb; replace bx10_ := Bx.box_later bx10_ hb; replace HB := Aside0.mk (below_step HB.out hb); clear hb; clear O18_0; clear O18_1))
  go_wp2_with (first | (go_at_call 16; with_reducible refine Bx.calls_at ?e20_ ((laws_heldRelation.calls k10 B6_0 e6_0 (Ax.mkRelation_0 y0_0 y0_1 1) B6_1 e6_1 (Ax.mkRelation_1 y0_0 y0_1 1) 1 M3 _ ?s20_1 ?s20_2 ?s20_3 ?s20_4 H10.out).mono ?_); (case e20_ => simp only [Ax.mkIntS_length, Ax.mkOf_length]); (case s20_1 => exact Iv.Ob.C O6_0.out); (case s20_2 => exact (Iv.Ob.le O6_0.out)); (case s20_3 => exact Iv.Ob.C O6_1.out); (case s20_4 => exact (Iv.Ob.le O6_1.out)); rintro e w20 ⟨rfl, hb⟩; replace O3_0 := Aside0.mk (Iv.Ob.below O3_0.out hb); replace O3_1 := Aside0.mk (Iv.ObV.below O3_1.out hb); replace O6_0 := Aside0.mk (Iv.Ob.below O6_0.out hb); replace O6_1 := Aside0.mk (Iv.Ob.below O6_1.out hb); replace bx1_ := Bx.box_later bx1_ hb; replace bx2_ := Bx.box_later bx2_ hb; replace bx3_ := Bx.box_later bx3_ hb; replace bx4_ := Bx.box_later bx4_ hb; replace bx5_ := Bx.box_later bx5_ hb; replace bx6_ := Bx.box_later bx6_ hb; replace bx7_ := Bx.box_later bx7_ hb; replace bx8_ := Bx.box_later bx8_ hb; replace bx9_ := Bx.box_later bx9_ hb; replace bx10_ := Bx.box_later bx10_ hb; replace HB := Aside0.mk (below_step HB.out hb); clear hb))
  go_ret
  exact ⟨rfl, HB.out⟩
end Go.Proofs.YtcengijoicmldaaGreat.L
