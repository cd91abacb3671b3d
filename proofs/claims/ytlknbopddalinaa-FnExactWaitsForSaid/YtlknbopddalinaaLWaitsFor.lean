/- The walk of the law WaitsFor, given what its callees come to: it returns true and leaves what lay ahead of it. Written by lawk.py. Conditions: the equations of the callees. -/
import Derived.Test.YtlknbopddalinaaPr1
import Derived.Test.YtlknbopddalinaaPr2
import Derived.Test.YtlknbopddalinaaPr5
import Derived.Test.YtlknbopddalinaaPr7
import Derived.Test.YtlknbopddalinaaPr8
import Derived.Test.YtlknbopddalinaaMkI
import Derived.Test.YtlknbopddalinaaMkL
import Derived.Test.YtlknbopddalinaaIv
namespace Go.Proofs.Ytlknbopddalinaa.L
open Go.RowKit Go.Proofs.Ytlknbopddalinaa Go.Proofs.Ytlknbopddalinaa.Pr Go.Proofs.YtlknbopddalinaaW.PrintWords Go.Proofs.YtlknbopddalinaaW.PrintLast Go.Proofs.YtlknbopddalinaaW.PrintMore
set_option linter.unusedVariables false
set_option linter.unusedSimpArgs false
set_option maxHeartbeats 4000000 in
set_option maxRecDepth 100000 in
theorem WaitsFor_sz0 (A0_0 : Option Addr) (c0_0 : Nat) (l0_0 : (List (List Int))) (A0_1 : Option Addr) (c0_1 : Nat) (l0_1 : (List Int)) (A0_2 : Option Addr) (c0_2 : Nat) (l0_2 : (List Int)) (a1_0 : Int) (a1_1 : Int) (a1_2 : Bool) (a1_3 : Bool) (s1 : Int) (k1 : Nat) (w : World) (HR0_0 : Aside0 (Kd.C (Kd.slice 3 (Kd.int .i64)) w A0_0 l0_0.length l0_0)) (HC0_0 : Aside0 (l0_0.length ≤ c0_0)) (HR0_1 : Aside0 (Kd.C (Kd.int .i64) w A0_1 l0_1.length l0_1)) (HC0_1 : Aside0 (l0_1.length ≤ c0_1)) (HR0_2 : Aside0 (Kd.C (Kd.int .i64) w A0_2 l0_2.length l0_2)) (HC0_2 : Aside0 (l0_2.length ≤ c0_2)) (H1 : Aside0 (laws_szLocks.f k1 l0_0 l0_1 l0_2 1048576 = some s1)) (d0 : decide (s1 < 0) = true) :
    Calls Try.prog 5 #[.agg #[.slice A0_0 l0_0.length c0_0, .slice A0_1 l0_1.length c0_1, .slice A0_2 l0_2.length c0_2], .agg #[.int .i64 a1_0, .int .i64 a1_1, .bool a1_2, .bool a1_3]] w fun e w' => e = .returned (.bool true) ∧ Below w.heap.size w w' := by
  have HB := Aside0.mk (Below.refl w.heap.size w)
  have bx1_ : World.cell? (World.alloc w (.cells #[.slice A0_0 (List.length l0_0) c0_0, .slice A0_1 (List.length l0_1) c0_1, .slice A0_2 (List.length l0_2) c0_2] 30)) ⟨w.heap.size, 0, none⟩ = some (.slice A0_0 (List.length l0_0) c0_0) := Bx.box_new _ _ _ _ _ rfl
  have bx2_ : World.cell? (World.alloc w (.cells #[.slice A0_0 (List.length l0_0) c0_0, .slice A0_1 (List.length l0_1) c0_1, .slice A0_2 (List.length l0_2) c0_2] 30)) ⟨w.heap.size, 1, none⟩ = some (.slice A0_1 (List.length l0_1) c0_1) := Bx.box_new _ _ _ _ _ rfl
  have bx3_ : World.cell? (World.alloc w (.cells #[.slice A0_0 (List.length l0_0) c0_0, .slice A0_1 (List.length l0_1) c0_1, .slice A0_2 (List.length l0_2) c0_2] 30)) ⟨w.heap.size, 2, none⟩ = some (.slice A0_2 (List.length l0_2) c0_2) := Bx.box_new _ _ _ _ _ rfl
  have hal_ := below_alloc (Below.refl (World.heap w).size w) (.cells #[.slice A0_0 (List.length l0_0) c0_0, .slice A0_1 (List.length l0_1) c0_1, .slice A0_2 (List.length l0_2) c0_2] 30)
  replace HB := Aside0.mk (below_alloc HB.out (.cells #[.slice A0_0 (List.length l0_0) c0_0, .slice A0_1 (List.length l0_1) c0_1, .slice A0_2 (List.length l0_2) c0_2] 30))
  clear hal_
  have bx4_ : World.cell? (World.alloc (World.alloc w (.cells #[.slice A0_0 (List.length l0_0) c0_0, .slice A0_1 (List.length l0_1) c0_1, .slice A0_2 (List.length l0_2) c0_2] 30)) (.cells #[.int .i64 a1_0, .int .i64 a1_1, .bool a1_2, .bool a1_3] 39)) ⟨w.heap.size + 1, 0, none⟩ = some (.int .i64 a1_0) := Bx.box_new' _ _ _ _ _ _ (by simp) rfl
  have bx5_ : World.cell? (World.alloc (World.alloc w (.cells #[.slice A0_0 (List.length l0_0) c0_0, .slice A0_1 (List.length l0_1) c0_1, .slice A0_2 (List.length l0_2) c0_2] 30)) (.cells #[.int .i64 a1_0, .int .i64 a1_1, .bool a1_2, .bool a1_3] 39)) ⟨w.heap.size + 1, 1, none⟩ = some (.int .i64 a1_1) := Bx.box_new' _ _ _ _ _ _ (by simp) rfl
  have bx6_ : World.cell? (World.alloc (World.alloc w (.cells #[.slice A0_0 (List.length l0_0) c0_0, .slice A0_1 (List.length l0_1) c0_1, .slice A0_2 (List.length l0_2) c0_2] 30)) (.cells #[.int .i64 a1_0, .int .i64 a1_1, .bool a1_2, .bool a1_3] 39)) ⟨w.heap.size + 1, 2, none⟩ = some (.bool a1_2) := Bx.box_new' _ _ _ _ _ _ (by simp) rfl
  have bx7_ : World.cell? (World.alloc (World.alloc w (.cells #[.slice A0_0 (List.length l0_0) c0_0, .slice A0_1 (List.length l0_1) c0_1, .slice A0_2 (List.length l0_2) c0_2] 30)) (.cells #[.int .i64 a1_0, .int .i64 a1_1, .bool a1_2, .bool a1_3] 39)) ⟨w.heap.size + 1, 3, none⟩ = some (.bool a1_3) := Bx.box_new' _ _ _ _ _ _ (by simp) rfl
  have hal_ := below_alloc (Below.refl (World.heap (World.alloc w (.cells #[.slice A0_0 (List.length l0_0) c0_0, .slice A0_1 (List.length l0_1) c0_1, .slice A0_2 (List.length l0_2) c0_2] 30))).size (World.alloc w (.cells #[.slice A0_0 (List.length l0_0) c0_0, .slice A0_1 (List.length l0_1) c0_1, .slice A0_2 (List.length l0_2) c0_2] 30))) (.cells #[.int .i64 a1_0, .int .i64 a1_1, .bool a1_2, .bool a1_3] 39)
  replace bx1_ := Bx.box_later bx1_ hal_
  replace bx2_ := Bx.box_later bx2_ hal_
  replace bx3_ := Bx.box_later bx3_ hal_
  replace HB := Aside0.mk (below_alloc HB.out (.cells #[.int .i64 a1_0, .int .i64 a1_1, .bool a1_2, .bool a1_3] 39))
  clear hal_
  go_enter Try.func5, Try.ntmps5
  go_wp2_with (first | (go_at_call 11; refine (laws_szLocks.calls k1 _ _ l0_0 _ _ l0_1 _ _ l0_2 1048576 s1 _ ?s1_1 ?s1_2 ?s1_3 ?s1_4 ?s1_5 ?s1_6 H1.out).mono ?_; (case s1_1 => exact Kd.C_below HR0_0.out HB.out); (case s1_2 => exact HC0_0.out); (case s1_3 => exact Kd.C_below HR0_1.out HB.out); (case s1_4 => exact HC0_1.out); (case s1_5 => exact Kd.C_below HR0_2.out HB.out); (case s1_6 => exact HC0_2.out); rintro e w1 ⟨rfl, hb⟩; replace bx1_ := Bx.box_later bx1_ hb; replace bx2_ := Bx.box_later bx2_ hb; replace bx3_ := Bx.box_later bx3_ hb; replace bx4_ := Bx.box_later bx4_ hb; replace bx5_ := Bx.box_later bx5_ hb; replace bx6_ := Bx.box_later bx6_ hb; replace bx7_ := Bx.box_later bx7_ hb; replace HB := Aside0.mk (below_step HB.out hb); clear hb))
  go_ret
  exact ⟨rfl, HB.out⟩
set_option maxHeartbeats 40000000 in
set_option maxRecDepth 100000 in
theorem WaitsFor (A0_0 : Option Addr) (c0_0 : Nat) (l0_0 : (List (List Int))) (A0_1 : Option Addr) (c0_1 : Nat) (l0_1 : (List Int)) (A0_2 : Option Addr) (c0_2 : Nat) (l0_2 : (List Int)) (a1_0 : Int) (a1_1 : Int) (a1_2 : Bool) (a1_3 : Bool) (s1 : Int) (k1 : Nat) (x0_0 : (List (List Int))) (x0_1 : (List Int)) (x0_2 : (List Int)) (k2 : Nat) (x1_0 : Int) (x1_1 : Int) (x1_2 : Bool) (x1_3 : Bool) (y0_0 : (List Int)) (y1 : Bool) (k4 : Nat) (k5 : Nat) (k6 : Nat) (k7 : Nat) (M1 : Int) (M2 : Int) (k8 : Nat) (w : World) (HR0_0 : Aside0 (Kd.C (Kd.slice 3 (Kd.int .i64)) w A0_0 l0_0.length l0_0)) (HC0_0 : Aside0 (l0_0.length ≤ c0_0)) (HR0_1 : Aside0 (Kd.C (Kd.int .i64) w A0_1 l0_1.length l0_1)) (HC0_1 : Aside0 (l0_1.length ≤ c0_1)) (HR0_2 : Aside0 (Kd.C (Kd.int .i64) w A0_2 l0_2.length l0_2)) (HC0_2 : Aside0 (l0_2.length ≤ c0_2)) (H1 : Aside0 (laws_szLocks.f k1 l0_0 l0_1 l0_2 1048576 = some s1)) (H2 : Aside0 (laws_toLocks.f k2 l0_0 l0_1 l0_2 = some (x0_0, x0_1, x0_2))) (H3 : Aside0 (laws_toAsk.f a1_0 a1_1 a1_2 a1_3 = some (x1_0, x1_1, x1_2, x1_3))) (H4 : Aside0 (spec_WaitsFor.f k4 x0_0 x0_1 x0_2 x1_0 x1_1 x1_2 x1_3 = some (y0_0, y1))) (H5 : Aside0 (impl_WaitsFor.f k5 x0_0 x0_1 x0_2 x1_0 x1_1 x1_2 x1_3 = some (y0_0, y1))) (H6 : Aside0 (laws_eqIntS.f k6 y0_0 y0_0 = some true)) (H7 : Aside0 (laws_eqLocks.f k7 x0_0 x0_1 x0_2 x0_0 x0_1 x0_2 = some true)) (H8 : Aside0 (laws_heldIntS.f k8 (Ax.mkIntS y0_0 1) 1 = some M2)) (d0 : decide (s1 < 0) = false) (d1 : decide (M1 < 0) = false) (d2 : decide (M2 < 0) = false) (HMM10 : Aside0 ((0 : Int) ≤ 1)) (HMM11 : Aside0 ((1 : Int) + (Ax.cntLocks x0_0 x0_1 x0_2 : Nat) = M1 ∧ M1 < 9223372036854775807)) (HMM20 : Aside0 ((0 : Int) ≤ 1)) (HMM21 : Aside0 ((1 : Int) + (Ax.cntIntS y0_0 : Nat) = M2 ∧ M2 < 9223372036854775807)) :
    Calls Try.prog 5 #[.agg #[.slice A0_0 l0_0.length c0_0, .slice A0_1 l0_1.length c0_1, .slice A0_2 l0_2.length c0_2], .agg #[.int .i64 a1_0, .int .i64 a1_1, .bool a1_2, .bool a1_3]] w fun e w' => e = .returned (.bool true) ∧ Below w.heap.size w w' := by
  have HB := Aside0.mk (Below.refl w.heap.size w)
  have bx1_ : World.cell? (World.alloc w (.cells #[.slice A0_0 (List.length l0_0) c0_0, .slice A0_1 (List.length l0_1) c0_1, .slice A0_2 (List.length l0_2) c0_2] 30)) ⟨w.heap.size, 0, none⟩ = some (.slice A0_0 (List.length l0_0) c0_0) := Bx.box_new _ _ _ _ _ rfl
  have bx2_ : World.cell? (World.alloc w (.cells #[.slice A0_0 (List.length l0_0) c0_0, .slice A0_1 (List.length l0_1) c0_1, .slice A0_2 (List.length l0_2) c0_2] 30)) ⟨w.heap.size, 1, none⟩ = some (.slice A0_1 (List.length l0_1) c0_1) := Bx.box_new _ _ _ _ _ rfl
  have bx3_ : World.cell? (World.alloc w (.cells #[.slice A0_0 (List.length l0_0) c0_0, .slice A0_1 (List.length l0_1) c0_1, .slice A0_2 (List.length l0_2) c0_2] 30)) ⟨w.heap.size, 2, none⟩ = some (.slice A0_2 (List.length l0_2) c0_2) := Bx.box_new _ _ _ _ _ rfl
  have hal_ := below_alloc (Below.refl (World.heap w).size w) (.cells #[.slice A0_0 (List.length l0_0) c0_0, .slice A0_1 (List.length l0_1) c0_1, .slice A0_2 (List.length l0_2) c0_2] 30)
  replace HB := Aside0.mk (below_alloc HB.out (.cells #[.slice A0_0 (List.length l0_0) c0_0, .slice A0_1 (List.length l0_1) c0_1, .slice A0_2 (List.length l0_2) c0_2] 30))
  clear hal_
  have bx4_ : World.cell? (World.alloc (World.alloc w (.cells #[.slice A0_0 (List.length l0_0) c0_0, .slice A0_1 (List.length l0_1) c0_1, .slice A0_2 (List.length l0_2) c0_2] 30)) (.cells #[.int .i64 a1_0, .int .i64 a1_1, .bool a1_2, .bool a1_3] 39)) ⟨w.heap.size + 1, 0, none⟩ = some (.int .i64 a1_0) := Bx.box_new' _ _ _ _ _ _ (by simp) rfl
  have bx5_ : World.cell? (World.alloc (World.alloc w (.cells #[.slice A0_0 (List.length l0_0) c0_0, .slice A0_1 (List.length l0_1) c0_1, .slice A0_2 (List.length l0_2) c0_2] 30)) (.cells #[.int .i64 a1_0, .int .i64 a1_1, .bool a1_2, .bool a1_3] 39)) ⟨w.heap.size + 1, 1, none⟩ = some (.int .i64 a1_1) := Bx.box_new' _ _ _ _ _ _ (by simp) rfl
  have bx6_ : World.cell? (World.alloc (World.alloc w (.cells #[.slice A0_0 (List.length l0_0) c0_0, .slice A0_1 (List.length l0_1) c0_1, .slice A0_2 (List.length l0_2) c0_2] 30)) (.cells #[.int .i64 a1_0, .int .i64 a1_1, .bool a1_2, .bool a1_3] 39)) ⟨w.heap.size + 1, 2, none⟩ = some (.bool a1_2) := Bx.box_new' _ _ _ _ _ _ (by simp) rfl
  have bx7_ : World.cell? (World.alloc (World.alloc w (.cells #[.slice A0_0 (List.length l0_0) c0_0, .slice A0_1 (List.length l0_1) c0_1, .slice A0_2 (List.length l0_2) c0_2] 30)) (.cells #[.int .i64 a1_0, .int .i64 a1_1, .bool a1_2, .bool a1_3] 39)) ⟨w.heap.size + 1, 3, none⟩ = some (.bool a1_3) := Bx.box_new' _ _ _ _ _ _ (by simp) rfl
  have hal_ := below_alloc (Below.refl (World.heap (World.alloc w (.cells #[.slice A0_0 (List.length l0_0) c0_0, .slice A0_1 (List.length l0_1) c0_1, .slice A0_2 (List.length l0_2) c0_2] 30))).size (World.alloc w (.cells #[.slice A0_0 (List.length l0_0) c0_0, .slice A0_1 (List.length l0_1) c0_1, .slice A0_2 (List.length l0_2) c0_2] 30))) (.cells #[.int .i64 a1_0, .int .i64 a1_1, .bool a1_2, .bool a1_3] 39)
  replace bx1_ := Bx.box_later bx1_ hal_
  replace bx2_ := Bx.box_later bx2_ hal_
  replace bx3_ := Bx.box_later bx3_ hal_
  replace HB := Aside0.mk (below_alloc HB.out (.cells #[.int .i64 a1_0, .int .i64 a1_1, .bool a1_2, .bool a1_3] 39))
  clear hal_
  go_enter Try.func5, Try.ntmps5
  go_wp2_with (first | (go_at_call 11; refine (laws_szLocks.calls k1 _ _ l0_0 _ _ l0_1 _ _ l0_2 1048576 s1 _ ?s1_1 ?s1_2 ?s1_3 ?s1_4 ?s1_5 ?s1_6 H1.out).mono ?_; (case s1_1 => exact Kd.C_below HR0_0.out HB.out); (case s1_2 => exact HC0_0.out); (case s1_3 => exact Kd.C_below HR0_1.out HB.out); (case s1_4 => exact HC0_1.out); (case s1_5 => exact Kd.C_below HR0_2.out HB.out); (case s1_6 => exact HC0_2.out); rintro e w1 ⟨rfl, hb⟩; replace bx1_ := Bx.box_later bx1_ hb; replace bx2_ := Bx.box_later bx2_ hb; replace bx3_ := Bx.box_later bx3_ hb; replace bx4_ := Bx.box_later bx4_ hb; replace bx5_ := Bx.box_later bx5_ hb; replace bx6_ := Bx.box_later bx6_ hb; replace bx7_ := Bx.box_later bx7_ hb; replace HB := Aside0.mk (below_step HB.out hb); clear hb))
  refine Bx.start_any (n := 10) (S := fun w_ => World.cell? w_ ⟨w.heap.size, 0, none⟩ = some (.slice A0_0 (List.length l0_0) c0_0) ∧ World.cell? w_ ⟨w.heap.size, 1, none⟩ = some (.slice A0_1 (List.length l0_1) c0_1) ∧ World.cell? w_ ⟨w.heap.size, 2, none⟩ = some (.slice A0_2 (List.length l0_2) c0_2) ∧ World.cell? w_ ⟨w.heap.size + 1, 0, none⟩ = some (.int .i64 a1_0) ∧ World.cell? w_ ⟨w.heap.size + 1, 1, none⟩ = some (.int .i64 a1_1) ∧ World.cell? w_ ⟨w.heap.size + 1, 2, none⟩ = some (.bool a1_2) ∧ World.cell? w_ ⟨w.heap.size + 1, 3, none⟩ = some (.bool a1_3)) (ds := []) #[false, false, false, false, false, false, false, false, false, false] (by kernel_rfl) rfl rfl ⟨bx1_, bx2_, bx3_, bx4_, bx5_, bx6_, bx7_⟩ (fun w2 hb hHeld => ?_)
  replace bx1_ := Bx.box_later bx1_ hb
  replace bx2_ := Bx.box_later bx2_ hb
  replace bx3_ := Bx.box_later bx3_ hb
  replace bx4_ := Bx.box_later bx4_ hb
  replace bx5_ := Bx.box_later bx5_ hb
  replace bx6_ := Bx.box_later bx6_ hb
  replace bx7_ := Bx.box_later bx7_ hb
  replace HB := Aside0.mk (below_step HB.out hb)
  clear hb
  refine take_ (i := 0) (N := some 22) (v := ?_) (a' := ?_) #[true, false, false, false, false, false, false, false, false, false] rfl rfl (by kernel_rfl) (fun _ _ _ h => h) (Or.inl ⟨by rfl, ?_⟩) hHeld ?_ ?_
  rotate_left
  · rintro w' ⟨s0_, s1_, s2_, s3_, s4_, s5_, s6_⟩
    go_simp
    with_reducible rfl
  rotate_left
  · simp only [Act.put, List.setIfInBounds_toArray, List.set_cons_zero, List.set_cons_succ, i64_w, i32_w]
    rfl
  refine take_ (i := 2) (N := some 24) (v := ?_) (a' := ?_) #[true, false, true, false, false, false, false, false, false, false] rfl rfl (by kernel_rfl) (fun _ _ _ h => h) (Or.inl ⟨by rfl, ?_⟩) hHeld ?_ ?_
  rotate_left
  · rintro w' ⟨s0_, s1_, s2_, s3_, s4_, s5_, s6_⟩
    go_simp
    with_reducible rfl
  rotate_left
  · simp only [Act.put, List.setIfInBounds_toArray, List.set_cons_zero, List.set_cons_succ, i64_w, i32_w]
    rfl
  refine one_ (i := 1) (N := some 23) #[true, true, true, false, false, false, false, false, false, false] rfl rfl (by kernel_rfl) (by decide) (fun K hK => ?_)
  refine goes_ Try.func13 (by kernel_rfl) rfl #[.agg #[.slice A0_0 l0_0.length c0_0, .slice A0_1 l0_1.length c0_1, .slice A0_2 l0_2.length c0_2]] (by rfl) rfl rfl (by (try simp only [List.map_toArray, List.map_cons, List.map_nil]); first | done | rfl | (simp only [List.length_drop, List.length_take]; rfl)) ?_
  with_reducible refine (laws_toLocks.calls k2 _ _ l0_0 _ _ l0_1 _ _ l0_2 x0_0 x0_1 x0_2 _ ?s3_1 ?s3_2 ?s3_3 ?s3_4 ?s3_5 ?s3_6 H2.out).mono ?_
  (case s3_1 => exact Kd.C_below HR0_0.out HB.out)
  (case s3_2 => exact HC0_0.out)
  (case s3_3 => exact Kd.C_below HR0_1.out HB.out)
  (case s3_4 => exact HC0_1.out)
  (case s3_5 => exact Kd.C_below HR0_2.out HB.out)
  (case s3_6 => exact HC0_2.out)
  rintro e w3 ⟨v3_0, v3_1, v3_2, rfl, ho0, ho1, ho2, hb⟩
  refine ⟨_, rfl, ?_⟩
  have new_ : ∃ lo3 hi3 : Nat, Iv.Ob (Kd.slice 3 (Kd.int .i64)) 23 w3 lo3 hi3 (fun k_ => some k_ ≠ (v3_1 : Value).ownBlock ∧ some k_ ≠ (v3_2 : Value).ownBlock) v3_0 x0_0 ∧ Iv.Ob (Kd.int .i64) 3 w3 lo3 hi3 (fun k_ => some k_ ≠ (v3_2 : Value).ownBlock) v3_1 x0_1 ∧ Iv.Ob (Kd.int .i64) 3 w3 lo3 hi3 (fun k_ => some k_ ≠ (v3_1 : Value).ownBlock) v3_2 x0_2 ∧ w.heap.size ≤ lo3 ∧ w.heap.size < lo3 ∧ w.heap.size + 1 < lo3 := ⟨_, _, Iv.Ob.of_S ho0 (fun _ h_ => h_), Iv.Ob.of_Rint ho1 (fun _ h_ => h_), Iv.Ob.of_Rint ho2 (fun _ h_ => h_), (below_size HB.out), (Bx.box_lt bx1_), (Bx.box_lt bx4_)⟩
  obtain ⟨lo3, hi3, o0_, o1_, o2_, d_w, f_PaL, f_PaA⟩ := new_
  replace bx1_ := Bx.box_later bx1_ hb
  replace bx2_ := Bx.box_later bx2_ hb
  replace bx3_ := Bx.box_later bx3_ hb
  replace bx4_ := Bx.box_later bx4_ hb
  replace bx5_ := Bx.box_later bx5_ hb
  replace bx6_ := Bx.box_later bx6_ hb
  replace bx7_ := Bx.box_later bx7_ hb
  replace HB := Aside0.mk (below_step HB.out hb)
  clear hb ho0 ho1 ho2
  obtain ⟨B3_0, e3_0, rfl⟩ := Iv.Ob.slice o0_
  have O3_0 := Aside0.mk o0_
  clear o0_
  obtain ⟨B3_1, e3_1, rfl⟩ := Iv.Ob.slice o1_
  have O3_1 := Aside0.mk o1_
  clear o1_
  obtain ⟨B3_2, e3_2, rfl⟩ := Iv.Ob.slice o2_
  have O3_2 := Aside0.mk o2_
  clear o2_
  have DW_t3 := Aside0.mk d_w
  clear d_w
  have F_PaL_t3 := Aside0.mk f_PaL
  clear f_PaL
  have F_PaA_t3 := Aside0.mk f_PaA
  clear f_PaA
  refine hK.out _ _ ⟨bx1_, bx2_, bx3_, bx4_, bx5_, bx6_, bx7_⟩ (fun hHeld => ?_)
  clear hK K
  refine norm_ (a' := ?_) ?_ ?_
  rotate_left
  · show Act.put _ (some 23) _ = _
    simp only [Act.put, List.setIfInBounds_toArray, List.set_cons_zero, List.set_cons_succ, i64_w, i32_w]
    rfl
  refine one_ (i := 3) (N := some 25) #[true, true, true, true, false, false, false, false, false, false] rfl rfl (by kernel_rfl) (by decide) (fun K hK => ?_)
  refine goes_ Try.func19 (by kernel_rfl) rfl #[.agg #[.int .i64 a1_0, .int .i64 a1_1, .bool a1_2, .bool a1_3]] (by rfl) rfl rfl (by (try simp only [List.map_toArray, List.map_cons, List.map_nil]); first | done | rfl | (simp only [List.length_drop, List.length_take]; rfl)) ?_
  with_reducible refine (laws_toAsk.calls a1_0 a1_1 a1_2 a1_3 x1_0 x1_1 x1_2 x1_3 _ H3.out).mono ?_
  rintro e w4 ⟨rfl, hb⟩
  refine ⟨_, rfl, ?_⟩
  replace O3_0 := Aside0.mk (Iv.Ob.below O3_0.out hb)
  replace O3_1 := Aside0.mk (Iv.Ob.below O3_1.out hb)
  replace O3_2 := Aside0.mk (Iv.Ob.below O3_2.out hb)
  replace bx1_ := Bx.box_later bx1_ hb
  replace bx2_ := Bx.box_later bx2_ hb
  replace bx3_ := Bx.box_later bx3_ hb
  replace bx4_ := Bx.box_later bx4_ hb
  replace bx5_ := Bx.box_later bx5_ hb
  replace bx6_ := Bx.box_later bx6_ hb
  replace bx7_ := Bx.box_later bx7_ hb
  replace HB := Aside0.mk (below_step HB.out hb)
  clear hb
  refine hK.out _ _ ⟨bx1_, bx2_, bx3_, bx4_, bx5_, bx6_, bx7_⟩ (fun hHeld => ?_)
  clear hK K
  refine norm_ (a' := ?_) ?_ ?_
  rotate_left
  · show Act.put _ (some 25) _ = _
    simp only [Act.put, List.setIfInBounds_toArray, List.set_cons_zero, List.set_cons_succ, i64_w, i32_w]
    rfl
  refine one_ (i := 4) (N := some 26) #[true, true, true, true, true, false, false, false, false, false] rfl rfl (by kernel_rfl) (by decide) (fun K hK => ?_)
  refine goes_ Try.func18 (by kernel_rfl) rfl #[.agg #[.slice B3_0 (List.length x0_0) e3_0, .slice B3_1 (List.length x0_1) e3_1, .slice B3_2 (List.length x0_2) e3_2], .agg #[.int .i64 x1_0, .int .i64 x1_1, .bool x1_2, .bool x1_3]] (by rfl) rfl rfl (by (try simp only [List.map_toArray, List.map_cons, List.map_nil]); first | done | rfl | (simp only [List.length_drop, List.length_take]; rfl)) ?_
  with_reducible refine (spec_WaitsFor.calls k4 _ _ x0_0 _ _ x0_1 _ _ x0_2 x1_0 x1_1 x1_2 x1_3 y0_0 y1 _ ?s5_1 ?s5_2 ?s5_3 ?s5_4 ?s5_5 ?s5_6 H4.out).mono ?_
  (case s5_1 => exact Iv.Ob.C O3_0.out)
  (case s5_2 => exact (Iv.Ob.le O3_0.out))
  (case s5_3 => exact Iv.Ob.C O3_1.out)
  (case s5_4 => exact (Iv.Ob.le O3_1.out))
  (case s5_5 => exact Iv.Ob.C O3_2.out)
  (case s5_6 => exact (Iv.Ob.le O3_2.out))
  rintro e w5 ⟨v5_0, rfl, ho0, hb⟩
  refine ⟨_, rfl, ?_⟩
  have new_ : ∃ lo5 hi5 : Nat, Iv.Ob (Kd.int .i64) 3 w5 lo5 hi5 (fun k_ => True) v5_0 y0_0 ∧ w.heap.size ≤ lo5 ∧ w.heap.size < lo5 ∧ w.heap.size + 1 < lo5 ∧ hi3 ≤ lo5 := ⟨_, _, Iv.Ob.of_Rint ho0 (fun _ h_ => h_), (below_size HB.out), (Bx.box_lt bx1_), (Bx.box_lt bx4_), (Iv.Ob.size O3_0.out)⟩
  obtain ⟨lo5, hi5, o0_, d_w, f_PaL, f_PaA, d_t3⟩ := new_
  replace O3_0 := Aside0.mk (Iv.Ob.below O3_0.out hb)
  replace O3_1 := Aside0.mk (Iv.Ob.below O3_1.out hb)
  replace O3_2 := Aside0.mk (Iv.Ob.below O3_2.out hb)
  replace bx1_ := Bx.box_later bx1_ hb
  replace bx2_ := Bx.box_later bx2_ hb
  replace bx3_ := Bx.box_later bx3_ hb
  replace bx4_ := Bx.box_later bx4_ hb
  replace bx5_ := Bx.box_later bx5_ hb
  replace bx6_ := Bx.box_later bx6_ hb
  replace bx7_ := Bx.box_later bx7_ hb
  replace HB := Aside0.mk (below_step HB.out hb)
  clear hb ho0
  obtain ⟨B5_0, e5_0, rfl⟩ := Iv.Ob.slice o0_
  have O5_0 := Aside0.mk o0_
  clear o0_
  have DW_w_ := Aside0.mk d_w
  clear d_w
  have D_t3_w_ := Aside0.mk d_t3
  clear d_t3
  have F_PaL_w_ := Aside0.mk f_PaL
  clear f_PaL
  have F_PaA_w_ := Aside0.mk f_PaA
  clear f_PaA
  refine hK.out _ _ ⟨bx1_, bx2_, bx3_, bx4_, bx5_, bx6_, bx7_⟩ (fun hHeld => ?_)
  clear hK K
  refine norm_ (a' := ?_) ?_ ?_
  rotate_left
  · show Act.put _ (some 26) _ = _
    simp only [Act.put, List.setIfInBounds_toArray, List.set_cons_zero, List.set_cons_succ, i64_w, i32_w]
    rfl
  clear O3_0
  clear O3_1
  clear O3_2
  refine pure_ (i := 5) (N := some 21) (v := ?_) (a' := ?_) #[true, true, true, true, true, true, false, false, false, false] rfl rfl (by kernel_rfl) (fun _ _ _ h => h) (Or.inl ⟨by rfl, ?_⟩) ?_ ?_
  rotate_left
  · intro w'
    go_simp
    with_reducible rfl
  rotate_left
  · simp only [Act.put, List.setIfInBounds_toArray, List.set_cons_zero, List.set_cons_succ, i64_w, i32_w]
    rfl
  refine pure_ (i := 6) (N := some 27) (v := ?_) (a' := ?_) #[true, true, true, true, true, true, true, false, false, false] rfl rfl (by kernel_rfl) (fun _ _ _ h => h) (Or.inl ⟨by rfl, ?_⟩) ?_ ?_
  rotate_left
  · intro w'
    go_simp
    with_reducible rfl
  rotate_left
  · simp only [Act.put, List.setIfInBounds_toArray, List.set_cons_zero, List.set_cons_succ, i64_w, i32_w]
    rfl
  refine pure_ (i := 7) (N := some 28) (v := ?_) (a' := ?_) #[true, true, true, true, true, true, true, true, false, false] rfl rfl (by kernel_rfl) (fun _ _ _ h => h) (Or.inl ⟨by rfl, ?_⟩) ?_ ?_
  rotate_left
  · intro w'
    go_simp
    with_reducible rfl
  rotate_left
  · simp only [Act.put, List.setIfInBounds_toArray, List.set_cons_zero, List.set_cons_succ, i64_w, i32_w]
    rfl
  refine pure_ (i := 8) (N := some 6) (v := ?_) (a' := ?_) #[true, true, true, true, true, true, true, true, true, false] rfl rfl (by kernel_rfl) (fun _ _ _ h => h) (Or.inl ⟨by rfl, ?_⟩) ?_ ?_
  rotate_left
  · intro w'
    go_simp
    with_reducible rfl
  rotate_left
  · simp only [Act.put, List.setIfInBounds_toArray, List.set_cons_zero, List.set_cons_succ, i64_w, i32_w]
    rfl
  refine pure_ (i := 9) (N := some 7) (v := ?_) (a' := ?_) #[true, true, true, true, true, true, true, true, true, true] rfl rfl (by kernel_rfl) (fun _ _ _ h => h) (Or.inl ⟨by rfl, ?_⟩) ?_ ?_
  rotate_left
  · intro w'
    go_simp
    with_reducible rfl
  rotate_left
  · simp only [Act.put, List.setIfInBounds_toArray, List.set_cons_zero, List.set_cons_succ, i64_w, i32_w]
    rfl
  refine done_ (by kernel_rfl) ?_
  go_wp2_with (first | (go_at_call 13; refine (laws_toLocks.calls k2 _ _ l0_0 _ _ l0_1 _ _ l0_2 x0_0 x0_1 x0_2 _ ?s6_1 ?s6_2 ?s6_3 ?s6_4 ?s6_5 ?s6_6 H2.out).mono ?_; (case s6_1 => exact Kd.C_below HR0_0.out HB.out); (case s6_2 => exact HC0_0.out); (case s6_3 => exact Kd.C_below HR0_1.out HB.out); (case s6_4 => exact HC0_1.out); (case s6_5 => exact Kd.C_below HR0_2.out HB.out); (case s6_6 => exact HC0_2.out); rintro e w6 ⟨v6_0, v6_1, v6_2, rfl, ho0, ho1, ho2, hb⟩; have new_ : ∃ lo6 hi6 : Nat, Iv.Ob (Kd.slice 3 (Kd.int .i64)) 23 w6 lo6 hi6 (fun k_ => some k_ ≠ (v6_1 : Value).ownBlock ∧ some k_ ≠ (v6_2 : Value).ownBlock) v6_0 x0_0 ∧ Iv.Ob (Kd.int .i64) 3 w6 lo6 hi6 (fun k_ => some k_ ≠ (v6_2 : Value).ownBlock) v6_1 x0_1 ∧ Iv.Ob (Kd.int .i64) 3 w6 lo6 hi6 (fun k_ => some k_ ≠ (v6_1 : Value).ownBlock) v6_2 x0_2 ∧ w.heap.size ≤ lo6 ∧ w.heap.size < lo6 ∧ w.heap.size + 1 < lo6 ∧ hi5 ≤ lo6 := ⟨_, _, Iv.Ob.of_S ho0 (fun _ h_ => h_), Iv.Ob.of_Rint ho1 (fun _ h_ => h_), Iv.Ob.of_Rint ho2 (fun _ h_ => h_), (below_size HB.out), (Bx.box_lt bx1_), (Bx.box_lt bx4_), (Iv.Ob.size O5_0.out)⟩; obtain ⟨lo6, hi6, o0_, o1_, o2_, d_w, f_PaL, f_PaA, d_w_⟩ := new_; replace O5_0 := Aside0.mk (Iv.Ob.below O5_0.out hb); replace bx1_ := Bx.box_later bx1_ hb; replace bx2_ := Bx.box_later bx2_ hb; replace bx3_ := Bx.box_later bx3_ hb; replace bx4_ := Bx.box_later bx4_ hb; replace bx5_ := Bx.box_later bx5_ hb; replace bx6_ := Bx.box_later bx6_ hb; replace bx7_ := Bx.box_later bx7_ hb; replace HB := Aside0.mk (below_step HB.out hb); clear hb ho0 ho1 ho2; obtain ⟨B6_0, e6_0, rfl⟩ := Iv.Ob.slice o0_; have O6_0 := Aside0.mk o0_; clear o0_; obtain ⟨B6_1, e6_1, rfl⟩ := Iv.Ob.slice o1_; have O6_1 := Aside0.mk o1_; clear o1_; obtain ⟨B6_2, e6_2, rfl⟩ := Iv.Ob.slice o2_; have O6_2 := Aside0.mk o2_; clear o2_; have DW_x0 := Aside0.mk d_w; clear d_w; have D_w__x0 := Aside0.mk d_w_; clear d_w_; have F_PaL_x0 := Aside0.mk f_PaL; clear f_PaL; have F_PaA_x0 := Aside0.mk f_PaA; clear f_PaA; have E_w__x0 : Aside0 (hi5 ≤ w6.heap.size) := Aside0.mk (Iv.Ob.size (w := w6) O5_0.out); have E_x0_x0 : Aside0 (hi6 ≤ w6.heap.size) := Aside0.mk (Iv.Ob.size (w := w6) O6_0.out); have bx8_ : World.cell? (World.alloc w6 (.cells #[.slice B6_0 (List.length x0_0) e6_0, .slice B6_1 (List.length x0_1) e6_1, .slice B6_2 (List.length x0_2) e6_2] 25)) ⟨w6.heap.size, 0, none⟩ = some (.slice B6_0 (List.length x0_0) e6_0) := Bx.box_new _ _ _ _ _ rfl; have bx9_ : World.cell? (World.alloc w6 (.cells #[.slice B6_0 (List.length x0_0) e6_0, .slice B6_1 (List.length x0_1) e6_1, .slice B6_2 (List.length x0_2) e6_2] 25)) ⟨w6.heap.size, 1, none⟩ = some (.slice B6_1 (List.length x0_1) e6_1) := Bx.box_new _ _ _ _ _ rfl; have bx10_ : World.cell? (World.alloc w6 (.cells #[.slice B6_0 (List.length x0_0) e6_0, .slice B6_1 (List.length x0_1) e6_1, .slice B6_2 (List.length x0_2) e6_2] 25)) ⟨w6.heap.size, 2, none⟩ = some (.slice B6_2 (List.length x0_2) e6_2) := Bx.box_new _ _ _ _ _ rfl; have hal_ := below_alloc (Below.refl (World.heap w6).size w6) (.cells #[.slice B6_0 (List.length x0_0) e6_0, .slice B6_1 (List.length x0_1) e6_1, .slice B6_2 (List.length x0_2) e6_2] 25); replace bx1_ := Bx.box_later bx1_ hal_; replace bx2_ := Bx.box_later bx2_ hal_; replace bx3_ := Bx.box_later bx3_ hal_; replace bx4_ := Bx.box_later bx4_ hal_; replace bx5_ := Bx.box_later bx5_ hal_; replace bx6_ := Bx.box_later bx6_ hal_; replace bx7_ := Bx.box_later bx7_ hal_; replace O5_0 := Aside0.mk (Iv.Ob.below O5_0.out hal_); replace O6_0 := Aside0.mk (Iv.Ob.below O6_0.out hal_); replace O6_1 := Aside0.mk (Iv.Ob.below O6_1.out hal_); replace O6_2 := Aside0.mk (Iv.Ob.below O6_2.out hal_); replace HB := Aside0.mk (below_alloc HB.out (.cells #[.slice B6_0 (List.length x0_0) e6_0, .slice B6_1 (List.length x0_1) e6_1, .slice B6_2 (List.length x0_2) e6_2] 25)); clear hal_))
  refine Bx.start_any (n := 9) (S := fun w_ => World.cell? w_ ⟨w.heap.size, 0, none⟩ = some (.slice A0_0 (List.length l0_0) c0_0) ∧ World.cell? w_ ⟨w.heap.size, 1, none⟩ = some (.slice A0_1 (List.length l0_1) c0_1) ∧ World.cell? w_ ⟨w.heap.size, 2, none⟩ = some (.slice A0_2 (List.length l0_2) c0_2) ∧ World.cell? w_ ⟨w.heap.size + 1, 0, none⟩ = some (.int .i64 a1_0) ∧ World.cell? w_ ⟨w.heap.size + 1, 1, none⟩ = some (.int .i64 a1_1) ∧ World.cell? w_ ⟨w.heap.size + 1, 2, none⟩ = some (.bool a1_2) ∧ World.cell? w_ ⟨w.heap.size + 1, 3, none⟩ = some (.bool a1_3) ∧ World.cell? w_ ⟨w6.heap.size, 0, none⟩ = some (.slice B6_0 (List.length x0_0) e6_0) ∧ World.cell? w_ ⟨w6.heap.size, 1, none⟩ = some (.slice B6_1 (List.length x0_1) e6_1) ∧ World.cell? w_ ⟨w6.heap.size, 2, none⟩ = some (.slice B6_2 (List.length x0_2) e6_2)) (ds := []) #[false, false, false, false, false, false, false, false, false] (by kernel_rfl) rfl rfl ⟨bx1_, bx2_, bx3_, bx4_, bx5_, bx6_, bx7_, bx8_, bx9_, bx10_⟩ (fun w7 hb hHeld => ?_)
  replace O5_0 := Aside0.mk (Iv.Ob.below O5_0.out hb)
  replace O6_0 := Aside0.mk (Iv.Ob.below O6_0.out hb)
  replace O6_1 := Aside0.mk (Iv.Ob.below O6_1.out hb)
  replace O6_2 := Aside0.mk (Iv.Ob.below O6_2.out hb)
  replace bx1_ := Bx.box_later bx1_ hb
  replace bx2_ := Bx.box_later bx2_ hb
  replace bx3_ := Bx.box_later bx3_ hb
  replace bx4_ := Bx.box_later bx4_ hb
  replace bx5_ := Bx.box_later bx5_ hb
  replace bx6_ := Bx.box_later bx6_ hb
  replace bx7_ := Bx.box_later bx7_ hb
  replace bx8_ := Bx.box_later bx8_ hb
  replace bx9_ := Bx.box_later bx9_ hb
  replace bx10_ := Bx.box_later bx10_ hb
  replace HB := Aside0.mk (below_step HB.out hb)
  clear hb
  refine take_ (i := 0) (N := some 32) (v := ?_) (a' := ?_) #[true, false, false, false, false, false, false, false, false] rfl rfl (by kernel_rfl) (fun _ _ _ h => h) (Or.inl ⟨by rfl, ?_⟩) hHeld ?_ ?_
  rotate_left
  · rintro w' ⟨s0_, s1_, s2_, s3_, s4_, s5_, s6_, s7_, s8_, s9_⟩
    go_simp
    with_reducible rfl
  rotate_left
  · simp only [Act.put, List.setIfInBounds_toArray, List.set_cons_zero, List.set_cons_succ, i64_w, i32_w]
    rfl
  refine take_ (i := 1) (N := some 33) (v := ?_) (a' := ?_) #[true, true, false, false, false, false, false, false, false] rfl rfl (by kernel_rfl) (fun _ _ _ h => h) (Or.inl ⟨by rfl, ?_⟩) hHeld ?_ ?_
  rotate_left
  · rintro w' ⟨s0_, s1_, s2_, s3_, s4_, s5_, s6_, s7_, s8_, s9_⟩
    go_simp
    with_reducible rfl
  rotate_left
  · simp only [Act.put, List.setIfInBounds_toArray, List.set_cons_zero, List.set_cons_succ, i64_w, i32_w]
    rfl
  refine one_ (i := 2) (N := some 34) #[true, true, true, false, false, false, false, false, false] rfl rfl (by kernel_rfl) (by decide) (fun K hK => ?_)
  refine goes_ Try.func19 (by kernel_rfl) rfl #[.agg #[.int .i64 a1_0, .int .i64 a1_1, .bool a1_2, .bool a1_3]] (by rfl) rfl rfl (by (try simp only [List.map_toArray, List.map_cons, List.map_nil]); first | done | rfl | (simp only [List.length_drop, List.length_take]; rfl)) ?_
  with_reducible refine (laws_toAsk.calls a1_0 a1_1 a1_2 a1_3 x1_0 x1_1 x1_2 x1_3 _ H3.out).mono ?_
  rintro e w8 ⟨rfl, hb⟩
  refine ⟨_, rfl, ?_⟩
  replace O5_0 := Aside0.mk (Iv.Ob.below O5_0.out hb)
  replace O6_0 := Aside0.mk (Iv.Ob.below O6_0.out hb)
  replace O6_1 := Aside0.mk (Iv.Ob.below O6_1.out hb)
  replace O6_2 := Aside0.mk (Iv.Ob.below O6_2.out hb)
  replace bx1_ := Bx.box_later bx1_ hb
  replace bx2_ := Bx.box_later bx2_ hb
  replace bx3_ := Bx.box_later bx3_ hb
  replace bx4_ := Bx.box_later bx4_ hb
  replace bx5_ := Bx.box_later bx5_ hb
  replace bx6_ := Bx.box_later bx6_ hb
  replace bx7_ := Bx.box_later bx7_ hb
  replace bx8_ := Bx.box_later bx8_ hb
  replace bx9_ := Bx.box_later bx9_ hb
  replace bx10_ := Bx.box_later bx10_ hb
  replace HB := Aside0.mk (below_step HB.out hb)
  clear hb
  refine hK.out _ _ ⟨bx1_, bx2_, bx3_, bx4_, bx5_, bx6_, bx7_, bx8_, bx9_, bx10_⟩ (fun hHeld => ?_)
  clear hK K
  refine norm_ (a' := ?_) ?_ ?_
  rotate_left
  · show Act.put _ (some 34) _ = _
    simp only [Act.put, List.setIfInBounds_toArray, List.set_cons_zero, List.set_cons_succ, i64_w, i32_w]
    rfl
  refine one_ (i := 3) (N := some 35) #[true, true, true, true, false, false, false, false, false] rfl rfl (by kernel_rfl) (by decide) (fun K hK => ?_)
  refine goes_ Try.func20 (by kernel_rfl) rfl #[.agg #[.slice B6_0 (List.length x0_0) e6_0, .slice B6_1 (List.length x0_1) e6_1, .slice B6_2 (List.length x0_2) e6_2], .agg #[.int .i64 x1_0, .int .i64 x1_1, .bool x1_2, .bool x1_3]] (by rfl) rfl rfl (by (try simp only [List.map_toArray, List.map_cons, List.map_nil]); first | done | rfl | (simp only [List.length_drop, List.length_take]; rfl)) ?_
  with_reducible refine (impl_WaitsFor.calls k5 _ _ x0_0 _ _ x0_1 _ _ x0_2 x1_0 x1_1 x1_2 x1_3 y0_0 y1 _ ?s9_1 ?s9_2 ?s9_3 ?s9_4 ?s9_5 ?s9_6 H5.out).mono ?_
  (case s9_1 => exact Iv.Ob.C O6_0.out)
  (case s9_2 => exact (Iv.Ob.le O6_0.out))
  (case s9_3 => exact Iv.Ob.C O6_1.out)
  (case s9_4 => exact (Iv.Ob.le O6_1.out))
  (case s9_5 => exact Iv.Ob.C O6_2.out)
  (case s9_6 => exact (Iv.Ob.le O6_2.out))
  rintro e w9 ⟨v9_0, rfl, ho0, hb⟩
  refine ⟨_, rfl, ?_⟩
  have new_ : ∃ lo9 hi9 : Nat, Iv.Ob (Kd.int .i64) 3 w9 lo9 hi9 (fun k_ => True) v9_0 y0_0 ∧ w.heap.size ≤ lo9 ∧ w.heap.size < lo9 ∧ w.heap.size + 1 < lo9 ∧ w6.heap.size < lo9 ∧ hi5 ≤ lo9 ∧ hi6 ≤ lo9 := ⟨_, _, Iv.Ob.of_Rint ho0 (fun _ h_ => h_), (below_size HB.out), (Bx.box_lt bx1_), (Bx.box_lt bx4_), (Bx.box_lt bx8_), (Iv.Ob.size O5_0.out), (Iv.Ob.size O6_0.out)⟩
  obtain ⟨lo9, hi9, o0_, d_w, f_PaL, f_PaA, f_x0, d_w_, d_x0⟩ := new_
  replace O5_0 := Aside0.mk (Iv.Ob.below O5_0.out hb)
  replace O6_0 := Aside0.mk (Iv.Ob.below O6_0.out hb)
  replace O6_1 := Aside0.mk (Iv.Ob.below O6_1.out hb)
  replace O6_2 := Aside0.mk (Iv.Ob.below O6_2.out hb)
  replace bx1_ := Bx.box_later bx1_ hb
  replace bx2_ := Bx.box_later bx2_ hb
  replace bx3_ := Bx.box_later bx3_ hb
  replace bx4_ := Bx.box_later bx4_ hb
  replace bx5_ := Bx.box_later bx5_ hb
  replace bx6_ := Bx.box_later bx6_ hb
  replace bx7_ := Bx.box_later bx7_ hb
  replace bx8_ := Bx.box_later bx8_ hb
  replace bx9_ := Bx.box_later bx9_ hb
  replace bx10_ := Bx.box_later bx10_ hb
  replace HB := Aside0.mk (below_step HB.out hb)
  clear hb ho0
  obtain ⟨B9_0, e9_0, rfl⟩ := Iv.Ob.slice o0_
  have O9_0 := Aside0.mk o0_
  clear o0_
  have DW_g_ := Aside0.mk d_w
  clear d_w
  have D_w__g_ := Aside0.mk d_w_
  clear d_w_
  have D_x0_g_ := Aside0.mk d_x0
  clear d_x0
  have F_PaL_g_ := Aside0.mk f_PaL
  clear f_PaL
  have F_PaA_g_ := Aside0.mk f_PaA
  clear f_PaA
  have F_x0_g_ := Aside0.mk f_x0
  clear f_x0
  refine hK.out _ _ ⟨bx1_, bx2_, bx3_, bx4_, bx5_, bx6_, bx7_, bx8_, bx9_, bx10_⟩ (fun hHeld => ?_)
  clear hK K
  refine norm_ (a' := ?_) ?_ ?_
  rotate_left
  · show Act.put _ (some 35) _ = _
    simp only [Act.put, List.setIfInBounds_toArray, List.set_cons_zero, List.set_cons_succ, i64_w, i32_w]
    rfl
  refine pure_ (i := 4) (N := some 31) (v := ?_) (a' := ?_) #[true, true, true, true, true, false, false, false, false] rfl rfl (by kernel_rfl) (fun _ _ _ h => h) (Or.inl ⟨by rfl, ?_⟩) ?_ ?_
  rotate_left
  · intro w'
    go_simp
    with_reducible rfl
  rotate_left
  · simp only [Act.put, List.setIfInBounds_toArray, List.set_cons_zero, List.set_cons_succ, i64_w, i32_w]
    rfl
  refine pure_ (i := 5) (N := some 36) (v := ?_) (a' := ?_) #[true, true, true, true, true, true, false, false, false] rfl rfl (by kernel_rfl) (fun _ _ _ h => h) (Or.inl ⟨by rfl, ?_⟩) ?_ ?_
  rotate_left
  · intro w'
    go_simp
    with_reducible rfl
  rotate_left
  · simp only [Act.put, List.setIfInBounds_toArray, List.set_cons_zero, List.set_cons_succ, i64_w, i32_w]
    rfl
  refine pure_ (i := 6) (N := some 37) (v := ?_) (a' := ?_) #[true, true, true, true, true, true, true, false, false] rfl rfl (by kernel_rfl) (fun _ _ _ h => h) (Or.inl ⟨by rfl, ?_⟩) ?_ ?_
  rotate_left
  · intro w'
    go_simp
    with_reducible rfl
  rotate_left
  · simp only [Act.put, List.setIfInBounds_toArray, List.set_cons_zero, List.set_cons_succ, i64_w, i32_w]
    rfl
  refine pure_ (i := 7) (N := some 9) (v := ?_) (a' := ?_) #[true, true, true, true, true, true, true, true, false] rfl rfl (by kernel_rfl) (fun _ _ _ h => h) (Or.inl ⟨by rfl, ?_⟩) ?_ ?_
  rotate_left
  · intro w'
    go_simp
    with_reducible rfl
  rotate_left
  · simp only [Act.put, List.setIfInBounds_toArray, List.set_cons_zero, List.set_cons_succ, i64_w, i32_w]
    rfl
  refine pure_ (i := 8) (N := some 10) (v := ?_) (a' := ?_) #[true, true, true, true, true, true, true, true, true] rfl rfl (by kernel_rfl) (fun _ _ _ h => h) (Or.inl ⟨by rfl, ?_⟩) ?_ ?_
  rotate_left
  · intro w'
    go_simp
    with_reducible rfl
  rotate_left
  · simp only [Act.put, List.setIfInBounds_toArray, List.set_cons_zero, List.set_cons_succ, i64_w, i32_w]
    rfl
  refine done_ (by kernel_rfl) ?_
  go_wp2_with (first | (go_at_call 15; refine (laws_eqIntS.calls k6 _ _ y0_0 _ _ y0_0 true _ ?s10_1 ?s10_2 ?s10_3 ?s10_4 H6.out).mono ?_; (case s10_1 => exact Iv.Ob.C O9_0.out); (case s10_2 => exact (Iv.Ob.le O9_0.out)); (case s10_3 => exact Iv.Ob.C O5_0.out); (case s10_4 => exact (Iv.Ob.le O5_0.out)); rintro e w10 ⟨rfl, hb⟩; obtain ⟨nd_, hd_⟩ := hb; have hb := show Below (World.heap w9).size w9 w10 from hd_ ▸ pw_below_drewN (Below.refl _ _) nd_; clear hd_; replace O5_0 := Aside0.mk (Iv.Ob.below O5_0.out hb); replace O6_0 := Aside0.mk (Iv.Ob.below O6_0.out hb); replace O6_1 := Aside0.mk (Iv.Ob.below O6_1.out hb); replace O6_2 := Aside0.mk (Iv.Ob.below O6_2.out hb); replace O9_0 := Aside0.mk (Iv.Ob.below O9_0.out hb); replace bx1_ := Bx.box_later bx1_ hb; replace bx2_ := Bx.box_later bx2_ hb; replace bx3_ := Bx.box_later bx3_ hb; replace bx4_ := Bx.box_later bx4_ hb; replace bx5_ := Bx.box_later bx5_ hb; replace bx6_ := Bx.box_later bx6_ hb; replace bx7_ := Bx.box_later bx7_ hb; replace bx8_ := Bx.box_later bx8_ hb; replace bx9_ := Bx.box_later bx9_ hb; replace bx10_ := Bx.box_later bx10_ hb; replace HB := Aside0.mk (below_step HB.out hb); clear hb))
  refine Bx.start_any (n := 5) (S := fun w_ => World.cell? w_ ⟨w.heap.size, 0, none⟩ = some (.slice A0_0 (List.length l0_0) c0_0) ∧ World.cell? w_ ⟨w.heap.size, 1, none⟩ = some (.slice A0_1 (List.length l0_1) c0_1) ∧ World.cell? w_ ⟨w.heap.size, 2, none⟩ = some (.slice A0_2 (List.length l0_2) c0_2) ∧ World.cell? w_ ⟨w.heap.size + 1, 0, none⟩ = some (.int .i64 a1_0) ∧ World.cell? w_ ⟨w.heap.size + 1, 1, none⟩ = some (.int .i64 a1_1) ∧ World.cell? w_ ⟨w.heap.size + 1, 2, none⟩ = some (.bool a1_2) ∧ World.cell? w_ ⟨w.heap.size + 1, 3, none⟩ = some (.bool a1_3) ∧ World.cell? w_ ⟨w6.heap.size, 0, none⟩ = some (.slice B6_0 (List.length x0_0) e6_0) ∧ World.cell? w_ ⟨w6.heap.size, 1, none⟩ = some (.slice B6_1 (List.length x0_1) e6_1) ∧ World.cell? w_ ⟨w6.heap.size, 2, none⟩ = some (.slice B6_2 (List.length x0_2) e6_2)) (ds := []) #[false, false, false, false, false] (by kernel_rfl) rfl rfl ⟨bx1_, bx2_, bx3_, bx4_, bx5_, bx6_, bx7_, bx8_, bx9_, bx10_⟩ (fun w11 hb hHeld => ?_)
  replace O5_0 := Aside0.mk (Iv.Ob.below O5_0.out hb)
  replace O6_0 := Aside0.mk (Iv.Ob.below O6_0.out hb)
  replace O6_1 := Aside0.mk (Iv.Ob.below O6_1.out hb)
  replace O6_2 := Aside0.mk (Iv.Ob.below O6_2.out hb)
  replace O9_0 := Aside0.mk (Iv.Ob.below O9_0.out hb)
  replace bx1_ := Bx.box_later bx1_ hb
  replace bx2_ := Bx.box_later bx2_ hb
  replace bx3_ := Bx.box_later bx3_ hb
  replace bx4_ := Bx.box_later bx4_ hb
  replace bx5_ := Bx.box_later bx5_ hb
  replace bx6_ := Bx.box_later bx6_ hb
  replace bx7_ := Bx.box_later bx7_ hb
  replace bx8_ := Bx.box_later bx8_ hb
  replace bx9_ := Bx.box_later bx9_ hb
  replace bx10_ := Bx.box_later bx10_ hb
  replace HB := Aside0.mk (below_step HB.out hb)
  clear hb
  refine take_ (i := 0) (N := some 47) (v := ?_) (a' := ?_) #[true, false, false, false, false] rfl rfl (by kernel_rfl) (fun _ _ _ h => h) (Or.inl ⟨by rfl, ?_⟩) hHeld ?_ ?_
  rotate_left
  · rintro w' ⟨s0_, s1_, s2_, s3_, s4_, s5_, s6_, s7_, s8_, s9_⟩
    go_simp
    with_reducible rfl
  rotate_left
  · simp only [Act.put, List.setIfInBounds_toArray, List.set_cons_zero, List.set_cons_succ, i64_w, i32_w]
    rfl
  refine take_ (i := 1) (N := some 48) (v := ?_) (a' := ?_) #[true, true, false, false, false] rfl rfl (by kernel_rfl) (fun _ _ _ h => h) (Or.inl ⟨by rfl, ?_⟩) hHeld ?_ ?_
  rotate_left
  · rintro w' ⟨s0_, s1_, s2_, s3_, s4_, s5_, s6_, s7_, s8_, s9_⟩
    go_simp
    with_reducible rfl
  rotate_left
  · simp only [Act.put, List.setIfInBounds_toArray, List.set_cons_zero, List.set_cons_succ, i64_w, i32_w]
    rfl
  refine one_ (i := 2) (N := some 49) #[true, true, true, false, false] rfl rfl (by kernel_rfl) (by decide) (fun K hK => ?_)
  refine goes_ Try.func13 (by kernel_rfl) rfl #[.agg #[.slice A0_0 l0_0.length c0_0, .slice A0_1 l0_1.length c0_1, .slice A0_2 l0_2.length c0_2]] (by rfl) rfl rfl (by (try simp only [List.map_toArray, List.map_cons, List.map_nil]); first | done | rfl | (simp only [List.length_drop, List.length_take]; rfl)) ?_
  with_reducible refine (laws_toLocks.calls k2 _ _ l0_0 _ _ l0_1 _ _ l0_2 x0_0 x0_1 x0_2 _ ?s12_1 ?s12_2 ?s12_3 ?s12_4 ?s12_5 ?s12_6 H2.out).mono ?_
  (case s12_1 => exact Kd.C_below HR0_0.out HB.out)
  (case s12_2 => exact HC0_0.out)
  (case s12_3 => exact Kd.C_below HR0_1.out HB.out)
  (case s12_4 => exact HC0_1.out)
  (case s12_5 => exact Kd.C_below HR0_2.out HB.out)
  (case s12_6 => exact HC0_2.out)
  rintro e w12 ⟨v12_0, v12_1, v12_2, rfl, ho0, ho1, ho2, hb⟩
  refine ⟨_, rfl, ?_⟩
  have new_ : ∃ lo12 hi12 : Nat, Iv.Ob (Kd.slice 3 (Kd.int .i64)) 23 w12 lo12 hi12 (fun k_ => some k_ ≠ (v12_1 : Value).ownBlock ∧ some k_ ≠ (v12_2 : Value).ownBlock) v12_0 x0_0 ∧ Iv.Ob (Kd.int .i64) 3 w12 lo12 hi12 (fun k_ => some k_ ≠ (v12_2 : Value).ownBlock) v12_1 x0_1 ∧ Iv.Ob (Kd.int .i64) 3 w12 lo12 hi12 (fun k_ => some k_ ≠ (v12_1 : Value).ownBlock) v12_2 x0_2 ∧ w.heap.size ≤ lo12 ∧ w.heap.size < lo12 ∧ w.heap.size + 1 < lo12 ∧ w6.heap.size < lo12 ∧ hi5 ≤ lo12 ∧ hi6 ≤ lo12 ∧ hi9 ≤ lo12 := ⟨_, _, Iv.Ob.of_S ho0 (fun _ h_ => h_), Iv.Ob.of_Rint ho1 (fun _ h_ => h_), Iv.Ob.of_Rint ho2 (fun _ h_ => h_), (below_size HB.out), (Bx.box_lt bx1_), (Bx.box_lt bx4_), (Bx.box_lt bx8_), (Iv.Ob.size O5_0.out), (Iv.Ob.size O6_0.out), (Iv.Ob.size O9_0.out)⟩
  obtain ⟨lo12, hi12, o0_, o1_, o2_, d_w, f_PaL, f_PaA, f_x0, d_w_, d_x0, d_g_⟩ := new_
  replace O5_0 := Aside0.mk (Iv.Ob.below O5_0.out hb)
  replace O6_0 := Aside0.mk (Iv.Ob.below O6_0.out hb)
  replace O6_1 := Aside0.mk (Iv.Ob.below O6_1.out hb)
  replace O6_2 := Aside0.mk (Iv.Ob.below O6_2.out hb)
  replace O9_0 := Aside0.mk (Iv.Ob.below O9_0.out hb)
  replace bx1_ := Bx.box_later bx1_ hb
  replace bx2_ := Bx.box_later bx2_ hb
  replace bx3_ := Bx.box_later bx3_ hb
  replace bx4_ := Bx.box_later bx4_ hb
  replace bx5_ := Bx.box_later bx5_ hb
  replace bx6_ := Bx.box_later bx6_ hb
  replace bx7_ := Bx.box_later bx7_ hb
  replace bx8_ := Bx.box_later bx8_ hb
  replace bx9_ := Bx.box_later bx9_ hb
  replace bx10_ := Bx.box_later bx10_ hb
  replace HB := Aside0.mk (below_step HB.out hb)
  clear hb ho0 ho1 ho2
  obtain ⟨B12_0, e12_0, rfl⟩ := Iv.Ob.slice o0_
  have O12_0 := Aside0.mk o0_
  clear o0_
  obtain ⟨B12_1, e12_1, rfl⟩ := Iv.Ob.slice o1_
  have O12_1 := Aside0.mk o1_
  clear o1_
  obtain ⟨B12_2, e12_2, rfl⟩ := Iv.Ob.slice o2_
  have O12_2 := Aside0.mk o2_
  clear o2_
  have DW_t12 := Aside0.mk d_w
  clear d_w
  have D_w__t12 := Aside0.mk d_w_
  clear d_w_
  have D_x0_t12 := Aside0.mk d_x0
  clear d_x0
  have D_g__t12 := Aside0.mk d_g_
  clear d_g_
  have F_PaL_t12 := Aside0.mk f_PaL
  clear f_PaL
  have F_PaA_t12 := Aside0.mk f_PaA
  clear f_PaA
  have F_x0_t12 := Aside0.mk f_x0
  clear f_x0
  refine hK.out _ _ ⟨bx1_, bx2_, bx3_, bx4_, bx5_, bx6_, bx7_, bx8_, bx9_, bx10_⟩ (fun hHeld => ?_)
  clear hK K
  refine norm_ (a' := ?_) ?_ ?_
  rotate_left
  · show Act.put _ (some 49) _ = _
    simp only [Act.put, List.setIfInBounds_toArray, List.set_cons_zero, List.set_cons_succ, i64_w, i32_w]
    rfl
  refine one_ (i := 3) (N := some 50) #[true, true, true, true, false] rfl rfl (by kernel_rfl) (by decide) (fun K hK => ?_)
  refine goes_ Try.func8 (by kernel_rfl) rfl #[.agg #[.slice B6_0 (List.length x0_0) e6_0, .slice B6_1 (List.length x0_1) e6_1, .slice B6_2 (List.length x0_2) e6_2], .agg #[.slice B12_0 (List.length x0_0) e12_0, .slice B12_1 (List.length x0_1) e12_1, .slice B12_2 (List.length x0_2) e12_2]] (by rfl) rfl rfl (by (try simp only [List.map_toArray, List.map_cons, List.map_nil]); first | done | rfl | (simp only [List.length_drop, List.length_take]; rfl)) ?_
  with_reducible refine (laws_eqLocks.calls k7 _ _ x0_0 _ _ x0_1 _ _ x0_2 _ _ x0_0 _ _ x0_1 _ _ x0_2 true _ ?s13_1 ?s13_2 ?s13_3 ?s13_4 ?s13_5 ?s13_6 ?s13_7 ?s13_8 ?s13_9 ?s13_10 ?s13_11 ?s13_12 H7.out).mono ?_
  (case s13_1 => exact Iv.Ob.C O6_0.out)
  (case s13_2 => exact (Iv.Ob.le O6_0.out))
  (case s13_3 => exact Iv.Ob.C O6_1.out)
  (case s13_4 => exact (Iv.Ob.le O6_1.out))
  (case s13_5 => exact Iv.Ob.C O6_2.out)
  (case s13_6 => exact (Iv.Ob.le O6_2.out))
  (case s13_7 => exact Iv.Ob.C O12_0.out)
  (case s13_8 => exact (Iv.Ob.le O12_0.out))
  (case s13_9 => exact Iv.Ob.C O12_1.out)
  (case s13_10 => exact (Iv.Ob.le O12_1.out))
  (case s13_11 => exact Iv.Ob.C O12_2.out)
  (case s13_12 => exact (Iv.Ob.le O12_2.out))
  rintro e w13 ⟨rfl, hb⟩
  refine ⟨_, rfl, ?_⟩
  replace O5_0 := Aside0.mk (Iv.Ob.below O5_0.out hb)
  replace O6_0 := Aside0.mk (Iv.Ob.below O6_0.out hb)
  replace O6_1 := Aside0.mk (Iv.Ob.below O6_1.out hb)
  replace O6_2 := Aside0.mk (Iv.Ob.below O6_2.out hb)
  replace O9_0 := Aside0.mk (Iv.Ob.below O9_0.out hb)
  replace O12_0 := Aside0.mk (Iv.Ob.below O12_0.out hb)
  replace O12_1 := Aside0.mk (Iv.Ob.below O12_1.out hb)
  replace O12_2 := Aside0.mk (Iv.Ob.below O12_2.out hb)
  replace bx1_ := Bx.box_later bx1_ hb
  replace bx2_ := Bx.box_later bx2_ hb
  replace bx3_ := Bx.box_later bx3_ hb
  replace bx4_ := Bx.box_later bx4_ hb
  replace bx5_ := Bx.box_later bx5_ hb
  replace bx6_ := Bx.box_later bx6_ hb
  replace bx7_ := Bx.box_later bx7_ hb
  replace bx8_ := Bx.box_later bx8_ hb
  replace bx9_ := Bx.box_later bx9_ hb
  replace bx10_ := Bx.box_later bx10_ hb
  replace HB := Aside0.mk (below_step HB.out hb)
  clear hb
  refine hK.out _ _ ⟨bx1_, bx2_, bx3_, bx4_, bx5_, bx6_, bx7_, bx8_, bx9_, bx10_⟩ (fun hHeld => ?_)
  clear hK K
  refine norm_ (a' := ?_) ?_ ?_
  rotate_left
  · show Act.put _ (some 50) _ = _
    simp only [Act.put, List.setIfInBounds_toArray, List.set_cons_zero, List.set_cons_succ, i64_w, i32_w]
    rfl
  clear O12_0
  clear O12_1
  clear O12_2
  refine pure_ (i := 4) (N := some 51) (v := ?_) (a' := ?_) #[true, true, true, true, true] rfl rfl (by kernel_rfl) (fun _ _ _ h => h) (Or.inl ⟨by rfl, ?_⟩) ?_ ?_
  rotate_left
  · intro w'
    go_simp
    with_reducible rfl
  rotate_left
  · simp only [Act.put, List.setIfInBounds_toArray, List.set_cons_zero, List.set_cons_succ, i64_w, i32_w]
    rfl
  refine done_ (by kernel_rfl) ?_
  go_wp2_with (first | (go_at_call 9; refine (Mk.markLocks w _ lo6 hi6 1 M1 _ _ _ x0_0 x0_1 x0_2 HB.out DW_x0.out O6_0.out O6_1.out O6_2.out HMM10.out HMM11.out).mono ?_; rintro e w14 ⟨rfl, mk0, mk1, mk2, hb, hk⟩; replace O5_0 := Aside0.mk (Iv.Ob.kept O5_0.out hk (by have h1_ := D_w__x0.out; omega)); replace O9_0 := Aside0.mk (Iv.Ob.kept O9_0.out hk (by have h1_ := D_x0_g_.out; omega)); replace bx1_ := Bx.box_kept bx1_ hk (.inl (by have := F_PaL_x0.out; simpa using this)); replace bx2_ := Bx.box_kept bx2_ hk (.inl (by have := F_PaL_x0.out; simpa using this)); replace bx3_ := Bx.box_kept bx3_ hk (.inl (by have := F_PaL_x0.out; simpa using this)); replace bx4_ := Bx.box_kept bx4_ hk (.inl (by have := F_PaA_x0.out; simpa using this)); replace bx5_ := Bx.box_kept bx5_ hk (.inl (by have := F_PaA_x0.out; simpa using this)); replace bx6_ := Bx.box_kept bx6_ hk (.inl (by have := F_PaA_x0.out; simpa using this)); replace bx7_ := Bx.box_kept bx7_ hk (.inl (by have := F_PaA_x0.out; simpa using this)); replace bx8_ := Bx.box_kept bx8_ hk (.inr (by have := E_x0_x0.out; simpa using this)); replace bx9_ := Bx.box_kept bx9_ hk (.inr (by have := E_x0_x0.out; simpa using this)); replace bx10_ := Bx.box_kept bx10_ hk (.inr (by have := E_x0_x0.out; simpa using this)); replace HB := Aside0.mk hb; clear hb hk; clear mk0; clear mk1; clear mk2; clear O6_0; clear O6_1; clear O6_2))
  go_wp2_with (first | (go_at_call 15; refine (laws_eqIntS.calls k6 _ _ y0_0 _ _ y0_0 true _ ?s15_1 ?s15_2 ?s15_3 ?s15_4 H6.out).mono ?_; (case s15_1 => exact Iv.Ob.C O9_0.out); (case s15_2 => exact (Iv.Ob.le O9_0.out)); (case s15_3 => exact Iv.Ob.C O5_0.out); (case s15_4 => exact (Iv.Ob.le O5_0.out)); rintro e w15 ⟨rfl, hb⟩; obtain ⟨nd_, hd_⟩ := hb; have hb := show Below (World.heap w14).size w14 w15 from hd_ ▸ pw_below_drewN (Below.refl _ _) nd_; clear hd_; replace O5_0 := Aside0.mk (Iv.Ob.below O5_0.out hb); replace O9_0 := Aside0.mk (Iv.Ob.below O9_0.out hb); replace bx1_ := Bx.box_later bx1_ hb; replace bx2_ := Bx.box_later bx2_ hb; replace bx3_ := Bx.box_later bx3_ hb; replace bx4_ := Bx.box_later bx4_ hb; replace bx5_ := Bx.box_later bx5_ hb; replace bx6_ := Bx.box_later bx6_ hb; replace bx7_ := Bx.box_later bx7_ hb; replace bx8_ := Bx.box_later bx8_ hb; replace bx9_ := Bx.box_later bx9_ hb; replace bx10_ := Bx.box_later bx10_ hb; replace HB := Aside0.mk (below_step HB.out hb); clear hb))
  go_wp2_with (first | (go_at_call 16; refine (Mk.markIntS w _ lo9 hi9 1 M2 _ y0_0 HB.out DW_g_.out O9_0.out HMM20.out HMM21.out).mono ?_; rintro e w16 ⟨rfl, mk0, hb, hk⟩; replace O5_0 := Aside0.mk (Iv.Ob.kept O5_0.out hk (by have h1_ := D_w__g_.out; omega)); replace bx1_ := Bx.box_kept bx1_ hk (.inl (by have := F_PaL_g_.out; simpa using this)); replace bx2_ := Bx.box_kept bx2_ hk (.inl (by have := F_PaL_g_.out; simpa using this)); replace bx3_ := Bx.box_kept bx3_ hk (.inl (by have := F_PaL_g_.out; simpa using this)); replace bx4_ := Bx.box_kept bx4_ hk (.inl (by have := F_PaA_g_.out; simpa using this)); replace bx5_ := Bx.box_kept bx5_ hk (.inl (by have := F_PaA_g_.out; simpa using this)); replace bx6_ := Bx.box_kept bx6_ hk (.inl (by have := F_PaA_g_.out; simpa using this)); replace bx7_ := Bx.box_kept bx7_ hk (.inl (by have := F_PaA_g_.out; simpa using this)); replace bx8_ := Bx.box_kept bx8_ hk (.inl (by have := F_x0_g_.out; simpa using this)); replace bx9_ := Bx.box_kept bx9_ hk (.inl (by have := F_x0_g_.out; simpa using this)); replace bx10_ := Bx.box_kept bx10_ hk (.inl (by have := F_x0_g_.out; simpa using this)); replace HB := Aside0.mk hb; clear hb hk; replace O9_0 := Aside0.mk mk0; clear mk0))
  go_wp2_with (first | (go_at_call 17; refine Bx.calls_at ?e17_ ((laws_heldIntS.calls k8 B9_0 e9_0 (Ax.mkIntS y0_0 1) 1 M2 _ ?s17_1 ?s17_2 H8.out).mono ?_); (case e17_ => simp only [Ax.mkIntS_length, Ax.mkOf_length]); (case s17_1 => exact Iv.Ob.C O9_0.out); (case s17_2 => exact (Iv.Ob.le O9_0.out)); rintro e w17 ⟨rfl, hb⟩; obtain ⟨nd_, hd_⟩ := hb; have hb := show Below (World.heap w16).size w16 w17 from hd_ ▸ pw_below_drewN (Below.refl _ _) nd_; clear hd_; replace O5_0 := Aside0.mk (Iv.Ob.below O5_0.out hb); replace O9_0 := Aside0.mk (Iv.Ob.below O9_0.out hb); replace bx1_ := Bx.box_later bx1_ hb; replace bx2_ := Bx.box_later bx2_ hb; replace bx3_ := Bx.box_later bx3_ hb; replace bx4_ := Bx.box_later bx4_ hb; replace bx5_ := Bx.box_later bx5_ hb; replace bx6_ := Bx.box_later bx6_ hb; replace bx7_ := Bx.box_later bx7_ hb; replace bx8_ := Bx.box_later bx8_ hb; replace bx9_ := Bx.box_later bx9_ hb; replace bx10_ := Bx.box_later bx10_ hb; replace HB := Aside0.mk (below_step HB.out hb); clear hb))
  refine Bx.start_any (n := 10) (S := fun w_ => World.cell? w_ ⟨w.heap.size, 0, none⟩ = some (.slice A0_0 (List.length l0_0) c0_0) ∧ World.cell? w_ ⟨w.heap.size, 1, none⟩ = some (.slice A0_1 (List.length l0_1) c0_1) ∧ World.cell? w_ ⟨w.heap.size, 2, none⟩ = some (.slice A0_2 (List.length l0_2) c0_2) ∧ World.cell? w_ ⟨w.heap.size + 1, 0, none⟩ = some (.int .i64 a1_0) ∧ World.cell? w_ ⟨w.heap.size + 1, 1, none⟩ = some (.int .i64 a1_1) ∧ World.cell? w_ ⟨w.heap.size + 1, 2, none⟩ = some (.bool a1_2) ∧ World.cell? w_ ⟨w.heap.size + 1, 3, none⟩ = some (.bool a1_3) ∧ World.cell? w_ ⟨w6.heap.size, 0, none⟩ = some (.slice B6_0 (List.length x0_0) e6_0) ∧ World.cell? w_ ⟨w6.heap.size, 1, none⟩ = some (.slice B6_1 (List.length x0_1) e6_1) ∧ World.cell? w_ ⟨w6.heap.size, 2, none⟩ = some (.slice B6_2 (List.length x0_2) e6_2)) (ds := []) #[false, false, false, false, false, false, false, false, false, false] (by kernel_rfl) rfl rfl ⟨bx1_, bx2_, bx3_, bx4_, bx5_, bx6_, bx7_, bx8_, bx9_, bx10_⟩ (fun w18 hb hHeld => ?_)
  replace O5_0 := Aside0.mk (Iv.Ob.below O5_0.out hb)
  replace O9_0 := Aside0.mk (Iv.Ob.below O9_0.out hb)
  replace bx1_ := Bx.box_later bx1_ hb
  replace bx2_ := Bx.box_later bx2_ hb
  replace bx3_ := Bx.box_later bx3_ hb
  replace bx4_ := Bx.box_later bx4_ hb
  replace bx5_ := Bx.box_later bx5_ hb
  replace bx6_ := Bx.box_later bx6_ hb
  replace bx7_ := Bx.box_later bx7_ hb
  replace bx8_ := Bx.box_later bx8_ hb
  replace bx9_ := Bx.box_later bx9_ hb
  replace bx10_ := Bx.box_later bx10_ hb
  replace HB := Aside0.mk (below_step HB.out hb)
  clear hb
  refine take_ (i := 0) (N := some 80) (v := ?_) (a' := ?_) #[true, false, false, false, false, false, false, false, false, false] rfl rfl (by kernel_rfl) (fun _ _ _ h => h) (Or.inl ⟨by rfl, ?_⟩) hHeld ?_ ?_
  rotate_left
  · rintro w' ⟨s0_, s1_, s2_, s3_, s4_, s5_, s6_, s7_, s8_, s9_⟩
    go_simp
    with_reducible rfl
  rotate_left
  · simp only [Act.put, List.setIfInBounds_toArray, List.set_cons_zero, List.set_cons_succ, i64_w, i32_w]
    rfl
  refine take_ (i := 2) (N := some 82) (v := ?_) (a' := ?_) #[true, false, true, false, false, false, false, false, false, false] rfl rfl (by kernel_rfl) (fun _ _ _ h => h) (Or.inl ⟨by rfl, ?_⟩) hHeld ?_ ?_
  rotate_left
  · rintro w' ⟨s0_, s1_, s2_, s3_, s4_, s5_, s6_, s7_, s8_, s9_⟩
    go_simp
    with_reducible rfl
  rotate_left
  · simp only [Act.put, List.setIfInBounds_toArray, List.set_cons_zero, List.set_cons_succ, i64_w, i32_w]
    rfl
  refine one_ (i := 1) (N := some 81) #[true, true, true, false, false, false, false, false, false, false] rfl rfl (by kernel_rfl) (by decide) (fun K hK => ?_)
  refine goes_ Try.func13 (by kernel_rfl) rfl #[.agg #[.slice A0_0 l0_0.length c0_0, .slice A0_1 l0_1.length c0_1, .slice A0_2 l0_2.length c0_2]] (by rfl) rfl rfl (by (try simp only [List.map_toArray, List.map_cons, List.map_nil]); first | done | rfl | (simp only [List.length_drop, List.length_take]; rfl)) ?_
  with_reducible refine (laws_toLocks.calls k2 _ _ l0_0 _ _ l0_1 _ _ l0_2 x0_0 x0_1 x0_2 _ ?s19_1 ?s19_2 ?s19_3 ?s19_4 ?s19_5 ?s19_6 H2.out).mono ?_
  (case s19_1 => exact Kd.C_below HR0_0.out HB.out)
  (case s19_2 => exact HC0_0.out)
  (case s19_3 => exact Kd.C_below HR0_1.out HB.out)
  (case s19_4 => exact HC0_1.out)
  (case s19_5 => exact Kd.C_below HR0_2.out HB.out)
  (case s19_6 => exact HC0_2.out)
  rintro e w19 ⟨v19_0, v19_1, v19_2, rfl, ho0, ho1, ho2, hb⟩
  refine ⟨_, rfl, ?_⟩
  have new_ : ∃ lo19 hi19 : Nat, Iv.Ob (Kd.slice 3 (Kd.int .i64)) 23 w19 lo19 hi19 (fun k_ => some k_ ≠ (v19_1 : Value).ownBlock ∧ some k_ ≠ (v19_2 : Value).ownBlock) v19_0 x0_0 ∧ Iv.Ob (Kd.int .i64) 3 w19 lo19 hi19 (fun k_ => some k_ ≠ (v19_2 : Value).ownBlock) v19_1 x0_1 ∧ Iv.Ob (Kd.int .i64) 3 w19 lo19 hi19 (fun k_ => some k_ ≠ (v19_1 : Value).ownBlock) v19_2 x0_2 ∧ w.heap.size ≤ lo19 ∧ w.heap.size < lo19 ∧ w.heap.size + 1 < lo19 ∧ w6.heap.size < lo19 ∧ hi5 ≤ lo19 ∧ hi9 ≤ lo19 := ⟨_, _, Iv.Ob.of_S ho0 (fun _ h_ => h_), Iv.Ob.of_Rint ho1 (fun _ h_ => h_), Iv.Ob.of_Rint ho2 (fun _ h_ => h_), (below_size HB.out), (Bx.box_lt bx1_), (Bx.box_lt bx4_), (Bx.box_lt bx8_), (Iv.Ob.size O5_0.out), (Iv.Ob.size O9_0.out)⟩
  obtain ⟨lo19, hi19, o0_, o1_, o2_, d_w, f_PaL, f_PaA, f_x0, d_w_, d_g_⟩ := new_
  replace O5_0 := Aside0.mk (Iv.Ob.below O5_0.out hb)
  replace O9_0 := Aside0.mk (Iv.Ob.below O9_0.out hb)
  replace bx1_ := Bx.box_later bx1_ hb
  replace bx2_ := Bx.box_later bx2_ hb
  replace bx3_ := Bx.box_later bx3_ hb
  replace bx4_ := Bx.box_later bx4_ hb
  replace bx5_ := Bx.box_later bx5_ hb
  replace bx6_ := Bx.box_later bx6_ hb
  replace bx7_ := Bx.box_later bx7_ hb
  replace bx8_ := Bx.box_later bx8_ hb
  replace bx9_ := Bx.box_later bx9_ hb
  replace bx10_ := Bx.box_later bx10_ hb
  replace HB := Aside0.mk (below_step HB.out hb)
  clear hb ho0 ho1 ho2
  obtain ⟨B19_0, e19_0, rfl⟩ := Iv.Ob.slice o0_
  have O19_0 := Aside0.mk o0_
  clear o0_
  obtain ⟨B19_1, e19_1, rfl⟩ := Iv.Ob.slice o1_
  have O19_1 := Aside0.mk o1_
  clear o1_
  obtain ⟨B19_2, e19_2, rfl⟩ := Iv.Ob.slice o2_
  have O19_2 := Aside0.mk o2_
  clear o2_
  have DW_t19 := Aside0.mk d_w
  clear d_w
  have D_w__t19 := Aside0.mk d_w_
  clear d_w_
  have D_g__t19 := Aside0.mk d_g_
  clear d_g_
  have F_PaL_t19 := Aside0.mk f_PaL
  clear f_PaL
  have F_PaA_t19 := Aside0.mk f_PaA
  clear f_PaA
  have F_x0_t19 := Aside0.mk f_x0
  clear f_x0
  refine hK.out _ _ ⟨bx1_, bx2_, bx3_, bx4_, bx5_, bx6_, bx7_, bx8_, bx9_, bx10_⟩ (fun hHeld => ?_)
  clear hK K
  refine norm_ (a' := ?_) ?_ ?_
  rotate_left
  · show Act.put _ (some 81) _ = _
    simp only [Act.put, List.setIfInBounds_toArray, List.set_cons_zero, List.set_cons_succ, i64_w, i32_w]
    rfl
  refine one_ (i := 3) (N := some 83) #[true, true, true, true, false, false, false, false, false, false] rfl rfl (by kernel_rfl) (by decide) (fun K hK => ?_)
  refine goes_ Try.func19 (by kernel_rfl) rfl #[.agg #[.int .i64 a1_0, .int .i64 a1_1, .bool a1_2, .bool a1_3]] (by rfl) rfl rfl (by (try simp only [List.map_toArray, List.map_cons, List.map_nil]); first | done | rfl | (simp only [List.length_drop, List.length_take]; rfl)) ?_
  with_reducible refine (laws_toAsk.calls a1_0 a1_1 a1_2 a1_3 x1_0 x1_1 x1_2 x1_3 _ H3.out).mono ?_
  rintro e w20 ⟨rfl, hb⟩
  refine ⟨_, rfl, ?_⟩
  replace O5_0 := Aside0.mk (Iv.Ob.below O5_0.out hb)
  replace O9_0 := Aside0.mk (Iv.Ob.below O9_0.out hb)
  replace O19_0 := Aside0.mk (Iv.Ob.below O19_0.out hb)
  replace O19_1 := Aside0.mk (Iv.Ob.below O19_1.out hb)
  replace O19_2 := Aside0.mk (Iv.Ob.below O19_2.out hb)
  replace bx1_ := Bx.box_later bx1_ hb
  replace bx2_ := Bx.box_later bx2_ hb
  replace bx3_ := Bx.box_later bx3_ hb
  replace bx4_ := Bx.box_later bx4_ hb
  replace bx5_ := Bx.box_later bx5_ hb
  replace bx6_ := Bx.box_later bx6_ hb
  replace bx7_ := Bx.box_later bx7_ hb
  replace bx8_ := Bx.box_later bx8_ hb
  replace bx9_ := Bx.box_later bx9_ hb
  replace bx10_ := Bx.box_later bx10_ hb
  replace HB := Aside0.mk (below_step HB.out hb)
  clear hb
  refine hK.out _ _ ⟨bx1_, bx2_, bx3_, bx4_, bx5_, bx6_, bx7_, bx8_, bx9_, bx10_⟩ (fun hHeld => ?_)
  clear hK K
  refine norm_ (a' := ?_) ?_ ?_
  rotate_left
  · show Act.put _ (some 83) _ = _
    simp only [Act.put, List.setIfInBounds_toArray, List.set_cons_zero, List.set_cons_succ, i64_w, i32_w]
    rfl
  refine one_ (i := 4) (N := some 84) #[true, true, true, true, true, false, false, false, false, false] rfl rfl (by kernel_rfl) (by decide) (fun K hK => ?_)
  refine goes_ Try.func20 (by kernel_rfl) rfl #[.agg #[.slice B19_0 (List.length x0_0) e19_0, .slice B19_1 (List.length x0_1) e19_1, .slice B19_2 (List.length x0_2) e19_2], .agg #[.int .i64 x1_0, .int .i64 x1_1, .bool x1_2, .bool x1_3]] (by rfl) rfl rfl (by (try simp only [List.map_toArray, List.map_cons, List.map_nil]); first | done | rfl | (simp only [List.length_drop, List.length_take]; rfl)) ?_
  with_reducible refine (impl_WaitsFor.calls k5 _ _ x0_0 _ _ x0_1 _ _ x0_2 x1_0 x1_1 x1_2 x1_3 y0_0 y1 _ ?s21_1 ?s21_2 ?s21_3 ?s21_4 ?s21_5 ?s21_6 H5.out).mono ?_
  (case s21_1 => exact Iv.Ob.C O19_0.out)
  (case s21_2 => exact (Iv.Ob.le O19_0.out))
  (case s21_3 => exact Iv.Ob.C O19_1.out)
  (case s21_4 => exact (Iv.Ob.le O19_1.out))
  (case s21_5 => exact Iv.Ob.C O19_2.out)
  (case s21_6 => exact (Iv.Ob.le O19_2.out))
  rintro e w21 ⟨v21_0, rfl, ho0, hb⟩
  refine ⟨_, rfl, ?_⟩
  have new_ : ∃ lo21 hi21 : Nat, Iv.Ob (Kd.int .i64) 3 w21 lo21 hi21 (fun k_ => True) v21_0 y0_0 ∧ w.heap.size ≤ lo21 ∧ w.heap.size < lo21 ∧ w.heap.size + 1 < lo21 ∧ w6.heap.size < lo21 ∧ hi5 ≤ lo21 ∧ hi9 ≤ lo21 ∧ hi19 ≤ lo21 := ⟨_, _, Iv.Ob.of_Rint ho0 (fun _ h_ => h_), (below_size HB.out), (Bx.box_lt bx1_), (Bx.box_lt bx4_), (Bx.box_lt bx8_), (Iv.Ob.size O5_0.out), (Iv.Ob.size O9_0.out), (Iv.Ob.size O19_0.out)⟩
  obtain ⟨lo21, hi21, o0_, d_w, f_PaL, f_PaA, f_x0, d_w_, d_g_, d_t19⟩ := new_
  replace O5_0 := Aside0.mk (Iv.Ob.below O5_0.out hb)
  replace O9_0 := Aside0.mk (Iv.Ob.below O9_0.out hb)
  replace O19_0 := Aside0.mk (Iv.Ob.below O19_0.out hb)
  replace O19_1 := Aside0.mk (Iv.Ob.below O19_1.out hb)
  replace O19_2 := Aside0.mk (Iv.Ob.below O19_2.out hb)
  replace bx1_ := Bx.box_later bx1_ hb
  replace bx2_ := Bx.box_later bx2_ hb
  replace bx3_ := Bx.box_later bx3_ hb
  replace bx4_ := Bx.box_later bx4_ hb
  replace bx5_ := Bx.box_later bx5_ hb
  replace bx6_ := Bx.box_later bx6_ hb
  replace bx7_ := Bx.box_later bx7_ hb
  replace bx8_ := Bx.box_later bx8_ hb
  replace bx9_ := Bx.box_later bx9_ hb
  replace bx10_ := Bx.box_later bx10_ hb
  replace HB := Aside0.mk (below_step HB.out hb)
  clear hb ho0
  obtain ⟨B21_0, e21_0, rfl⟩ := Iv.Ob.slice o0_
  have O21_0 := Aside0.mk o0_
  clear o0_
  have DW_h_ := Aside0.mk d_w
  clear d_w
  have D_w__h_ := Aside0.mk d_w_
  clear d_w_
  have D_g__h_ := Aside0.mk d_g_
  clear d_g_
  have D_t19_h_ := Aside0.mk d_t19
  clear d_t19
  have F_PaL_h_ := Aside0.mk f_PaL
  clear f_PaL
  have F_PaA_h_ := Aside0.mk f_PaA
  clear f_PaA
  have F_x0_h_ := Aside0.mk f_x0
  clear f_x0
  refine hK.out _ _ ⟨bx1_, bx2_, bx3_, bx4_, bx5_, bx6_, bx7_, bx8_, bx9_, bx10_⟩ (fun hHeld => ?_)
  clear hK K
  refine norm_ (a' := ?_) ?_ ?_
  rotate_left
  · show Act.put _ (some 84) _ = _
    simp only [Act.put, List.setIfInBounds_toArray, List.set_cons_zero, List.set_cons_succ, i64_w, i32_w]
    rfl
  clear O19_0
  clear O19_1
  clear O19_2
  refine pure_ (i := 5) (N := some 79) (v := ?_) (a' := ?_) #[true, true, true, true, true, true, false, false, false, false] rfl rfl (by kernel_rfl) (fun _ _ _ h => h) (Or.inl ⟨by rfl, ?_⟩) ?_ ?_
  rotate_left
  · intro w'
    go_simp
    with_reducible rfl
  rotate_left
  · simp only [Act.put, List.setIfInBounds_toArray, List.set_cons_zero, List.set_cons_succ, i64_w, i32_w]
    rfl
  refine pure_ (i := 6) (N := some 85) (v := ?_) (a' := ?_) #[true, true, true, true, true, true, true, false, false, false] rfl rfl (by kernel_rfl) (fun _ _ _ h => h) (Or.inl ⟨by rfl, ?_⟩) ?_ ?_
  rotate_left
  · intro w'
    go_simp
    with_reducible rfl
  rotate_left
  · simp only [Act.put, List.setIfInBounds_toArray, List.set_cons_zero, List.set_cons_succ, i64_w, i32_w]
    rfl
  refine pure_ (i := 7) (N := some 86) (v := ?_) (a' := ?_) #[true, true, true, true, true, true, true, true, false, false] rfl rfl (by kernel_rfl) (fun _ _ _ h => h) (Or.inl ⟨by rfl, ?_⟩) ?_ ?_
  rotate_left
  · intro w'
    go_simp
    with_reducible rfl
  rotate_left
  · simp only [Act.put, List.setIfInBounds_toArray, List.set_cons_zero, List.set_cons_succ, i64_w, i32_w]
    rfl
  refine pure_ (i := 8) (N := some 14) (v := ?_) (a' := ?_) #[true, true, true, true, true, true, true, true, true, false] rfl rfl (by kernel_rfl) (fun _ _ _ h => h) (Or.inl ⟨by rfl, ?_⟩) ?_ ?_
  rotate_left
  · intro w'
    go_simp
    with_reducible rfl
  rotate_left
  · simp only [Act.put, List.setIfInBounds_toArray, List.set_cons_zero, List.set_cons_succ, i64_w, i32_w]
    rfl
  refine pure_ (i := 9) (N := some 15) (v := ?_) (a' := ?_) #[true, true, true, true, true, true, true, true, true, true] rfl rfl (by kernel_rfl) (fun _ _ _ h => h) (Or.inl ⟨by rfl, ?_⟩) ?_ ?_
  rotate_left
  · intro w'
    go_simp
    with_reducible rfl
  rotate_left
  · simp only [Act.put, List.setIfInBounds_toArray, List.set_cons_zero, List.set_cons_succ, i64_w, i32_w]
    rfl
  refine done_ (by kernel_rfl) ?_
  go_wp2_with (first | (go_at_call 15; refine (laws_eqIntS.calls k6 _ _ y0_0 _ _ y0_0 true _ ?s22_1 ?s22_2 ?s22_3 ?s22_4 H6.out).mono ?_; (case s22_1 => exact Iv.Ob.C O21_0.out); (case s22_2 => exact (Iv.Ob.le O21_0.out)); (case s22_3 => exact Iv.Ob.C O5_0.out); (case s22_4 => exact (Iv.Ob.le O5_0.out)); rintro e w22 ⟨rfl, hb⟩; obtain ⟨nd_, hd_⟩ := hb; have hb := show Below (World.heap w21).size w21 w22 from hd_ ▸ pw_below_drewN (Below.refl _ _) nd_; clear hd_; replace O5_0 := Aside0.mk (Iv.Ob.below O5_0.out hb); replace O9_0 := Aside0.mk (Iv.Ob.below O9_0.out hb); replace O21_0 := Aside0.mk (Iv.Ob.below O21_0.out hb); replace bx1_ := Bx.box_later bx1_ hb; replace bx2_ := Bx.box_later bx2_ hb; replace bx3_ := Bx.box_later bx3_ hb; replace bx4_ := Bx.box_later bx4_ hb; replace bx5_ := Bx.box_later bx5_ hb; replace bx6_ := Bx.box_later bx6_ hb; replace bx7_ := Bx.box_later bx7_ hb; replace bx8_ := Bx.box_later bx8_ hb; replace bx9_ := Bx.box_later bx9_ hb; replace bx10_ := Bx.box_later bx10_ hb; replace HB := Aside0.mk (below_step HB.out hb); clear hb; clear O21_0))
  go_wp2_with (first | (go_at_call 17; refine Bx.calls_at ?e23_ ((laws_heldIntS.calls k8 B9_0 e9_0 (Ax.mkIntS y0_0 1) 1 M2 _ ?s23_1 ?s23_2 H8.out).mono ?_); (case e23_ => simp only [Ax.mkIntS_length, Ax.mkOf_length]); (case s23_1 => exact Iv.Ob.C O9_0.out); (case s23_2 => exact (Iv.Ob.le O9_0.out)); rintro e w23 ⟨rfl, hb⟩; obtain ⟨nd_, hd_⟩ := hb; have hb := show Below (World.heap w22).size w22 w23 from hd_ ▸ pw_below_drewN (Below.refl _ _) nd_; clear hd_; replace O5_0 := Aside0.mk (Iv.Ob.below O5_0.out hb); replace O9_0 := Aside0.mk (Iv.Ob.below O9_0.out hb); replace bx1_ := Bx.box_later bx1_ hb; replace bx2_ := Bx.box_later bx2_ hb; replace bx3_ := Bx.box_later bx3_ hb; replace bx4_ := Bx.box_later bx4_ hb; replace bx5_ := Bx.box_later bx5_ hb; replace bx6_ := Bx.box_later bx6_ hb; replace bx7_ := Bx.box_later bx7_ hb; replace bx8_ := Bx.box_later bx8_ hb; replace bx9_ := Bx.box_later bx9_ hb; replace bx10_ := Bx.box_later bx10_ hb; replace HB := Aside0.mk (below_step HB.out hb); clear hb))
  go_ret
  exact ⟨rfl, HB.out⟩
end Go.Proofs.Ytlknbopddalinaa.L
