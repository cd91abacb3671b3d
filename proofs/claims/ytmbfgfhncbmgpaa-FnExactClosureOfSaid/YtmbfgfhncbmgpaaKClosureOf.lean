/- Several small texts together: UClosureOf, LClosureOf, KClosureOf. No condition but those they name. -/
import Derived.Test.YtmbfgfhncbmgpaaPr0
import Derived.Test.YtmbfgfhncbmgpaaPr11
import Derived.Test.YtmbfgfhncbmgpaaPr8
import Derived.Test.YtmbfgfhncbmgpaaMerge1
import Derived.Test.YtmbfgfhncbmgpaaEToDepSA
import Derived.Test.YtmbfgfhncbmgpaaPr2
import Derived.Test.YtmbfgfhncbmgpaaPr6
import Derived.Test.YtmbfgfhncbmgpaaPr7
import Derived.Test.YtmbfgfhncbmgpaaIv
/- The law FnExactClosureOf: what both sides come to, over numbers and lists alone. No condition. -/
namespace Go.Proofs.Ytmbfgfhncbmgpaa.Pu
open Go.RowKit Go.Proofs.Ytmbfgfhncbmgpaa.Pr Go.Proofs.Ytmbfgfhncbmgpaa.Pl Go.Proofs.Ytmbfgfhncbmgpaa.Ax Go.Proofs.YtmbfgfhncbmgpaaW.PrintWords Go.Proofs.YtmbfgfhncbmgpaaW.PrintLast Go.Proofs.YtmbfgfhncbmgpaaW.PrintMore
set_option linter.unusedVariables false
set_option linter.unusedSimpArgs false
theorem ClosureOf_both (a : Int) (l : List S32) (p : List Int) (hO : OkDepS l) (hp : BdIntS p) : ∃ (y : List Int) (b : Bool), Ev (fun k => spec_ClosureOf.f k a l p) (y, b) ∧ Ev (fun k => impl_ClosureOf.f k a l p) (y, b) ∧ BdIntS y := by
  have hp1 := hp.1
  have b0 : BdIntS [] := ⟨by simp, fun _ _ => trivial⟩
  simp only [spec_ClosureOf.f, impl_ClosureOf.f, impl_GoodDeps.f, Option.bind_some]
  cases e : gdV a l with
  | false =>
    refine ⟨[], false, ?_, ?_, b0⟩
    · refine Ev.bind (sGD_ev a l hO) ?_
      rw [e]
      exact ev_now rfl
    · rw [show (win a 1 6 && (decide (l.length ≤ 8) && l.all (okD a))) = false from e]
      exact ev_now rfl
  | true =>
    obtain ⟨⟨h1, h6⟩, hl⟩ := GDs_of e
    cases e2 : rs 0 (wrap64 (a - 1)) none p with
    | false =>
      refine ⟨[], false, ?_, ?_, b0⟩
      · refine Ev.bind (sGD_ev a l hO) ?_
        rw [e]
        simp only [if_true]
        refine Ev.bind (l1Rising_ev p _ _ (by omega)) ?_
        rw [e2]
        exact ev_now rfl
      · rw [show (win a 1 6 && (decide (l.length ≤ 8) && l.all (okD a))) = true from e]
        simp only [if_true]
        refine Ev.bind (areCols_ev a p (by omega)) ?_
        rw [e2]
        exact ev_now rfl
    | true =>
      have hpg := GL_of_rs h1 h6 e2
      have hc := GL_len (by omega) (clo_GL hl hpg)
      refine ⟨clo l p, true, ?_, ?_, ⟨by omega, fun _ _ => trivial⟩⟩
      · refine Ev.bind (sGD_ev a l hO) ?_
        rw [e]
        simp only [if_true]
        refine Ev.bind (l1Rising_ev p _ _ (by omega)) ?_
        rw [e2]
        simp only [if_true]
        exact Ev.bind (scl_ev h1 h6 hl hpg) (ev_now rfl)
      · rw [show (win a 1 6 && (decide (l.length ≤ 8) && l.all (okD a))) = true from e]
        simp only [if_true]
        refine Ev.bind (areCols_ev a p (by omega)) ?_
        rw [e2]
        simp only [if_true]
        exact Ev.bind (icl_ev h1 h6 hl hpg) (ev_now rfl)
end Go.Proofs.Ytmbfgfhncbmgpaa.Pu

/- The walk of the law ClosureOf, given what its callees come to: it returns true and leaves what lay ahead of it. Written by lawk.py. Conditions: the equations of the callees. -/
namespace Go.Proofs.Ytmbfgfhncbmgpaa.L
open Go.RowKit Go.Proofs.Ytmbfgfhncbmgpaa Go.Proofs.Ytmbfgfhncbmgpaa.Pr Go.Proofs.YtmbfgfhncbmgpaaW.PrintWords Go.Proofs.YtmbfgfhncbmgpaaW.PrintLast Go.Proofs.YtmbfgfhncbmgpaaW.PrintMore
set_option linter.unusedVariables false
set_option linter.unusedSimpArgs false
set_option maxHeartbeats 4000000 in
set_option maxRecDepth 100000 in
theorem ClosureOf_len0 (a0 : Int) (A1 : Option Addr) (c1 : Nat) (l1 : (List S25)) (A2 : Option Addr) (c2 : Nat) (l2 : (List Int)) (w : World) (HR1 : Aside0 (Kd.C k25 w A1 l1.length l1)) (HC1 : Aside0 (l1.length ≤ c1)) (HR2 : Aside0 (Kd.C (Kd.int .i64) w A2 l2.length l2)) (HC2 : Aside0 (l2.length ≤ c2)) (g_ : decide (1048576 < (l2.length : Int)) = true) (g2_ : decide (1048576 < l2.length) = true) :
    Calls Try.prog 6 #[.int .i64 a0, .slice A1 l1.length c1, .slice A2 l2.length c2] w fun e w' => e = .returned (.bool true) ∧ Below w.heap.size w w' := by
  have HB := Aside0.mk (Below.refl w.heap.size w)
  go_enter Try.func6, Try.ntmps6
  go_wp2
  go_ret
  exact ⟨rfl, HB.out⟩
set_option maxHeartbeats 4000000 in
set_option maxRecDepth 100000 in
theorem ClosureOf_sz0 (a0 : Int) (A1 : Option Addr) (c1 : Nat) (l1 : (List S25)) (A2 : Option Addr) (c2 : Nat) (l2 : (List Int)) (s1 : Int) (k1 : Nat) (w : World) (HR1 : Aside0 (Kd.C k25 w A1 l1.length l1)) (HC1 : Aside0 (l1.length ≤ c1)) (HR2 : Aside0 (Kd.C (Kd.int .i64) w A2 l2.length l2)) (HC2 : Aside0 (l2.length ≤ c2)) (H1 : Aside0 (laws_szDepS.f k1 l1 1048576 = some s1)) (d0 : decide (1048576 < (l2.length : Int)) = false) (d1 : decide (1048576 < l2.length) = false) (d2 : decide (s1 < 0) = true) :
    Calls Try.prog 6 #[.int .i64 a0, .slice A1 l1.length c1, .slice A2 l2.length c2] w fun e w' => e = .returned (.bool true) ∧ Below w.heap.size w w' := by
  have HB := Aside0.mk (Below.refl w.heap.size w)
  go_enter Try.func6, Try.ntmps6
  go_wp2_with (first | (go_at_call 12; with_reducible refine (laws_szDepS.calls k1 _ _ l1 1048576 s1 _ ?s1_1 ?s1_2 H1.out).mono ?_; (case s1_1 => exact Kd.C_below HR1.out HB.out); (case s1_2 => exact HC1.out); rintro e w1 ⟨rfl, hb⟩; replace HB := Aside0.mk (below_step HB.out hb); clear hb))
  go_ret
  exact ⟨rfl, HB.out⟩
set_option maxHeartbeats 40000000 in
set_option maxRecDepth 100000 in
theorem ClosureOf (a0 : Int) (A1 : Option Addr) (c1 : Nat) (l1 : (List S25)) (A2 : Option Addr) (c2 : Nat) (l2 : (List Int)) (s1 : Int) (k1 : Nat) (x1_0 : (List S32)) (k2 : Nat) (x2_0 : (List Int)) (k3 : Nat) (y0_0 : (List Int)) (y1 : Bool) (k4 : Nat) (k5 : Nat) (k6 : Nat) (k7 : Nat) (k8 : Nat) (M1 : Int) (M2 : Int) (M3 : Int) (k9 : Nat) (w : World) (HR1 : Aside0 (Kd.C k25 w A1 l1.length l1)) (HC1 : Aside0 (l1.length ≤ c1)) (HR2 : Aside0 (Kd.C (Kd.int .i64) w A2 l2.length l2)) (HC2 : Aside0 (l2.length ≤ c2)) (H1 : Aside0 (laws_szDepS.f k1 l1 1048576 = some s1)) (H2 : Aside0 (laws_toDepS.f k2 l1 = some x1_0)) (H3 : Aside0 (laws_toIntS.f k3 l2 = some x2_0)) (H4 : Aside0 (spec_ClosureOf.f k4 a0 x1_0 x2_0 = some (y0_0, y1))) (H5 : Aside0 (impl_ClosureOf.f k5 a0 x1_0 x2_0 = some (y0_0, y1))) (H6 : Aside0 (laws_eqIntS.f k6 y0_0 y0_0 = some true)) (H7 : Aside0 (laws_eqDepS.f k7 x1_0 x1_0 = some true)) (H8 : Aside0 (laws_eqIntS.f k8 x2_0 x2_0 = some true)) (H9 : Aside0 (laws_heldIntS.f k9 (Ax.mkIntS y0_0 1) 1 = some M3)) (d0 : decide (1048576 < (l2.length : Int)) = false) (d1 : decide (1048576 < l2.length) = false) (d2 : decide (s1 < 0) = false) (d3 : decide (M1 < 0) = false) (d4 : decide (M2 < 0) = false) (d5 : decide (M3 < 0) = false) (HMM10 : Aside0 ((0 : Int) ≤ 1)) (HMM11 : Aside0 ((1 : Int) + (Ax.cntDepS x1_0 : Nat) = M1 ∧ M1 < 9223372036854775807)) (HMM20 : Aside0 ((0 : Int) ≤ M1)) (HMM21 : Aside0 ((M1 : Int) + (Ax.cntIntS x2_0 : Nat) = M2 ∧ M2 < 9223372036854775807)) (HMM30 : Aside0 ((0 : Int) ≤ 1)) (HMM31 : Aside0 ((1 : Int) + (Ax.cntIntS y0_0 : Nat) = M3 ∧ M3 < 9223372036854775807)) :
    Calls Try.prog 6 #[.int .i64 a0, .slice A1 l1.length c1, .slice A2 l2.length c2] w fun e w' => e = .returned (.bool true) ∧ Below w.heap.size w w' := by
  have HB := Aside0.mk (Below.refl w.heap.size w)
  go_enter Try.func6, Try.ntmps6
  go_wp2_with (first | (go_at_call 12; with_reducible refine (laws_szDepS.calls k1 _ _ l1 1048576 s1 _ ?s1_1 ?s1_2 H1.out).mono ?_; (case s1_1 => exact Kd.C_below HR1.out HB.out); (case s1_2 => exact HC1.out); rintro e w1 ⟨rfl, hb⟩; replace HB := Aside0.mk (below_step HB.out hb); clear hb))
  go_wp2_with (first | (go_at_call 15; with_reducible refine (laws_toDepSA.calls k2 _ _ l1 x1_0 _ ?s2_1 ?s2_2 H2.out).mono ?_; (case s2_1 => exact Kd.C_below HR1.out HB.out); (case s2_2 => exact HC1.out); rintro e w2 ⟨v2_0, rfl, ho0, hb⟩; have new_ : ∃ lo2 hi2 : Nat, Iv.Ob kA 32 w2 lo2 hi2 (fun k_ => True) v2_0 x1_0 ∧ w.heap.size ≤ lo2 := ⟨_, _, Iv.Ob.of_S ho0 (fun _ h_ => h_), (below_size HB.out)⟩; obtain ⟨lo2, hi2, o0_, d_w⟩ := new_; replace HB := Aside0.mk (below_step HB.out hb); clear hb ho0; obtain ⟨B2_0, e2_0, rfl⟩ := Iv.Ob.slice o0_; have O2_0 := Aside0.mk o0_; clear o0_; have DW_t2 := Aside0.mk d_w; clear d_w))
  go_wp2_with (first | (go_at_call 21; with_reducible refine (laws_toIntS.calls k3 _ _ l2 x2_0 _ ?s3_1 ?s3_2 H3.out).mono ?_; (case s3_1 => exact Kd.C_below HR2.out HB.out); (case s3_2 => exact HC2.out); rintro e w3 ⟨v3_0, rfl, ho0, hb⟩; have new_ : ∃ lo3 hi3 : Nat, Iv.Ob (Kd.int .i64) 3 w3 lo3 hi3 (fun k_ => True) v3_0 x2_0 ∧ w.heap.size ≤ lo3 ∧ hi2 ≤ lo3 := ⟨_, _, Iv.Ob.of_Rint ho0 (fun _ h_ => h_), (below_size HB.out), (Iv.Ob.size O2_0.out)⟩; obtain ⟨lo3, hi3, o0_, d_w, d_t2⟩ := new_; replace O2_0 := Aside0.mk (Iv.Ob.below O2_0.out hb); replace HB := Aside0.mk (below_step HB.out hb); clear hb ho0; obtain ⟨B3_0, e3_0, rfl⟩ := Iv.Ob.slice o0_; have O3_0 := Aside0.mk o0_; clear o0_; have DW_t3 := Aside0.mk d_w; clear d_w; have D_t2_t3 := Aside0.mk d_t2; clear d_t2))
  go_wp2_with (first | (go_at_call 29; with_reducible refine (spec_ClosureOf.calls k4 a0 _ _ x1_0 _ _ x2_0 y0_0 y1 _ ?s4_1 ?s4_2 ?s4_3 ?s4_4 H4.out).mono ?_; (case s4_1 => exact kA_C (Iv.Ob.C O2_0.out)); (case s4_2 => exact (Iv.Ob.le O2_0.out)); (case s4_3 => exact Iv.Ob.C O3_0.out); (case s4_4 => exact (Iv.Ob.le O3_0.out)); rintro e w4 ⟨v4_0, rfl, ho0, hb⟩; have new_ : ∃ lo4 hi4 : Nat, Iv.Ob (Kd.int .i64) 3 w4 lo4 hi4 (fun k_ => True) v4_0 y0_0 ∧ w.heap.size ≤ lo4 ∧ hi2 ≤ lo4 ∧ hi3 ≤ lo4 := ⟨_, _, Iv.Ob.of_Rint ho0 (fun _ h_ => h_), (below_size HB.out), (Iv.Ob.size O2_0.out), (Iv.Ob.size O3_0.out)⟩; obtain ⟨lo4, hi4, o0_, d_w, d_t2, d_t3⟩ := new_; replace O2_0 := Aside0.mk (Iv.Ob.below O2_0.out hb); replace O3_0 := Aside0.mk (Iv.Ob.below O3_0.out hb); replace HB := Aside0.mk (below_step HB.out hb); clear hb ho0; obtain ⟨B4_0, e4_0, rfl⟩ := Iv.Ob.slice o0_; have O4_0 := Aside0.mk o0_; clear o0_; have DW_w_ := Aside0.mk d_w; clear d_w; have D_t2_w_ := Aside0.mk d_t2; clear d_t2; have D_t3_w_ := Aside0.mk d_t3; clear d_t3; clear O2_0; clear O3_0))
  go_wp2_with (first | (go_at_call 15; with_reducible refine (laws_toDepSA.calls k2 _ _ l1 x1_0 _ ?s5_1 ?s5_2 H2.out).mono ?_; (case s5_1 => exact Kd.C_below HR1.out HB.out); (case s5_2 => exact HC1.out); rintro e w5 ⟨v5_0, rfl, ho0, hb⟩; have new_ : ∃ lo5 hi5 : Nat, Iv.Ob kA 32 w5 lo5 hi5 (fun k_ => True) v5_0 x1_0 ∧ w.heap.size ≤ lo5 ∧ hi4 ≤ lo5 := ⟨_, _, Iv.Ob.of_S ho0 (fun _ h_ => h_), (below_size HB.out), (Iv.Ob.size O4_0.out)⟩; obtain ⟨lo5, hi5, o0_, d_w, d_w_⟩ := new_; replace O4_0 := Aside0.mk (Iv.Ob.below O4_0.out hb); replace HB := Aside0.mk (below_step HB.out hb); clear hb ho0; obtain ⟨B5_0, e5_0, rfl⟩ := Iv.Ob.slice o0_; have O5_0 := Aside0.mk o0_; clear o0_; have DW_x1 := Aside0.mk d_w; clear d_w; have D_w__x1 := Aside0.mk d_w_; clear d_w_))
  go_wp2_with (first | (go_at_call 21; with_reducible refine (laws_toIntS.calls k3 _ _ l2 x2_0 _ ?s6_1 ?s6_2 H3.out).mono ?_; (case s6_1 => exact Kd.C_below HR2.out HB.out); (case s6_2 => exact HC2.out); rintro e w6 ⟨v6_0, rfl, ho0, hb⟩; have new_ : ∃ lo6 hi6 : Nat, Iv.Ob (Kd.int .i64) 3 w6 lo6 hi6 (fun k_ => True) v6_0 x2_0 ∧ w.heap.size ≤ lo6 ∧ hi4 ≤ lo6 ∧ hi5 ≤ lo6 := ⟨_, _, Iv.Ob.of_Rint ho0 (fun _ h_ => h_), (below_size HB.out), (Iv.Ob.size O4_0.out), (Iv.Ob.size O5_0.out)⟩; obtain ⟨lo6, hi6, o0_, d_w, d_w_, d_x1⟩ := new_; replace O4_0 := Aside0.mk (Iv.Ob.below O4_0.out hb); replace O5_0 := Aside0.mk (Iv.Ob.below O5_0.out hb); replace HB := Aside0.mk (below_step HB.out hb); clear hb ho0; obtain ⟨B6_0, e6_0, rfl⟩ := Iv.Ob.slice o0_; have O6_0 := Aside0.mk o0_; clear o0_; have DW_x2 := Aside0.mk d_w; clear d_w; have D_w__x2 := Aside0.mk d_w_; clear d_w_; have D_x1_x2 := Aside0.mk d_x1; clear d_x1))
  go_wp2_with (first | (go_at_call 30; with_reducible refine (impl_ClosureOf.calls k5 a0 _ _ x1_0 _ _ x2_0 y0_0 y1 _ ?s7_1 ?s7_2 ?s7_3 ?s7_4 H5.out).mono ?_; (case s7_1 => exact kA_C (Iv.Ob.C O5_0.out)); (case s7_2 => exact (Iv.Ob.le O5_0.out)); (case s7_3 => exact Iv.Ob.C O6_0.out); (case s7_4 => exact (Iv.Ob.le O6_0.out)); rintro e w7 ⟨v7_0, rfl, ho0, hb⟩; have new_ : ∃ lo7 hi7 : Nat, Iv.Ob (Kd.int .i64) 3 w7 lo7 hi7 (fun k_ => True) v7_0 y0_0 ∧ w.heap.size ≤ lo7 ∧ hi4 ≤ lo7 ∧ hi5 ≤ lo7 ∧ hi6 ≤ lo7 := ⟨_, _, Iv.Ob.of_Rint ho0 (fun _ h_ => h_), (below_size HB.out), (Iv.Ob.size O4_0.out), (Iv.Ob.size O5_0.out), (Iv.Ob.size O6_0.out)⟩; obtain ⟨lo7, hi7, o0_, d_w, d_w_, d_x1, d_x2⟩ := new_; replace O4_0 := Aside0.mk (Iv.Ob.below O4_0.out hb); replace O5_0 := Aside0.mk (Iv.Ob.below O5_0.out hb); replace O6_0 := Aside0.mk (Iv.Ob.below O6_0.out hb); replace HB := Aside0.mk (below_step HB.out hb); clear hb ho0; obtain ⟨B7_0, e7_0, rfl⟩ := Iv.Ob.slice o0_; have O7_0 := Aside0.mk o0_; clear o0_; have DW_g_ := Aside0.mk d_w; clear d_w; have D_w__g_ := Aside0.mk d_w_; clear d_w_; have D_x1_g_ := Aside0.mk d_x1; clear d_x1; have D_x2_g_ := Aside0.mk d_x2; clear d_x2))
  go_wp2_with (first | (go_at_call 23; with_reducible refine (laws_eqIntS.calls k6 _ _ y0_0 _ _ y0_0 true _ ?s8_1 ?s8_2 ?s8_3 ?s8_4 H6.out).mono ?_; (case s8_1 => exact Iv.Ob.C O7_0.out); (case s8_2 => exact (Iv.Ob.le O7_0.out)); (case s8_3 => exact Iv.Ob.C O4_0.out); (case s8_4 => exact (Iv.Ob.le O4_0.out)); rintro e w8 ⟨rfl, hb⟩; obtain ⟨nd_, hd_⟩ := hb; have hb := show Below (World.heap w7).size w7 w8 from hd_ ▸ pw_below_drewN (Below.refl _ _) nd_; clear hd_; replace O4_0 := Aside0.mk (Iv.Ob.below O4_0.out hb); replace O5_0 := Aside0.mk (Iv.Ob.below O5_0.out hb); replace O6_0 := Aside0.mk (Iv.Ob.below O6_0.out hb); replace O7_0 := Aside0.mk (Iv.Ob.below O7_0.out hb); replace HB := Aside0.mk (below_step HB.out hb); clear hb))
  go_wp2_with (first | (go_at_call 15; with_reducible refine (laws_toDepSA.calls k2 _ _ l1 x1_0 _ ?s9_1 ?s9_2 H2.out).mono ?_; (case s9_1 => exact Kd.C_below HR1.out HB.out); (case s9_2 => exact HC1.out); rintro e w9 ⟨v9_0, rfl, ho0, hb⟩; have new_ : ∃ lo9 hi9 : Nat, Iv.Ob kA 32 w9 lo9 hi9 (fun k_ => True) v9_0 x1_0 ∧ w.heap.size ≤ lo9 ∧ hi4 ≤ lo9 ∧ hi5 ≤ lo9 ∧ hi6 ≤ lo9 ∧ hi7 ≤ lo9 := ⟨_, _, Iv.Ob.of_S ho0 (fun _ h_ => h_), (below_size HB.out), (Iv.Ob.size O4_0.out), (Iv.Ob.size O5_0.out), (Iv.Ob.size O6_0.out), (Iv.Ob.size O7_0.out)⟩; obtain ⟨lo9, hi9, o0_, d_w, d_w_, d_x1, d_x2, d_g_⟩ := new_; replace O4_0 := Aside0.mk (Iv.Ob.below O4_0.out hb); replace O5_0 := Aside0.mk (Iv.Ob.below O5_0.out hb); replace O6_0 := Aside0.mk (Iv.Ob.below O6_0.out hb); replace O7_0 := Aside0.mk (Iv.Ob.below O7_0.out hb); replace HB := Aside0.mk (below_step HB.out hb); clear hb ho0; obtain ⟨B9_0, e9_0, rfl⟩ := Iv.Ob.slice o0_; have O9_0 := Aside0.mk o0_; clear o0_; have DW_t9 := Aside0.mk d_w; clear d_w; have D_w__t9 := Aside0.mk d_w_; clear d_w_; have D_x1_t9 := Aside0.mk d_x1; clear d_x1; have D_x2_t9 := Aside0.mk d_x2; clear d_x2; have D_g__t9 := Aside0.mk d_g_; clear d_g_))
  go_wp2_with (first | (go_at_call 18; with_reducible refine (laws_eqDepS.calls k7 _ _ x1_0 _ _ x1_0 true _ ?s10_1 ?s10_2 ?s10_3 ?s10_4 H7.out).mono ?_; (case s10_1 => exact kA_C (Iv.Ob.C O5_0.out)); (case s10_2 => exact (Iv.Ob.le O5_0.out)); (case s10_3 => exact kA_C (Iv.Ob.C O9_0.out)); (case s10_4 => exact (Iv.Ob.le O9_0.out)); rintro e w10 ⟨rfl, hb⟩; replace O4_0 := Aside0.mk (Iv.Ob.below O4_0.out hb); replace O5_0 := Aside0.mk (Iv.Ob.below O5_0.out hb); replace O6_0 := Aside0.mk (Iv.Ob.below O6_0.out hb); replace O7_0 := Aside0.mk (Iv.Ob.below O7_0.out hb); replace O9_0 := Aside0.mk (Iv.Ob.below O9_0.out hb); replace HB := Aside0.mk (below_step HB.out hb); clear hb; clear O9_0))
  go_wp2_with (first | (go_at_call 21; with_reducible refine (laws_toIntS.calls k3 _ _ l2 x2_0 _ ?s11_1 ?s11_2 H3.out).mono ?_; (case s11_1 => exact Kd.C_below HR2.out HB.out); (case s11_2 => exact HC2.out); rintro e w11 ⟨v11_0, rfl, ho0, hb⟩; have new_ : ∃ lo11 hi11 : Nat, Iv.Ob (Kd.int .i64) 3 w11 lo11 hi11 (fun k_ => True) v11_0 x2_0 ∧ w.heap.size ≤ lo11 ∧ hi4 ≤ lo11 ∧ hi5 ≤ lo11 ∧ hi6 ≤ lo11 ∧ hi7 ≤ lo11 := ⟨_, _, Iv.Ob.of_Rint ho0 (fun _ h_ => h_), (below_size HB.out), (Iv.Ob.size O4_0.out), (Iv.Ob.size O5_0.out), (Iv.Ob.size O6_0.out), (Iv.Ob.size O7_0.out)⟩; obtain ⟨lo11, hi11, o0_, d_w, d_w_, d_x1, d_x2, d_g_⟩ := new_; replace O4_0 := Aside0.mk (Iv.Ob.below O4_0.out hb); replace O5_0 := Aside0.mk (Iv.Ob.below O5_0.out hb); replace O6_0 := Aside0.mk (Iv.Ob.below O6_0.out hb); replace O7_0 := Aside0.mk (Iv.Ob.below O7_0.out hb); replace HB := Aside0.mk (below_step HB.out hb); clear hb ho0; obtain ⟨B11_0, e11_0, rfl⟩ := Iv.Ob.slice o0_; have O11_0 := Aside0.mk o0_; clear o0_; have DW_t11 := Aside0.mk d_w; clear d_w; have D_w__t11 := Aside0.mk d_w_; clear d_w_; have D_x1_t11 := Aside0.mk d_x1; clear d_x1; have D_x2_t11 := Aside0.mk d_x2; clear d_x2; have D_g__t11 := Aside0.mk d_g_; clear d_g_))
  go_wp2_with (first | (go_at_call 23; with_reducible refine (laws_eqIntS.calls k8 _ _ x2_0 _ _ x2_0 true _ ?s12_1 ?s12_2 ?s12_3 ?s12_4 H8.out).mono ?_; (case s12_1 => exact Iv.Ob.C O6_0.out); (case s12_2 => exact (Iv.Ob.le O6_0.out)); (case s12_3 => exact Iv.Ob.C O11_0.out); (case s12_4 => exact (Iv.Ob.le O11_0.out)); rintro e w12 ⟨rfl, hb⟩; obtain ⟨nd_, hd_⟩ := hb; have hb := show Below (World.heap w11).size w11 w12 from hd_ ▸ pw_below_drewN (Below.refl _ _) nd_; clear hd_; replace O4_0 := Aside0.mk (Iv.Ob.below O4_0.out hb); replace O5_0 := Aside0.mk (Iv.Ob.below O5_0.out hb); replace O6_0 := Aside0.mk (Iv.Ob.below O6_0.out hb); replace O7_0 := Aside0.mk (Iv.Ob.below O7_0.out hb); replace O11_0 := Aside0.mk (Iv.Ob.below O11_0.out hb); replace HB := Aside0.mk (below_step HB.out hb); clear hb; clear O11_0))
  go_wp2_with (first | (go_at_call 31; with_reducible refine (Mk.markDepS w _ lo5 hi5 1 M1 _ x1_0 HB.out DW_x1.out O5_0.out HMM10.out HMM11.out).mono ?_; rintro e w13 ⟨rfl, mk0, hb, hk⟩; replace O4_0 := Aside0.mk (Iv.Ob.kept O4_0.out hk (by have h1_ := D_w__x1.out; omega)); replace O6_0 := Aside0.mk (Iv.Ob.kept O6_0.out hk (by have h1_ := D_x1_x2.out; omega)); replace O7_0 := Aside0.mk (Iv.Ob.kept O7_0.out hk (by have h1_ := D_x1_g_.out; omega)); replace HB := Aside0.mk hb; clear hb hk; clear mk0; clear O5_0))
  go_wp2_with (first | (go_at_call 24; with_reducible refine (Mk.markIntS w _ lo6 hi6 M1 M2 _ x2_0 HB.out DW_x2.out O6_0.out HMM20.out HMM21.out).mono ?_; rintro e w14 ⟨rfl, mk0, hb, hk⟩; replace O4_0 := Aside0.mk (Iv.Ob.kept O4_0.out hk (by have h1_ := D_w__x2.out; omega)); replace O7_0 := Aside0.mk (Iv.Ob.kept O7_0.out hk (by have h1_ := D_x2_g_.out; omega)); replace HB := Aside0.mk hb; clear hb hk; clear mk0; clear O6_0))
  go_wp2_with (first | (go_at_call 23; with_reducible refine (laws_eqIntS.calls k6 _ _ y0_0 _ _ y0_0 true _ ?s15_1 ?s15_2 ?s15_3 ?s15_4 H6.out).mono ?_; (case s15_1 => exact Iv.Ob.C O7_0.out); (case s15_2 => exact (Iv.Ob.le O7_0.out)); (case s15_3 => exact Iv.Ob.C O4_0.out); (case s15_4 => exact (Iv.Ob.le O4_0.out)); rintro e w15 ⟨rfl, hb⟩; obtain ⟨nd_, hd_⟩ := hb; have hb := show Below (World.heap w14).size w14 w15 from hd_ ▸ pw_below_drewN (Below.refl _ _) nd_; clear hd_; replace O4_0 := Aside0.mk (Iv.Ob.below O4_0.out hb); replace O7_0 := Aside0.mk (Iv.Ob.below O7_0.out hb); replace HB := Aside0.mk (below_step HB.out hb); clear hb))
  go_wp2_with (first | (go_at_call 24; with_reducible refine (Mk.markIntS w _ lo7 hi7 1 M3 _ y0_0 HB.out DW_g_.out O7_0.out HMM30.out HMM31.out).mono ?_; rintro e w16 ⟨rfl, mk0, hb, hk⟩; replace O4_0 := Aside0.mk (Iv.Ob.kept O4_0.out hk (by have h1_ := D_w__g_.out; omega)); replace HB := Aside0.mk hb; clear hb hk; replace O7_0 := Aside0.mk mk0; clear mk0))
  go_wp2_with (first | (go_at_call 26; with_reducible refine Bx.calls_at ?e17_ ((laws_heldIntS.calls k9 B7_0 e7_0 (Ax.mkIntS y0_0 1) 1 M3 _ ?s17_1 ?s17_2 H9.out).mono ?_); (case e17_ => simp only [Ax.mkIntS_length, Ax.mkOf_length]); (case s17_1 => exact Iv.Ob.C O7_0.out); (case s17_2 => exact (Iv.Ob.le O7_0.out)); rintro e w17 ⟨rfl, hb⟩; obtain ⟨nd_, hd_⟩ := hb; have hb := show Below (World.heap w16).size w16 w17 from hd_ ▸ pw_below_drewN (Below.refl _ _) nd_; clear hd_; replace O4_0 := Aside0.mk (Iv.Ob.below O4_0.out hb); replace O7_0 := Aside0.mk (Iv.Ob.below O7_0.out hb); replace HB := Aside0.mk (below_step HB.out hb); clear hb))
  go_wp2_with (first | (go_at_call 15; with_reducible refine (laws_toDepSA.calls k2 _ _ l1 x1_0 _ ?s18_1 ?s18_2 H2.out).mono ?_; (case s18_1 => exact Kd.C_below HR1.out HB.out); (case s18_2 => exact HC1.out); rintro e w18 ⟨v18_0, rfl, ho0, hb⟩; have new_ : ∃ lo18 hi18 : Nat, Iv.Ob kA 32 w18 lo18 hi18 (fun k_ => True) v18_0 x1_0 ∧ w.heap.size ≤ lo18 ∧ hi4 ≤ lo18 ∧ hi7 ≤ lo18 := ⟨_, _, Iv.Ob.of_S ho0 (fun _ h_ => h_), (below_size HB.out), (Iv.Ob.size O4_0.out), (Iv.Ob.size O7_0.out)⟩; obtain ⟨lo18, hi18, o0_, d_w, d_w_, d_g_⟩ := new_; replace O4_0 := Aside0.mk (Iv.Ob.below O4_0.out hb); replace O7_0 := Aside0.mk (Iv.Ob.below O7_0.out hb); replace HB := Aside0.mk (below_step HB.out hb); clear hb ho0; obtain ⟨B18_0, e18_0, rfl⟩ := Iv.Ob.slice o0_; have O18_0 := Aside0.mk o0_; clear o0_; have DW_t18 := Aside0.mk d_w; clear d_w; have D_w__t18 := Aside0.mk d_w_; clear d_w_; have D_g__t18 := Aside0.mk d_g_; clear d_g_))
  go_wp2_with (first | (go_at_call 21; with_reducible refine (laws_toIntS.calls k3 _ _ l2 x2_0 _ ?s19_1 ?s19_2 H3.out).mono ?_; (case s19_1 => exact Kd.C_below HR2.out HB.out); (case s19_2 => exact HC2.out); rintro e w19 ⟨v19_0, rfl, ho0, hb⟩; have new_ : ∃ lo19 hi19 : Nat, Iv.Ob (Kd.int .i64) 3 w19 lo19 hi19 (fun k_ => True) v19_0 x2_0 ∧ w.heap.size ≤ lo19 ∧ hi4 ≤ lo19 ∧ hi7 ≤ lo19 ∧ hi18 ≤ lo19 := ⟨_, _, Iv.Ob.of_Rint ho0 (fun _ h_ => h_), (below_size HB.out), (Iv.Ob.size O4_0.out), (Iv.Ob.size O7_0.out), (Iv.Ob.size O18_0.out)⟩; obtain ⟨lo19, hi19, o0_, d_w, d_w_, d_g_, d_t18⟩ := new_; replace O4_0 := Aside0.mk (Iv.Ob.below O4_0.out hb); replace O7_0 := Aside0.mk (Iv.Ob.below O7_0.out hb); replace O18_0 := Aside0.mk (Iv.Ob.below O18_0.out hb); replace HB := Aside0.mk (below_step HB.out hb); clear hb ho0; obtain ⟨B19_0, e19_0, rfl⟩ := Iv.Ob.slice o0_; have O19_0 := Aside0.mk o0_; clear o0_; have DW_t19 := Aside0.mk d_w; clear d_w; have D_w__t19 := Aside0.mk d_w_; clear d_w_; have D_g__t19 := Aside0.mk d_g_; clear d_g_; have D_t18_t19 := Aside0.mk d_t18; clear d_t18))
  go_wp2_with (first | (go_at_call 30; with_reducible refine (impl_ClosureOf.calls k5 a0 _ _ x1_0 _ _ x2_0 y0_0 y1 _ ?s20_1 ?s20_2 ?s20_3 ?s20_4 H5.out).mono ?_; (case s20_1 => exact kA_C (Iv.Ob.C O18_0.out)); (case s20_2 => exact (Iv.Ob.le O18_0.out)); (case s20_3 => exact Iv.Ob.C O19_0.out); (case s20_4 => exact (Iv.Ob.le O19_0.out)); rintro e w20 ⟨v20_0, rfl, ho0, hb⟩; have new_ : ∃ lo20 hi20 : Nat, Iv.Ob (Kd.int .i64) 3 w20 lo20 hi20 (fun k_ => True) v20_0 y0_0 ∧ w.heap.size ≤ lo20 ∧ hi4 ≤ lo20 ∧ hi7 ≤ lo20 ∧ hi18 ≤ lo20 ∧ hi19 ≤ lo20 := ⟨_, _, Iv.Ob.of_Rint ho0 (fun _ h_ => h_), (below_size HB.out), (Iv.Ob.size O4_0.out), (Iv.Ob.size O7_0.out), (Iv.Ob.size O18_0.out), (Iv.Ob.size O19_0.out)⟩; obtain ⟨lo20, hi20, o0_, d_w, d_w_, d_g_, d_t18, d_t19⟩ := new_; replace O4_0 := Aside0.mk (Iv.Ob.below O4_0.out hb); replace O7_0 := Aside0.mk (Iv.Ob.below O7_0.out hb); replace O18_0 := Aside0.mk (Iv.Ob.below O18_0.out hb); replace O19_0 := Aside0.mk (Iv.Ob.below O19_0.out hb); replace HB := Aside0.mk (below_step HB.out hb); clear hb ho0; obtain ⟨B20_0, e20_0, rfl⟩ := Iv.Ob.slice o0_; have O20_0 := Aside0.mk o0_; clear o0_; have DW_h_ := Aside0.mk d_w; clear d_w; have D_w__h_ := Aside0.mk d_w_; clear d_w_; have D_g__h_ := Aside0.mk d_g_; clear d_g_; have D_t18_h_ := Aside0.mk d_t18; clear d_t18; have D_t19_h_ := Aside0.mk d_t19; clear d_t19; clear O18_0; clear O19_0))
  go_wp2_with (first | (go_at_call 23; with_reducible refine (laws_eqIntS.calls k6 _ _ y0_0 _ _ y0_0 true _ ?s21_1 ?s21_2 ?s21_3 ?s21_4 H6.out).mono ?_; (case s21_1 => exact Iv.Ob.C O20_0.out); (case s21_2 => exact (Iv.Ob.le O20_0.out)); (case s21_3 => exact Iv.Ob.C O4_0.out); (case s21_4 => exact (Iv.Ob.le O4_0.out)); rintro e w21 ⟨rfl, hb⟩; obtain ⟨nd_, hd_⟩ := hb; have hb := show Below (World.heap w20).size w20 w21 from hd_ ▸ pw_below_drewN (Below.refl _ _) nd_; clear hd_; replace O4_0 := Aside0.mk (Iv.Ob.below O4_0.out hb); replace O7_0 := Aside0.mk (Iv.Ob.below O7_0.out hb); replace O20_0 := Aside0.mk (Iv.Ob.below O20_0.out hb); replace HB := Aside0.mk (below_step HB.out hb); clear hb; clear O20_0))
  go_wp2_with (first | (go_at_call 26; with_reducible refine Bx.calls_at ?e22_ ((laws_heldIntS.calls k9 B7_0 e7_0 (Ax.mkIntS y0_0 1) 1 M3 _ ?s22_1 ?s22_2 H9.out).mono ?_); (case e22_ => simp only [Ax.mkIntS_length, Ax.mkOf_length]); (case s22_1 => exact Iv.Ob.C O7_0.out); (case s22_2 => exact (Iv.Ob.le O7_0.out)); rintro e w22 ⟨rfl, hb⟩; obtain ⟨nd_, hd_⟩ := hb; have hb := show Below (World.heap w21).size w21 w22 from hd_ ▸ pw_below_drewN (Below.refl _ _) nd_; clear hd_; replace O4_0 := Aside0.mk (Iv.Ob.below O4_0.out hb); replace O7_0 := Aside0.mk (Iv.Ob.below O7_0.out hb); replace HB := Aside0.mk (below_step HB.out hb); clear hb))
  go_ret
  exact ⟨rfl, HB.out⟩
end Go.Proofs.Ytmbfgfhncbmgpaa.L

/- The walk of the law FnExactClosureOf (LClosureOf), what its callees come to, and its pure statement (UClosureOf) together. Written by lawkk.py. No condition. -/
namespace Go.Proofs.Ytmbfgfhncbmgpaa.K
open Go.RowKit Go.Proofs.Ytmbfgfhncbmgpaa Go.Proofs.Ytmbfgfhncbmgpaa.Ops Go.Proofs.Ytmbfgfhncbmgpaa.Ax Go.Proofs.Ytmbfgfhncbmgpaa.Pr Go.Proofs.Ytmbfgfhncbmgpaa.Pl Go.Proofs.YtmbfgfhncbmgpaaW.PrintWords
set_option linter.unusedVariables false
set_option maxRecDepth 100000 in
theorem ClosureOf (a0 : Int) (A1 : Option Addr) (c1 : Nat) (y1 : (List S25)) (A2 : Option Addr) (c2 : Nat) (y2 : (List Int)) (w : World) (h0 : Fii64 a0) (hl1 : y1.length ≤ c1) (hr1 : Kd.C k25 w A1 y1.length y1) (h1 : FL25 y1) (hl2 : y2.length ≤ c2) (hr2 : Kd.C (Kd.int .i64) w A2 y2.length y2) (h2 : FLii64 y2) :
    Calls Try.prog 6 #[.int .i64 a0, .slice A1 y1.length c1, .slice A2 y2.length c2] w fun e w' => e = .returned (.bool true) ∧ Below w.heap.size w w' := by
  by_cases g0 : (y2.length : Int) > 1048576
  · exact L.ClosureOf_len0 a0 A1 c1 y1 A2 c2 y2 w (Aside0.mk hr1) (Aside0.mk hl1) (Aside0.mk hr2) (Aside0.mk hl2) (decide_eq_true (by omega)) (decide_eq_true (by omega)) 
  have hB2 : BdIntS y2 := ⟨by omega, fun _ _ => trivial⟩
  obtain ⟨s1, v0, le0, b0⟩ := szDepS_ev y1 1048576 h1 (by omega) (by omega)
  obtain ⟨k1, e1⟩ := Ev.rounds v0
  by_cases hr0_ : s1 < 0
  · exact L.ClosureOf_sz0 a0 A1 c1 y1 A2 c2 y2 s1 k1 w (Aside0.mk hr1) (Aside0.mk hl1) (Aside0.mk hr2) (Aside0.mk hl2) (Aside0.mk e1) (decide_eq_false (by omega)) (decide_eq_false (by omega)) (decide_eq_true (by omega))
  have hB1 := b0 (by omega)
  obtain ⟨Y0_0, Y1, es, ei, hY0_0⟩ := Pu.ClosureOf_both a0 (y1.map cvDep) y2 (ok_DepS hB1) hB2
  have cb0 : Ax.cntDepS ((y1.map cvDep)) ≤ 1125899906842624 := Nat.le_trans (Ax.cntDepS_bd hB1) (by decide)
  have cb1 : Ax.cntIntS y2 ≤ 1125899906842624 := Nat.le_trans (Ax.cntIntS_bd hB2) (by decide)
  have cb2 : Ax.cntIntS Y0_0 ≤ 1125899906842624 := Nat.le_trans (Ax.cntIntS_bd hY0_0) (by decide)
  obtain ⟨k2, e2⟩ := Ev.rounds (toDepS_ev y1 hB1)
  obtain ⟨k3, e3⟩ := Ev.rounds (toIntS_ev y2 hB2)
  obtain ⟨k4, e4⟩ := Ev.rounds (es)
  obtain ⟨k5, e5⟩ := Ev.rounds (ei)
  obtain ⟨k6, e6⟩ := Ev.rounds (eqIntS_ev _ (ok_IntS hY0_0))
  obtain ⟨k7, e7⟩ := Ev.rounds (eqDepS_ev _ (ok_DepS hB1))
  obtain ⟨k8, e8⟩ := Ev.rounds (eqIntS_ev _ (ok_IntS hB2))
  obtain ⟨k9, e9⟩ := Ev.rounds (Ax.heldIntS_ev' Y0_0 1 (by omega) (by omega))
  exact L.ClosureOf a0 A1 c1 y1 A2 c2 y2 s1 k1 (y1.map cvDep) k2 y2 k3 Y0_0 Y1 k4 k5 k6 k7 k8 ((1 : Int) + (Ax.cntDepS ((y1.map cvDep)) : Nat)) (((1 : Int) + (Ax.cntDepS ((y1.map cvDep)) : Nat)) + (Ax.cntIntS y2 : Nat)) ((1 : Int) + (Ax.cntIntS Y0_0 : Nat)) k9 w (Aside0.mk hr1) (Aside0.mk hl1) (Aside0.mk hr2) (Aside0.mk hl2) (Aside0.mk e1) (Aside0.mk e2) (Aside0.mk e3) (Aside0.mk e4) (Aside0.mk e5) (Aside0.mk e6) (Aside0.mk e7) (Aside0.mk e8) (Aside0.mk e9) (decide_eq_false (by omega)) (decide_eq_false (by omega)) (decide_eq_false (by omega)) (decide_eq_false (by omega)) (decide_eq_false (by omega)) (decide_eq_false (by omega)) (Aside0.mk (by omega)) (Aside0.mk ⟨rfl, by omega⟩) (Aside0.mk (by omega)) (Aside0.mk ⟨rfl, by omega⟩) (Aside0.mk (by omega)) (Aside0.mk ⟨rfl, by omega⟩)
end Go.Proofs.Ytmbfgfhncbmgpaa.K
