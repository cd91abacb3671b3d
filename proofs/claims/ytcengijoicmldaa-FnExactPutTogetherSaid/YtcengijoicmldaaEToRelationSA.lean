/- laws.toRelationS's contract with more told: the relations lie apart, and in each its two parts. Printed text, turned by apartr.py. -/
import Derived.Test.YtcengijoicmldaaPr0
import Derived.Test.YtcengijoicmldaaPr1
import Derived.Test.YtcengijoicmldaaPr2
import Derived.Test.YtcengijoicmldaaPr3
import Derived.Test.YtcengijoicmldaaPr4
import Derived.Test.YtcengijoicmldaaMx7
namespace Go.Proofs.Ytcengijoicmldaa.Pr
open Go.RowKit Go.Proofs.YtcengijoicmldaaW.PrintWords Go.Proofs.YtcengijoicmldaaW.PrintLast Go.Proofs.YtcengijoicmldaaW.PrintMore
set_option linter.unusedVariables false
set_option linter.unusedSimpArgs false
set_option maxHeartbeats 8000000 in
set_option maxRecDepth 100000 in
theorem laws_toRelationSA.calls (k : Nat) (A0 : Option Addr) (c0 : Nat) (l0 : List (S37)) (r : List (S27)) (w : World) (hr0 : Kd.C k37 w A0 l0.length l0) (hc0 : l0.length ≤ c0) (h : laws_toRelationS.f k l0 = some r) :
  Calls Try.prog 8 #[.slice A0 l0.length c0] w fun e w' => ∃ v0_ : Value, e = .returned (v0_) ∧ Kd.S kA 27 w' w.heap.size (fun _ => True) v0_ r ∧ Below w.heap.size w w' := by
 have hu37 := Try.underlying37
 have hu27 := Try.underlying27
 have HR0 := shM hr0
 have HC0 := shM hc0
 clear hr0 hc0
 have HB := shM (Below.refl w.heap.size w)
 have H : (if 0 ≤ (l0.length : Int) then (if ((l0.length : Int) : Int).toNat ≤ 5864062014805 then (laws_toRelationS.l0 k l0 (List.replicate ((l0.length : Int) : Int).toNat z27) 0) else (none)) else (none)) = some r := h
 clear h
 by_cases c2 : 0 ≤ (l0.length : Int)
 ·rw [if_pos c2] at H
  have c2b0 := eq_true c2
  have c2b1 : decide (0 ≤ (l0.length : Int)) = true := decide_eq_true c2
  clear c2
  by_cases c3 : ((l0.length : Int) : Int).toNat ≤ 5864062014805
  ·rw [if_pos c3] at H
   have c3b0 := eq_true c3
   have c3b1 : decide (((l0.length : Int) : Int).toNat ≤ 5864062014805) = true := decide_eq_true c3
   clear c3
   obtain ⟨y392, hy392⟩ : ∃ y_ : List (S27), y_ = (List.replicate ((l0.length : Int) : Int).toNat z27) := ⟨_, rfl⟩
   replace H : (laws_toRelationS.l0 k l0 y392 0) = some r := by first | (rw [hy392]; with_reducible exact H) | (have H2_ := (Option.bind_some _ _).symm.trans H; first | (rw [hy392]; with_reducible exact H2_) | with_reducible exact H2_) | with_reducible exact H | (rw [hy392]; exact H) | exact H
   have Ny392 := shM hy392
   clear hy392
   have H' := shM H
   clear H
   go_enter Try.func8, Try.ntmps8
   go_wp2_with (first | ((with_reducible refine gate_dst (N := 7) rfl ?_); refine Kd.S_make kA _ 27 rfl (N := 7) rfl 30 _ _ rfl (l0.length : Int) rfl rfl Try.underlying30 (.agg #[(.slice none 0 0), (.slice none 0 0)]) 48 info27 rfl (by decide) (by omega) z27 (ok := fun _ => True) (okp := fun _ => True) (kA_mkM _ _ _ z27 (Kd.R_nil _ _ _ _ _) (Kd.S_nil _ _ _ _ _)) (fun _ hk => hk) trivial (of_decide_eq_true (by first | (with_reducible assumption) | assumption)) (Nat.le_trans (Nat.mul_le_mul_right _ (of_decide_eq_true (by first | (with_reducible assumption) | assumption) : (l0.length : Int).toNat ≤ 5864062014805)) (by omega)) (Below.refl _ _) (Nat.le_refl _) ?_; intro v393 w4 ho5 hb hg_ hnew_; clear hg_ hnew_; (first | rw [← Ny392.out] at ho5 | (simp only [Int.reduceToNat] at ho5; rw [← Ny392.out] at ho5)); have n0_ := shM (Kd.S_lower ho5 (below_size (by repeat (first | (with_reducible first | exact HB.out | apply shA | apply shN | apply shD) | exact HB.out)))); have n1_ := shM (below_step (by repeat (first | (with_reducible first | exact HB.out | apply shA | apply shN | apply shD) | exact HB.out)) hb); clear HB; have HO394 := n0_; have HB := n1_; clear n0_ n1_; clear hb ho5))
   go_loopg [4] k (fun kq v4 w' => ∃ (x3_1 : List (S27)) (x4_1 : Int), v4 = .int .i64 x4_1 ∧ Aside0 (laws_toRelationS.l0 kq l0 x3_1 x4_1 = some r) ∧ Aside0 (kq ≤ k) ∧ Aside0 (Kd.S kA 27 w' w.heap.size (fun _ => True) v393 x3_1) ∧ Aside0 (Below w.heap.size w w'))
   case atStart => exact ⟨(y392), (0), (by first | rfl | (simp; done) | (simp [*]; done)), H', ⟨Nat.le_refl _⟩, ⟨by exact HO394.out⟩, ⟨by repeat (first | (with_reducible first | exact HB.out | apply shA | apply shN | apply shD) | exact HB.out)⟩⟩
   case round =>
    clear H'
    try clear c2
    try clear c2b0
    try clear c2b1
    try clear p2
    try clear c3
    try clear c3b0
    try clear c3b1
    obtain ⟨x3_1, x4_1, rfl, HA, HK1, HO_3, HB⟩ := hrel
    cases gk with
    | zero => exact absurd HA.out (by simp [laws_toRelationS.l0])
    | succ k1 =>
     have H := HA.out
     clear HA
     simp only [laws_toRelationS.l0] at H
     by_cases c6 : x4_1 < (l0.length : Int)
     ·rw [if_pos c6] at H
      have c6b0 : decide (x4_1 < (l0.length : Int)) = true := decide_eq_true c6
      clear c6
      by_cases c7 : 0 ≤ x4_1
      ·rw [if_pos c7] at H
       have c7b0 : decide (0 ≤ x4_1) = true := decide_eq_true c7
       clear c7
       replace H := Option.bind_eq_some_iff.mp H
       obtain ⟨⟨t396, t399⟩, A80, H⟩ := H
       replace H : (if x4_1 < (x3_1.length : Int) then (laws_toRelationS.l0 k1 l0 (x3_1.set (x4_1 : Int).toNat (⟨t396, t399⟩ : S27)) (wrap64 (x4_1 + 1))) else (none)) = some r := H
       have A8 := shM A80
       clear A80
       by_cases c9 : x4_1 < (x3_1.length : Int)
       ·rw [if_pos c9] at H
        have c9b0 : decide (x4_1 < (x3_1.length : Int)) = true := decide_eq_true c9
        clear c9
        obtain ⟨y402, hy402⟩ : ∃ y_ : List (S27), y_ = (x3_1.set (x4_1 : Int).toNat (⟨t396, t399⟩ : S27)) := ⟨_, rfl⟩
        replace H : (laws_toRelationS.l0 k1 l0 y402 (wrap64 (x4_1 + 1))) = some r := by first | (rw [hy402]; with_reducible exact H) | (have H2_ := (Option.bind_some _ _).symm.trans H; first | (rw [hy402]; with_reducible exact H2_) | with_reducible exact H2_) | with_reducible exact H | (rw [hy402]; exact H) | exact H
        have Ny402 := shM hy402
        clear hy402
        have H' := shM H
        clear H
        have p395 : 0 ≤ (x4_1 : Int) := of_decide_eq_true (by first | (with_reducible assumption) | assumption)
        have q395 : x4_1 < (l0.length : Int) := of_decide_eq_true (by first | (with_reducible assumption) | assumption)
        obtain ⟨ad395, A395_0, c395_0, A395_1, c395_1, e395, hx395_0, hx395_1, hl395_0, hi395_0, hl395_1, hi395_1⟩ := at_T37 HR0.out x4_1 p395 q395
        cases e395
        replace hx395_0 := (HB.out.cell (World.block_lt_of_cell? w _ hx395_0)).trans hx395_0
        replace hx395_1 := (HB.out.cell (World.block_lt_of_cell? w _ hx395_1)).trans hx395_1
        have HR395_0 := shM hi395_0
        have HC395_0 := shM hl395_0
        clear hi395_0 hl395_0
        have HR395_1 := shM hi395_1
        have HC395_1 := shM hl395_1
        clear hi395_1 hl395_1
        replace p395 := eq_true p395
        replace q395 := eq_true q395
        go_wp2_with (first | ((with_reducible refine gate_callee (f := 18) rfl ?_); refine goesL_ (some 20) rfl rfl Try.func18 (by kernel_rfl) rfl #[.agg #[.slice A395_0 ((rd_T37 l0 x4_1).f0).length c395_0, .slice A395_1 ((rd_T37 l0 x4_1).f1).length c395_1]] rfl (by (try simp only [List.map_toArray, List.map_cons, List.map_nil]); first | done | rfl) ?_; (with_reducible refine (laws_toRelation.calls k1 _ _ ((rd_T37 l0 x4_1).f0) _ _ ((rd_T37 l0 x4_1).f1) t396 t399 _ ?side1 ?side2 ?side3 ?side4 A8.out).mono ?_); (case side1 => repeat (first | exact (Kd.C_below HR395_0.out HB.out) | (with_reducible refine Kd.C_alloc ?_ _) | (with_reducible refine Kd.C_drewN ?_ _) | (with_reducible refine Kd.C_drew ?_))); (case side2 => exact HC395_0.out); (case side3 => repeat (first | exact (Kd.C_below HR395_1.out HB.out) | (with_reducible refine Kd.C_alloc ?_ _) | (with_reducible refine Kd.C_drewN ?_ _) | (with_reducible refine Kd.C_drew ?_))); (case side4 => exact HC395_1.out); rintro e w11 ⟨v397, v400, rfl, ho0, ho1, hb⟩; refine ⟨_, rfl, ?_⟩; have new_ : ∃ N_ : Nat, Kd.S kA 27 w11 w.heap.size (fun k_ => True ∧ k_ < N_) _ _ ∧ (Kd.int .i64).R 3 w11 w.heap.size (fun k_ => N_ ≤ k_) v397 _ ∧ Kd.S (Kd.slice 3 (Kd.int .i64)) 24 w11 w.heap.size (fun k_ => some k_ ≠ (v397 : Value).ownBlock ∧ N_ ≤ k_) v400 _ := ⟨_, Kd.S_old HO_3.out hb, Kd.R_lower (Kd.R_mono (Kd.R_bound ho0) (fun _ h_ => h_.2.1)) (below_size (by repeat (first | (with_reducible first | exact HB.out | apply shA | apply shN | apply shD) | exact HB.out))), Kd.S_lower (Kd.S_mono (Kd.S_bound ho1) (fun _ h_ => ⟨h_.1, h_.2.1⟩)) (below_size (by repeat (first | (with_reducible first | exact HB.out | apply shA | apply shN | apply shD) | exact HB.out)))⟩; obtain ⟨N_, q0_, q1_, q2_⟩ := new_; have n0_ := shM q0_; have n1_ := shM q1_; have n2_ := shM q2_; clear q0_ q1_ q2_; have n3_ := shM (below_step (by repeat (first | (with_reducible first | exact HB.out | apply shA | apply shN | apply shD) | exact HB.out)) hb); clear HO_3; clear HB; have HO_3 := n0_; have HO398 := n1_; have HO401 := n2_; have HB := n3_; clear n0_ n1_ n2_ n3_; (try clear hb); (try clear hb2); (try clear hk); (try clear hi); (try clear ho0); (try clear ho1); have p10 : 0 ≤ (x4_1 : Int) := of_decide_eq_true (by first | (with_reducible assumption) | assumption); have q10 : (x4_1 : Int) < ((x3_1.length : Int) : Int) := of_decide_eq_true (by first | (with_reducible assumption) | assumption); obtain ⟨go10, co10, eo10, gb10, gl10, cl10, HG10⟩ := Kd.S_form HO_3.out (by omega); (first | cases eo10 | (injection eo10 with ea_ en_ ec_; (first | subst ea_ | (injection ea_ with ea_; subst ea_)); subst ec_; clear en_)); have GB10 := shM gb10; have GG10 := shM HG10; clear gb10 gl10 HG10; obtain ⟨_, ce10, hcl10, hM10, hcc10, hfr10, _, _⟩ := Kd.S_elem HO_3.out z27 (x4_1 : Int) p10 q10; obtain ⟨ve10_0, ve10_1, rfl, ge10_0, ge10_1⟩ := kA_openM hM10; have hx10_0 : w11.cell? ⟨go10, (x4_1 : Int).toNat * 2, none⟩ = some (ve10_0) := hcc10 0 _ rfl; have hx10_1 : w11.cell? ⟨go10, (x4_1 : Int).toNat * 2 + 1, none⟩ = some (ve10_1) := hcc10 1 _ rfl; have hf10_0 : w11.frozen? ⟨go10, (x4_1 : Int).toNat * 2, none⟩ = false := hfr10 0; have hf10_1 : w11.frozen? ⟨go10, (x4_1 : Int).toNat * 2 + 1, none⟩ = false := hfr10 1; clear hcl10 hcc10 hfr10; (try clear hM10); replace p10 := eq_true p10; replace q10 := eq_true q10; have HX12 := shM (show Kd.S kA 27 w11 w.heap.size (fun k_ => True ∧ ¬ (N_ ≤ k_ ∧ k_ ≠ go10)) (.slice (some ⟨go10, 0, none⟩) x3_1.length co10) x3_1 from (by exact Kd.S_mono HO_3.out (fun _ hk => ⟨trivial, fun h_ => absurd hk.2 (Nat.not_lt.2 h_.1)⟩))); obtain ⟨oki_, ce12, hcl12, hM12, hcc12, hfr12, hoki_, hH_⟩ := Kd.S_elem HX12.out z27 (x4_1 : Int) (of_decide_eq_true (by first | (with_reducible assumption) | assumption)) (by have h_ : (x4_1 : Int) < ((x3_1.length : Int) : Int) := of_decide_eq_true (by first | (with_reducible assumption) | assumption); first | exact h_ | (have e_ := (Kd.S_reads' HO_3.out).1; omega) | simpa using h_); obtain ⟨ve12_0, ve12_1, rfl, ge12_0, ge12_1⟩ := kA_openM hM12; have HP12 := Kd.S_seg (ok := fun _ => True) (okg := fun k_ => N_ ≤ k_ ∧ k_ ≠ go10) hH_ (of_decide_eq_true (by first | (with_reducible assumption) | assumption)) (by have h_ : (x4_1 : Int) < ((x3_1.length : Int) : Int) := of_decide_eq_true (by first | (with_reducible assumption) | assumption); first | exact h_ | (have e_ := (Kd.S_reads' HO_3.out).1; omega) | simpa using h_) (seg := [v397, v400]) (j := 0) (show 2 ≤ 2 from by decide) (x' := (⟨t396, t399⟩ : S27)) (kA_mkM _ _ _ (⟨t396, t399⟩ : S27) (Kd.R_mono (Kd.R_apart' (HO398.out) (Kd.S_typed HO_3.out) (by decide)) (fun k_ hk => ⟨hk.1, fun e_ => (hk.2) (by rw [e_]; rfl)⟩)) (Kd.S_mono (Kd.S_apart' (HO401.out) (Kd.S_typed HO_3.out) (by decide)) (fun k_ hk => ⟨⟨hk.1.2, fun e_ => (hk.2) (by rw [e_]; rfl)⟩, hk.1.1⟩))) (fun _ hk => .inr hk) (fun _ hk => ⟨trivial, hk.2⟩); have hx12_0 := hcc12 0 _ rfl; (try simp only [show (kA).sz = 2 from rfl, Nat.mul_one, Nat.add_zero] at hx12_0); have hf12_0 := hfr12 0; (try simp only [show (kA).sz = 2 from rfl, Nat.mul_one, Nat.add_zero] at hf12_0); have hx12_1 := hcc12 1 _ rfl; (try simp only [show (kA).sz = 2 from rfl, Nat.mul_one, Nat.add_zero] at hx12_1); have hf12_1 := hfr12 1; (try simp only [show (kA).sz = 2 from rfl, Nat.mul_one, Nat.add_zero] at hf12_1); clear hcl12 hcc12 hfr12; (try clear hM12)) | ((with_reducible refine gate_store (t := 27) (p := 21) rfl ?_); refine store_event (t := 27) (p := 21) (v := ?vo_w13) (w1 := ((w11.setCell ⟨go10, (x4_1 : Int).toNat * 2, none⟩ (v397)).setCell ⟨go10, (x4_1 : Int).toNat * 2 + 1, none⟩ (v400))) ?hg ?ho ?hn ?hr ?_; (case ho => rfl); (case hg => rfl); (case hn => rfl); (case hr => first | (go_simp; done) | (go_simp; rfl) | ((first | obtain ⟨A_, c_, e_⟩ := Kd.R_slice HO398.out | obtain ⟨A_, c_, e_⟩ := Kd.S_slice HO398.out); subst e_; obtain ⟨A_, c_, e_⟩ := Kd.S_slice HO401.out; subst e_; first | (go_simp; done) | (go_simp; rfl)) | (obtain ⟨A_, c_, e_⟩ := Kd.R_slice HO398.out; subst e_; go_simp; rfl) | (obtain ⟨A_, c_, e_⟩ := Kd.R_slice HO398.out; subst e_; go_simp; done) | (obtain ⟨A_, c_, e_⟩ := Kd.R_slice HO401.out; subst e_; go_simp; rfl) | (obtain ⟨A_, c_, e_⟩ := Kd.R_slice HO401.out; subst e_; go_simp; done)); intro w13 hw; have hg : w11.grownBy w13 (some go10) := (by rw [hw]; exact HP12.2); have hp_ : Kd.S kA 27 w13 w.heap.size (fun _ => True) (.slice (some ⟨go10, 0, none⟩) x3_1.length co10) y402 := (by rw [hw, Ny402.out]; exact HP12.1); clear HP12; have n0_ := shM (hp_); have n1_ := shM ((by rw [hw]; exact shS (shS (HB.out) GB10.out) GB10.out : Below w.heap.size w w13)); clear HO_3; clear HB; clear HO398; clear HO401; have HO_3 := n0_; have HB := n1_; clear n0_ n1_; clear hg hw hp_))
        go_roundg k1
        case measure => have := HK1.out; omega
        case rel => exact ⟨(y402), (wrap64 (x4_1 + 1)), (by first | rfl | (simp; done) | (simp [*]; done)), H', ⟨by have := HK1.out; omega⟩, ⟨by exact HO_3.out⟩, ⟨by repeat (first | (with_reducible first | exact HB.out | apply shA | apply shN | apply shD) | exact HB.out)⟩⟩
       ·rw [if_neg c9] at H
        exact absurd H (by simp)
      ·rw [if_neg c7] at H
       exact absurd H (by simp)
     ·rw [if_neg c6] at H
      have c6b0 : decide (x4_1 < (l0.length : Int)) = false := decide_eq_false c6
      clear c6
      obtain rfl := Option.some.inj H
      go_wp2
      go_ret
      exact ⟨_, by first | rfl | (simp [errW_none, errW_some] <;> rfl) | (simp [*, errW_none, errW_some] <;> rfl), by exact HO_3.out, by repeat (first | (with_reducible first | exact HB.out | apply shA | apply shN | apply shD) | exact HB.out)⟩
  ·rw [if_neg c3] at H
   exact absurd H (by simp)
 ·rw [if_neg c2] at H
  exact absurd H (by simp)
end Go.Proofs.Ytcengijoicmldaa.Pr
