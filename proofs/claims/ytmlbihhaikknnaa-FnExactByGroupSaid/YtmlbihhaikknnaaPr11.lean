-- Written by xprint.py (a program of this session, over the kit's print). Not trusted: Lean checks it.
import Derived.Test.YtmlbihhaikknnaaPr0
import Derived.Test.YtmlbihhaikknnaaPr1
import Derived.Test.YtmlbihhaikknnaaPr7
import Derived.Test.YtmlbihhaikknnaaPr8
import Derived.Test.YtmlbihhaikknnaaPr9
import Derived.Test.YtmlbihhaikknnaaPr10
namespace Go.Proofs.Ytmlbihhaikknnaa.Pr
open Go.RowKit Go.Proofs.YtmlbihhaikknnaaW.PrintWords Go.Proofs.YtmlbihhaikknnaaW.PrintLast Go.Proofs.YtmlbihhaikknnaaW.PrintMore
attribute [local go_sem] max2_int min2_int max_two min_two max_three min_three max_four min_four   -- for this text's walks alone
set_option linter.unusedVariables false
set_option linter.unusedSimpArgs false
attribute [local go_sem high] eqA43
mutual
def spec_ByGroup.j0 : Nat → List (S53) → Int → Int → Bool → Option ((List (S53)) × Bool)
 | 0, _, _, _, _ => none
 | k + 1, x0, x1, x2, x30 => if x30 = true then (some (([] : List (S53)), false)) else (spec_ByGroup.l0 k x0 x1 x2 ([] : List (S43)) x0 (x0.length : Int) 0)
def spec_ByGroup.l0 : Nat → List (S53) → Int → Int → List (S43) → List (S53) → Int → Int → Option ((List (S53)) × Bool)
 | 0, _, _, _, _, _, _, _ => none
 | k + 1, x0, x1, x2, x8, x31, x32, x33 => if x33 < x32 then (if 0 ≤ x33 then (if x33 < (x31.length : Int) then (if 0 ≤ x1 then (if x1 < (((rd_T53 x31 x33).f1).length : Int) then (if x8.length < 8796093022208 then (spec_ByGroup.l0 k x0 x1 x2 (x8 ++ [(⟨(rd_T43 ((rd_T53 x31 x33).f1) x1).f0, (rd_T43 ((rd_T53 x31 x33).f1) x1).f1⟩ : S43)]) x31 x32 (wrap64 (x33 + 1))) else (none)) else (none)) else (none)) else (none)) else (none)) else ((spec_l4Distinct.f k x8).bind fun t231 => (spec_ByGroup.l1 k x0 x1 x2 ([] : List (S53)) t231 (t231.length : Int) 0))
def spec_ByGroup.l1 : Nat → List (S53) → Int → Int → List (S53) → List (S43) → Int → Int → Option ((List (S53)) × Bool)
 | 0, _, _, _, _, _, _, _ => none
 | k + 1, x0, x1, x2, x11, x47, x48, x49 => if x49 < x48 then (if 0 ≤ x49 then (if x49 < (x47.length : Int) then ((spec_l4None.f).bind fun bt236 => (spec_ByGroup.l2 k x0 x1 x2 x11 x49 x47 x48 x49 x0 (x0.length : Int) 0 ((rd_T43 x47 x49).f0) ((rd_T43 x47 x49).f1) bt236.1 bt236.2.1 bt236.2.2.1 bt236.2.2.2.1 bt236.2.2.2.2.1 bt236.2.2.2.2.2.1 bt236.2.2.2.2.2.2)) else (none)) else (none)) else (some (x11, true))
def spec_ByGroup.l2 : Nat → List (S53) → Int → Int → List (S53) → Int → List (S43) → Int → Int → List (S53) → Int → Int → Bool → Int → Int → Int → Int → Bool → Int → Bool → Int → Option ((List (S53)) × Bool)
 | 0, _, _, _, _, _, _, _, _, _, _, _, _, _, _, _, _, _, _, _, _ => none
 | k + 1, x0, x1, x2, x11, x12, x47, x48, x49, x55, x56, x57, x236000, x236001, x244000, x244001, x244002, x244003, x244004, x244005, x244006 => if x57 < x56 then (if 0 ≤ x57 then (if x57 < (x55.length : Int) then (if 0 ≤ x1 then (if x1 < (((rd_T53 x55 x57).f1).length : Int) then (if (((rd_T43 ((rd_T53 x55 x57).f1) x1).f0) == x236000 && (((rd_T43 ((rd_T53 x55 x57).f1) x1).f1) == x236001)) = true then (if 0 ≤ x2 then (if x2 < (((rd_T53 x55 x57).f1).length : Int) then ((spec_l4Add.f k x244000 x244001 x244002 x244003 x244004 x244005 x244006 ((rd_T43 ((rd_T53 x55 x57).f1) x2).f0) ((rd_T43 ((rd_T53 x55 x57).f1) x2).f1)).bind fun bt248 => (spec_ByGroup.l2 k x0 x1 x2 x11 x12 x47 x48 x49 x55 x56 (wrap64 (x57 + 1)) x236000 x236001 bt248.1 bt248.2.1 bt248.2.2.1 bt248.2.2.2.1 bt248.2.2.2.2.1 bt248.2.2.2.2.2.1 bt248.2.2.2.2.2.2)) else (none)) else (none)) else (spec_ByGroup.l2 k x0 x1 x2 x11 x12 x47 x48 x49 x55 x56 (wrap64 (x57 + 1)) x236000 x236001 x244000 x244001 x244002 x244003 x244004 x244005 x244006)) else (none)) else (none)) else (none)) else (none)) else ((spec_GoodValue.f false x244002).bind fun t256 => (if t256 = true then (if x11.length < 4398046511104 then (spec_ByGroup.l1 k x0 x1 x2 (x11 ++ [(⟨x12, (([(⟨x236000, x236001⟩ : S43), (⟨false, x244000⟩ : S43), (⟨false, x244002⟩ : S43)] : List (S43)))⟩ : S53)]) x47 x48 (wrap64 (x49 + 1))) else (none)) else (if x11.length < 4398046511104 then (spec_ByGroup.l1 k x0 x1 x2 (x11 ++ [(⟨x12, (([(⟨x236000, x236001⟩ : S43), (⟨false, x244000⟩ : S43), (⟨true, 0⟩ : S43)] : List (S43)))⟩ : S53)]) x47 x48 (wrap64 (x49 + 1))) else (none))))
end
def spec_ByGroup.f (k : Nat) (l0 : List (S53)) (a1 : Int) (a2 : Int) : Option ((List (S53)) × Bool) := (spec_GoodTable.f k l0).bind fun t222 => (if t222 = true then ((spec_l1In.f a1 0 2).bind fun t223 => (if t223 = true then ((spec_l1In.f a2 0 2).bind fun t224 => (spec_ByGroup.j0 k l0 a1 a2 (!t224))) else (spec_ByGroup.j0 k l0 a1 a2 true))) else (spec_ByGroup.j0 k l0 a1 a2 true))
def spec_ByGroup.T18 : Bool × List (List Nat × List Nat) := (true, [([], []), ([], []), ([1], [1]), ([], []), ([2, 3], [2, 3]), ([4], [4]), ([0, 5], [0, 5]), ([6, 6, 0, 1, 2, 3, 4, 5, 6], [6])])
def spec_ByGroup.B18 : List Nat := [0, 0, 2, 0, 14, 30, 63, 127]
theorem spec_ByGroup.tab18 : rtab .any (opsOf Try.f13 18) = spec_ByGroup.T18 := by kernel_rfl
theorem spec_ByGroup.bits18 : waitsOk spec_ByGroup.T18.2 spec_ByGroup.B18 = true := by kernel_rfl
set_option maxHeartbeats 8000000 in
set_option maxRecDepth 100000 in
theorem spec_ByGroup.calls (k : Nat) (A0 : Option Addr) (c0 : Nat) (l0 : List (S53)) (a1 : Int) (a2 : Int) (r1 : List (S53)) (r2 : Bool) (w : World) (hr0 : Kd.C k53 w A0 l0.length l0) (hc0 : l0.length ≤ c0) (h : spec_ByGroup.f k l0 a1 a2 = some (r1, r2)) :
  Calls Try.prog 13 #[.slice A0 l0.length c0, .int .i64 a1, .int .i64 a2] w fun e w' => ∃ v0_ : Value, e = .returned (.tuple #[v0_, .bool r2]) ∧ Kd.S k53 53 w' w.heap.size (fun _ => True) v0_ r1 ∧ Below w.heap.size w w' := by
 have hu53 := Try.underlying53
 have hu43 := Try.underlying43
 have hu55 := Try.underlying55
 have HR0 := Aside0.mk hr0
 have HC0 := Aside0.mk hc0
 clear hr0 hc0
 have HB := Aside0.mk (Below.refl w.heap.size w)
 have H : ((spec_GoodTable.f k l0).bind fun t222 => (if t222 = true then ((spec_l1In.f a1 0 2).bind fun t223 => (if t223 = true then ((spec_l1In.f a2 0 2).bind fun t224 => (spec_ByGroup.j0 k l0 a1 a2 (!t224))) else (spec_ByGroup.j0 k l0 a1 a2 true))) else (spec_ByGroup.j0 k l0 a1 a2 true))) = some (r1, r2) := h
 clear h
 have HC4 := Aside0.mk H
 clear H
 go_enter Try.func13, Try.ntmps13
 go_upto_region 1 with (fail)
 go_cut [30] (fun v30 wc => ∃ (kq : Nat) (x30_3 : Bool), v30 = .bool x30_3 ∧ Aside0 (spec_ByGroup.j0 kq l0 a1 a2 x30_3 = some (r1, r2)) ∧ Aside0 (kq ≤ k) ∧ Aside0 (Below w.heap.size w wc))
 case first =>
  have H := HC4.out
  clear HC4
  replace H := Option.bind_eq_some_iff.mp H
  obtain ⟨t222, A50, H⟩ := H
  replace H : (if t222 = true then ((spec_l1In.f a1 0 2).bind fun t223 => (if t223 = true then ((spec_l1In.f a2 0 2).bind fun t224 => (spec_ByGroup.j0 k l0 a1 a2 (!t224))) else (spec_ByGroup.j0 k l0 a1 a2 true))) else (spec_ByGroup.j0 k l0 a1 a2 true)) = some (r1, r2) := H
  have A5 := Aside0.mk A50
  clear A50
  by_cases c6 : t222 = true
  ·subst c6
   have H1 : ((spec_l1In.f a1 0 2).bind fun t223 => (if t223 = true then ((spec_l1In.f a2 0 2).bind fun t224 => (spec_ByGroup.j0 k l0 a1 a2 (!t224))) else (spec_ByGroup.j0 k l0 a1 a2 true))) = some (r1, r2) := by rw [if_pos rfl] at H; exact H
   clear H
   have H := H1
   clear H1
   replace H := Option.bind_eq_some_iff.mp H
   obtain ⟨t223, A70, H⟩ := H
   replace H : (if t223 = true then ((spec_l1In.f a2 0 2).bind fun t224 => (spec_ByGroup.j0 k l0 a1 a2 (!t224))) else (spec_ByGroup.j0 k l0 a1 a2 true)) = some (r1, r2) := H
   have A7 := Aside0.mk A70
   clear A70
   by_cases c8 : t223 = true
   ·subst c8
    have H1 : ((spec_l1In.f a2 0 2).bind fun t224 => (spec_ByGroup.j0 k l0 a1 a2 (!t224))) = some (r1, r2) := by rw [if_pos rfl] at H; exact H
    clear H
    have H := H1
    clear H1
    replace H := Option.bind_eq_some_iff.mp H
    obtain ⟨t224, A90, H⟩ := H
    replace H : (spec_ByGroup.j0 k l0 a1 a2 (!t224)) = some (r1, r2) := H
    have A9 := Aside0.mk A90
    clear A90
    have H' := Aside0.mk H
    clear H
    go_wp2_with (first | ((with_reducible refine gate_callee (f := 26) rfl ?_); refine goesL_ (some 19) rfl rfl Try.func26 (by kernel_rfl) rfl #[.slice A0 l0.length c0] rfl (by (try simp only [List.map_toArray, List.map_cons, List.map_nil]); first | done | rfl | (simp only [List.length_drop, List.length_take]; rfl)) ?_; (with_reducible refine (spec_GoodTable.calls k _ _ l0 true _ ?side1 ?side2 A5.out).mono ?_); (case side1 => repeat (first | exact (Kd.C_below HR0.out HB.out) | (with_reducible refine Kd.C_alloc ?_ _) | (with_reducible refine Kd.C_drewN ?_ _) | (with_reducible refine Kd.C_drew ?_))); (case side2 => exact HC0.out); rintro e w10 ⟨rfl, hb⟩; refine ⟨_, rfl, ?_⟩; have n0_ := Aside0.mk (below_step (by repeat (first | (with_reducible first | exact HB.out | apply below_alloc | apply pw_below_drewN | apply below_drew1) | exact HB.out)) hb); clear HB; have HB := n0_; clear n0_; (try clear hb); (try clear hb2); (try clear hk); (try clear hi)) | (go_at_call 27; (with_reducible refine (spec_l1In.calls a1 0 2 true _ A7.out).mono ?_); rintro e w' ⟨rfl, ⟨nd, rfl⟩⟩) | (go_at_call 27; (with_reducible refine (spec_l1In.calls a2 0 2 t224 _ A9.out).mono ?_); rintro e w' ⟨rfl, ⟨nd, rfl⟩⟩))
    go_meet
    case rel => exact ⟨_, (!t224), (by first | rfl | (simp; done) | (simp [*]; done)), H', ⟨by first | omega | exact Nat.le_refl _⟩, ⟨by repeat (first | (with_reducible first | exact HB.out | apply below_alloc | apply pw_below_drewN | apply below_drew1) | exact HB.out)⟩⟩
   ·replace c8 := Bool.eq_false_iff.mpr c8
    subst c8
    have H1 : (spec_ByGroup.j0 k l0 a1 a2 true) = some (r1, r2) := by rw [if_neg (show ¬ (false = true) by decide)] at H; exact H
    clear H
    have H := H1
    clear H1
    have H' := Aside0.mk H
    clear H
    go_wp2_with (first | ((with_reducible refine gate_callee (f := 26) rfl ?_); refine goesL_ (some 19) rfl rfl Try.func26 (by kernel_rfl) rfl #[.slice A0 l0.length c0] rfl (by (try simp only [List.map_toArray, List.map_cons, List.map_nil]); first | done | rfl | (simp only [List.length_drop, List.length_take]; rfl)) ?_; (with_reducible refine (spec_GoodTable.calls k _ _ l0 true _ ?side1 ?side2 A5.out).mono ?_); (case side1 => repeat (first | exact (Kd.C_below HR0.out HB.out) | (with_reducible refine Kd.C_alloc ?_ _) | (with_reducible refine Kd.C_drewN ?_ _) | (with_reducible refine Kd.C_drew ?_))); (case side2 => exact HC0.out); rintro e w11 ⟨rfl, hb⟩; refine ⟨_, rfl, ?_⟩; have n0_ := Aside0.mk (below_step (by repeat (first | (with_reducible first | exact HB.out | apply below_alloc | apply pw_below_drewN | apply below_drew1) | exact HB.out)) hb); clear HB; have HB := n0_; clear n0_; (try clear hb); (try clear hb2); (try clear hk); (try clear hi)) | (go_at_call 27; (with_reducible refine (spec_l1In.calls a1 0 2 false _ A7.out).mono ?_); rintro e w' ⟨rfl, ⟨nd, rfl⟩⟩))
    go_meet
    case rel => exact ⟨_, (true), (by first | rfl | (simp; done) | (simp [*]; done)), H', ⟨by first | omega | exact Nat.le_refl _⟩, ⟨by repeat (first | (with_reducible first | exact HB.out | apply below_alloc | apply pw_below_drewN | apply below_drew1) | exact HB.out)⟩⟩
  ·replace c6 := Bool.eq_false_iff.mpr c6
   subst c6
   have H1 : (spec_ByGroup.j0 k l0 a1 a2 true) = some (r1, r2) := by rw [if_neg (show ¬ (false = true) by decide)] at H; exact H
   clear H
   have H := H1
   clear H1
   have H' := Aside0.mk H
   clear H
   go_wp2_with (first | ((with_reducible refine gate_callee (f := 26) rfl ?_); refine goesL_ (some 19) rfl rfl Try.func26 (by kernel_rfl) rfl #[.slice A0 l0.length c0] rfl (by (try simp only [List.map_toArray, List.map_cons, List.map_nil]); first | done | rfl | (simp only [List.length_drop, List.length_take]; rfl)) ?_; (with_reducible refine (spec_GoodTable.calls k _ _ l0 false _ ?side1 ?side2 A5.out).mono ?_); (case side1 => repeat (first | exact (Kd.C_below HR0.out HB.out) | (with_reducible refine Kd.C_alloc ?_ _) | (with_reducible refine Kd.C_drewN ?_ _) | (with_reducible refine Kd.C_drew ?_))); (case side2 => exact HC0.out); rintro e w12 ⟨rfl, hb⟩; refine ⟨_, rfl, ?_⟩; have n0_ := Aside0.mk (below_step (by repeat (first | (with_reducible first | exact HB.out | apply below_alloc | apply pw_below_drewN | apply below_drew1) | exact HB.out)) hb); clear HB; have HB := n0_; clear n0_; (try clear hb); (try clear hb2); (try clear hk); (try clear hi)))
   go_meet
   case rel => exact ⟨_, (true), (by first | rfl | (simp; done) | (simp [*]; done)), H', ⟨by first | omega | exact Nat.le_refl _⟩, ⟨by repeat (first | (with_reducible first | exact HB.out | apply below_alloc | apply pw_below_drewN | apply below_drew1) | exact HB.out)⟩⟩
 case rest =>
  clear HC4
  try clear c1
  try clear c2
  try clear p2
  try clear c6
  try clear c8
  obtain ⟨kq, x30_3, rfl, HA, HJ3, HB⟩ := hcut
  cases kq with
  | zero => exact absurd HA.out (by simp [spec_ByGroup.j0])
  | succ kj3 =>
   have H := HA.out
   clear HA
   simp only [spec_ByGroup.j0] at H
   by_cases c13 : x30_3 = true
   ·subst c13
    have H1 : (some (([] : List (S53)), false)) = some (r1, r2) := by rw [if_pos rfl] at H; exact H
    clear H
    have H := H1
    clear H1
    simp only [Option.some.injEq, Prod.mk.injEq] at H
    obtain ⟨rfl, rfl⟩ := H
    go_wp2
    go_ret2
    exact ⟨_, by first | rfl | (simp [errW_none, errW_some] <;> rfl) | (simp [*, errW_none, errW_some] <;> rfl), by first | exact Kd.S_nil _ _ _ _ _ | exact Kd.N_nil _ _ _ _ _ | exact Kd.V_nil _ _ _ _ _ | exact Kd.Q_nil _ _ _ _ _ | exact Kd.R_nil _ _ _ _ _, by repeat (first | (with_reducible first | exact HB.out | apply below_alloc | apply pw_below_drewN | apply below_drew1) | exact HB.out)⟩
   ·replace c13 := Bool.eq_false_iff.mpr c13
    subst c13
    have H1 : (spec_ByGroup.l0 kj3 l0 a1 a2 ([] : List (S43)) l0 (l0.length : Int) 0) = some (r1, r2) := by rw [if_neg (show ¬ (false = true) by decide)] at H; exact H
    clear H
    have H := H1
    clear H1
    have H' := Aside0.mk H
    clear H
    go_wp2
    go_loopg [8, 33] kj3 (fun kq v8 v33 w' => ∃ (x8_2 : List (S43)) (x33_2 : Int), v33 = .int .i64 x33_2 ∧ Aside0 (spec_ByGroup.l0 kq l0 a1 a2 x8_2 l0 (l0.length : Int) x33_2 = some (r1, r2)) ∧ Aside0 (kq ≤ kj3) ∧ Aside0 (Kd.R k43 43 w' w.heap.size (fun _ => True) v8 x8_2) ∧ Aside0 (Below w.heap.size w w'))
    case atStart => exact ⟨(([] : List (S43))), (0), (by first | rfl | (simp; done) | (simp [*]; done)), H', ⟨Nat.le_refl _⟩, ⟨by first | exact Kd.R_nil _ _ _ _ _ | exact Kd.N_nil _ _ _ _ _ | exact Kd.V_nil _ _ _ _ _ | exact Kd.Q_nil _ _ _ _ _ | exact Kd.S_nil _ _ _ _ _⟩, ⟨by repeat (first | (with_reducible first | exact HB.out | apply below_alloc | apply pw_below_drewN | apply below_drew1) | exact HB.out)⟩⟩
    case round =>
     clear H'
     try clear c1
     try clear c2
     try clear p2
     try clear c6
     try clear c8
     try clear c13
     try clear p2
     obtain ⟨x8_2, x33_2, rfl, HA, HK2, HO_8, HB⟩ := hrel
     cases gk with
     | zero => exact absurd HA.out (by simp [spec_ByGroup.l0])
     | succ k2 =>
      have H := HA.out
      clear HA
      simp only [spec_ByGroup.l0] at H
      by_cases c14 : x33_2 < (l0.length : Int)
      ·rw [if_pos c14] at H
       have c14b0 : decide (x33_2 < (l0.length : Int)) = true := decide_eq_true c14
       clear c14
       by_cases c15 : 0 ≤ x33_2
       ·rw [if_pos c15] at H
        have c15b0 : decide (0 ≤ x33_2) = true := decide_eq_true c15
        clear c15
        by_cases c16 : x33_2 < (l0.length : Int)
        ·rw [if_pos c16] at H
         have c16b0 : decide (x33_2 < (l0.length : Int)) = true := decide_eq_true c16
         clear c16
         by_cases c17 : 0 ≤ a1
         ·rw [if_pos c17] at H
          have c17b0 : decide (0 ≤ a1) = true := decide_eq_true c17
          clear c17
          by_cases c18 : a1 < (((rd_T53 l0 x33_2).f1).length : Int)
          ·rw [if_pos c18] at H
           have c18b0 : decide (a1 < (((rd_T53 l0 x33_2).f1).length : Int)) = true := decide_eq_true c18
           clear c18
           by_cases c19 : x8_2.length < 8796093022208
           ·rw [if_pos c19] at H
            have LMc19 := Aside0.mk c19
            clear c19
            obtain ⟨y228, hy228⟩ : ∃ y_ : List (S43), y_ = (x8_2 ++ [(⟨(rd_T43 ((rd_T53 l0 x33_2).f1) a1).f0, (rd_T43 ((rd_T53 l0 x33_2).f1) a1).f1⟩ : S43)]) := ⟨_, rfl⟩
            replace H : (spec_ByGroup.l0 k2 l0 a1 a2 y228 l0 (l0.length : Int) (wrap64 (x33_2 + 1))) = some (r1, r2) := by first | (rw [hy228]; with_reducible exact H) | (have H2_ := (Option.bind_some _ _).symm.trans H; rw [hy228]; with_reducible exact H2_) | (have H2_ := (Option.bind_some _ _).symm.trans H; with_reducible exact H2_) | with_reducible exact H | (rw [hy228]; exact H) | exact H
            have Ny228 := Aside0.mk hy228
            clear hy228
            have H' := Aside0.mk H
            clear H
            have p225 : 0 ≤ (x33_2 : Int) := of_decide_eq_true (by first | (with_reducible assumption) | assumption)
            have q225 : x33_2 < (l0.length : Int) := of_decide_eq_true (by first | (with_reducible assumption) | assumption)
            obtain ⟨ad225, A225_1, c225_1, e225, hx225_0, hx225_1, hl225_1, hi225_1⟩ := at_T53 HR0.out x33_2 p225 q225
            cases e225
            replace hx225_0 := (HB.out.cell (World.block_lt_of_cell? w _ hx225_0)).trans hx225_0
            replace hx225_1 := (HB.out.cell (World.block_lt_of_cell? w _ hx225_1)).trans hx225_1
            have HR225_1 := Aside0.mk hi225_1
            have HC225_1 := Aside0.mk hl225_1
            clear hi225_1 hl225_1
            replace p225 := eq_true p225
            replace q225 := eq_true q225
            go_wp2_with (first | ((with_reducible refine gate_dst (N := 10) rfl ?_); refine box_event ?hg (N := 10) ?hd (cs := #[.int .i64 0, .slice none 0 0]) (t := 53) ?hr ?_; (case hd => rfl); (case hg => rfl); (case hr => first | (go_simp; done) | (go_simp; rfl)); intro gb226 hg w20 hbox hb; have n0_ := Aside0.mk (Kd.R_below (by (with_reducible repeat (first | apply Kd.R_alloc | apply Kd.R_drewN | apply Kd.R_drew)); exact HO_8.out) hb); have n1_ := Aside0.mk (below_step (by repeat (first | (with_reducible first | exact HB.out | apply below_alloc | apply pw_below_drewN | apply below_drew1) | exact HB.out)) hb); have n2_ := Aside0.mk (hbox); have n3_ := Aside0.mk ((by rw [hg]; exact (below_size (by repeat (first | (with_reducible first | exact HB.out | apply below_alloc | apply pw_below_drewN | apply below_drew1) | exact HB.out))) : w.heap.size ≤ gb226)); have n4_ := Aside0.mk ((by rw [hg]; exact (below_size (by repeat (first | (with_reducible first | exact HB.out | apply below_alloc | apply pw_below_drewN | apply below_drew1) | exact HB.out))) : w.heap.size ≤ gb226)); clear HO_8; clear HB; have HO_8 := n0_; have HB := n1_; have BK226 := n2_; have GW226 := n3_; have GE226 := n4_; clear n0_ n1_ n2_ n3_ n4_; clear hb hbox hg; have hcz21_0 : w20.cell? ⟨gb226, 0, none⟩ = some (.int .i64 0) := (blk_cell BK226.out 0).trans rfl; have hcz21_1 : w20.cell? ⟨gb226, 1, none⟩ = some (.slice none 0 0) := (blk_cell BK226.out 1).trans rfl; have hfz21_0 := blk_frozen BK226.out 0; have hfz21_1 := blk_frozen BK226.out 1; have p227 : 0 ≤ (a1 : Int) := of_decide_eq_true (by first | (with_reducible assumption) | assumption); have q227 : a1 < (((rd_T53 l0 x33_2).f1).length : Int) := of_decide_eq_true (by first | (with_reducible assumption) | assumption); obtain ⟨ad227, e227, hx227_0, hx227_1⟩ := at_T43 HR225_1.out a1 p227 q227; cases e227; have hn227_0 : ad227.block ≠ gb226 := Nat.ne_of_lt (Nat.lt_of_lt_of_le (by have := World.block_lt_of_cell? _ _ hx227_0; first | rwa [add_block] at this | exact this) GW226.out); have hn227_1 : ad227.block ≠ gb226 := Nat.ne_of_lt (Nat.lt_of_lt_of_le (by have := World.block_lt_of_cell? _ _ hx227_0; first | rwa [add_block] at this | exact this) GW226.out); replace hx227_0 := (HB.out.cell (World.block_lt_of_cell? w _ hx227_0)).trans hx227_0; replace hx227_1 := (HB.out.cell (World.block_lt_of_cell? w _ hx227_1)).trans hx227_1; replace hx227_0 := (cell_far (p := ⟨gb226, 0, none⟩) (by first | (rw [add_block]; exact hn227_0) | (show (Addr.add _ _).block ≠ _; rw [add_block]; exact hn227_0) | exact hn227_0) (.int .i64 ((rd_T53 l0 x33_2).f0))).trans hx227_0; replace hx227_1 := (cell_far (p := ⟨gb226, 0, none⟩) (by first | (rw [add_block]; exact hn227_0) | (show (Addr.add _ _).block ≠ _; rw [add_block]; exact hn227_0) | exact hn227_0) (.int .i64 ((rd_T53 l0 x33_2).f0))).trans hx227_1; replace hx227_0 := (cell_far (p := ⟨gb226, 1, none⟩) (by first | (rw [add_block]; exact hn227_1) | (show (Addr.add _ _).block ≠ _; rw [add_block]; exact hn227_1) | exact hn227_1) (.slice (some ad227) ((rd_T53 l0 x33_2).f1).length c225_1)).trans hx227_0; replace hx227_1 := (cell_far (p := ⟨gb226, 1, none⟩) (by first | (rw [add_block]; exact hn227_1) | (show (Addr.add _ _).block ≠ _; rw [add_block]; exact hn227_1) | exact hn227_1) (.slice (some ad227) ((rd_T53 l0 x33_2).f1).length c225_1)).trans hx227_1; clear hn227_0; clear hn227_1; replace p227 := eq_true p227; replace q227 := eq_true q227) | ((with_reducible refine gate_builtin (b := .append) (xs := #[.tmp 37, .tmp 43]) rfl ?_); at_builtin; refine Kd.R_append k43 (w0 := w) w.heap.size rfl (.tmp 37) (.tmp 43) 24 43 (.agg #[(.bool false), (.int .i64 0)]) 16 rfl Try.underlying24 info43 rfl (by decide) (by omega) u8 x8_2 (⟨(rd_T43 ((rd_T53 l0 x33_2).f1) a1).f0, (rd_T43 ((rd_T53 l0 x33_2).f1) a1).f1⟩ : S43) [.bool ((rd_T43 ((rd_T53 l0 x33_2).f1) a1).f0), .int .i64 ((rd_T43 ((rd_T53 l0 x33_2).f1) a1).f1)] (fun _ => True) (fun _ => False) rfl (by first | (go_simp; done) | (go_simp; rfl)) ?aP (fun _ hk => hk.elim) ?aF ?aO ?aB ?aS ?aL ?_; (case aP => exact k43_mkM _ _ _ (⟨(rd_T43 ((rd_T53 l0 x33_2).f1) a1).f0, (rd_T43 ((rd_T53 l0 x33_2).f1) a1).f1⟩ : S43)); (case aB => exact (by repeat (first | (with_reducible first | exact HB.out | apply below_alloc | apply pw_below_drewN | apply below_drew1 | refine below_set ?_ GE226.out) | exact HB.out))); (case aF => exact (fun _ _ => trivial)); (case aO => exact (by (with_reducible repeat (first | apply Kd.R_alloc | apply Kd.R_drewN | apply Kd.R_drew)); exact Kd.R_mono (Kd.R_far (p := ⟨gb226, 1, none⟩) (Kd.R_far (p := ⟨gb226, 0, none⟩) (Kd.R_types HO_8.out BK226.out (by decide)) (fun _ hk => hk.2) (.int .i64 ((rd_T53 l0 x33_2).f0))) (fun _ hk => hk.2) (.slice (some ad227) ((rd_T53 l0 x33_2).f1).length c225_1)) (fun _ hk => trivial))); (case aS => exact (below_size (by repeat (first | (with_reducible first | exact HB.out | apply below_alloc | apply pw_below_drewN | apply below_drew1 | refine below_set ?_ GE226.out) | exact HB.out)))); (case aL => have := LMc19.out; omega); intro v229 w22 ho hb hg hat; rw [← Ny228.out] at ho; have n0_ := Aside0.mk (blk_grown (g := gb226) (o := .cells #[.int .i64 ((rd_T53 l0 x33_2).f0), .slice (some ad227) ((rd_T53 l0 x33_2).f1).length c225_1] 53 (0, 0)) (by (with_reducible repeat (first | refine blk_drewN ?_ _ | refine blk_drew ?_ | refine blk_alloc ?_ _)); refine blk_put (cs := #[.int .i64 ((rd_T53 l0 x33_2).f0), .slice none 0 0]) ?_ 1 _ rfl; (with_reducible repeat (first | refine blk_drewN ?_ _ | refine blk_drew ?_ | refine blk_alloc ?_ _)); refine blk_put (cs := #[.int .i64 0, .slice none 0 0]) ?_ 0 _ rfl; (with_reducible repeat (first | refine blk_drewN ?_ _ | refine blk_drew ?_ | refine blk_alloc ?_ _)); exact BK226.out) hg (Kd.R_ne HO_8.out BK226.out (by decide))); have n1_ := Aside0.mk (hb); have n2_ := Aside0.mk (ho); clear BK226; clear HB; clear HO_8; have BK226 := n0_; have HB := n1_; have HO230 := n2_; clear n0_ n1_ n2_; clear ho hb hg hat))
            go_roundg k2
            case measure => have := HJ3.out; have := HK2.out; omega
            case rel => exact ⟨(y228), (wrap64 (x33_2 + 1)), (by first | rfl | (simp; done) | (simp [*]; done)), H', ⟨by have := HJ3.out; have := HK2.out; omega⟩, ⟨by (with_reducible repeat (first | apply Kd.R_alloc | apply Kd.R_drewN | apply Kd.R_drew)); exact HO230.out⟩, ⟨by repeat (first | (with_reducible first | exact HB.out | apply below_alloc | apply pw_below_drewN | apply below_drew1 | refine below_set ?_ GE226.out) | exact HB.out)⟩⟩
           ·rw [if_neg c19] at H
            exact absurd H (by simp)
          ·rw [if_neg c18] at H
           exact absurd H (by simp)
         ·rw [if_neg c17] at H
          exact absurd H (by simp)
        ·rw [if_neg c16] at H
         exact absurd H (by simp)
       ·rw [if_neg c15] at H
        exact absurd H (by simp)
      ·rw [if_neg c14] at H
       have c14b0 : decide (x33_2 < (l0.length : Int)) = false := decide_eq_false c14
       clear c14
       replace H := Option.bind_eq_some_iff.mp H
       obtain ⟨t231, A230, H⟩ := H
       replace H : (spec_ByGroup.l1 k2 l0 a1 a2 ([] : List (S53)) t231 (t231.length : Int) 0) = some (r1, r2) := H
       have A23 := Aside0.mk A230
       clear A230
       have H' := Aside0.mk H
       clear H
       obtain ⟨Ao24, co24, eo24⟩ := Kd.R_slice HO_8.out
       subst eo24
       go_wp2_with (first | ((with_reducible refine gate_callee (f := 20) rfl ?_); refine goesL_ (some 47) rfl rfl Try.func20 (by kernel_rfl) rfl #[.slice Ao24 x8_2.length co24] rfl (by (try simp only [List.map_toArray, List.map_cons, List.map_nil]); first | done | rfl | (simp only [List.length_drop, List.length_take]; rfl)) ?_; (with_reducible refine (spec_l4Distinct.calls k2 _ _ x8_2 t231 _ ?side1 ?side2 A23.out).mono ?_); (case side1 => repeat (first | exact (Kd.R_reads' HO_8.out).2.2 | (with_reducible refine Kd.C_alloc ?_ _) | (with_reducible refine Kd.C_drewN ?_ _) | (with_reducible refine Kd.C_drew ?_))); (case side2 => exact (Kd.R_reads' HO_8.out).2.1); rintro e w25 ⟨v232, rfl, ho0, hb⟩; refine ⟨_, rfl, ?_⟩; have n0_ := Aside0.mk (Kd.R_elder' (by (with_reducible repeat (first | apply Kd.R_alloc | apply Kd.R_drewN | apply Kd.R_drew)); exact HO_8.out) (Kd.R_base ho0) hb); have n1_ := Aside0.mk (Kd.R_lower (Kd.R_new' ho0 (Kd.R_lt (by (with_reducible repeat (first | apply Kd.R_alloc | apply Kd.R_drewN | apply Kd.R_drew)); exact HO_8.out))) (below_size (by repeat (first | (with_reducible first | exact HB.out | apply below_alloc | apply pw_below_drewN | apply below_drew1) | exact HB.out)))); have n2_ := Aside0.mk (below_step (by repeat (first | (with_reducible first | exact HB.out | apply below_alloc | apply pw_below_drewN | apply below_drew1) | exact HB.out)) hb); clear HO_8; clear HB; have HO_8 := n0_; have HO233 := n1_; have HB := n2_; clear n0_ n1_ n2_; (try clear hb); (try clear hb2); (try clear hk); (try clear hi); (try clear ho0); obtain ⟨Ao26, co26, eo26⟩ := Kd.R_slice HO233.out; subst eo26))
       go_loopg [11, 49] k2 (fun kq v11 v49 w' => ∃ (x11_3 : List (S53)) (x49_3 : Int), v49 = .int .i64 x49_3 ∧ Aside0 (spec_ByGroup.l1 kq l0 a1 a2 x11_3 t231 (t231.length : Int) x49_3 = some (r1, r2)) ∧ Aside0 (kq ≤ k2) ∧ Aside0 (Kd.S k53 53 w' w.heap.size (fun k_ => some k_ ≠ ((.slice Ao26 t231.length co26) : Value).ownBlock) v11 x11_3) ∧ Aside0 (Kd.R k43 43 w' w.heap.size (fun _ => True) (.slice Ao26 t231.length co26) t231) ∧ Aside0 (Below w.heap.size w w'))
       case atStart => exact ⟨(([] : List (S53))), (0), (by first | rfl | (simp; done) | (simp [*]; done)), H', ⟨Nat.le_refl _⟩, ⟨by first | exact Kd.S_nil _ _ _ _ _ | exact Kd.N_nil _ _ _ _ _ | exact Kd.V_nil _ _ _ _ _ | exact Kd.Q_nil _ _ _ _ _ | exact Kd.R_nil _ _ _ _ _⟩, ⟨by (with_reducible repeat (first | apply Kd.R_alloc | apply Kd.R_drewN | apply Kd.R_drew)); exact Kd.R_mono HO233.out (fun _ hk => trivial)⟩, ⟨by repeat (first | (with_reducible first | exact HB.out | apply below_alloc | apply pw_below_drewN | apply below_drew1) | exact HB.out)⟩⟩
       case round =>
        clear H'
        try clear c1
        try clear c2
        try clear p2
        try clear q2
        try clear hx2
        try clear c6
        try clear p6
        try clear c8
        try clear c13
        try clear c14
        try clear c14b0
        try clear c15
        try clear c15b0
        try clear c16
        try clear c16b0
        try clear c17
        try clear c17b0
        try clear c18
        try clear c18b0
        try clear c19
        try clear c20
        try clear c22
        try clear p22
        try clear q22
        try clear hx22
        try clear c26
        try clear hcz21_0
        try clear hcz21_1
        try clear hfz21_0
        try clear hfz21_1
        try clear hx225_0
        try clear hx225_1
        try clear hx227_0
        try clear hx227_1
        try clear p2
        try clear p225
        try clear p227
        try clear q225
        try clear q227
        obtain ⟨x11_3, x49_3, rfl, HA, HK3, HO_11, HO_47, HB⟩ := hrel
        cases gk with
        | zero => exact absurd HA.out (by simp [spec_ByGroup.l1])
        | succ k3 =>
         have H := HA.out
         clear HA
         simp only [spec_ByGroup.l1] at H
         by_cases c27 : x49_3 < (t231.length : Int)
         ·rw [if_pos c27] at H
          have c27b0 : decide (x49_3 < (t231.length : Int)) = true := decide_eq_true c27
          clear c27
          by_cases c28 : 0 ≤ x49_3
          ·rw [if_pos c28] at H
           have c28b0 : decide (0 ≤ x49_3) = true := decide_eq_true c28
           clear c28
           by_cases c29 : x49_3 < (t231.length : Int)
           ·rw [if_pos c29] at H
            have c29b0 : decide (x49_3 < (t231.length : Int)) = true := decide_eq_true c29
            clear c29
            replace H := Option.bind_eq_some_iff.mp H
            obtain ⟨⟨t236, t237, t238, t239, t240, t241, t242⟩, A300, H⟩ := H
            replace H : (spec_ByGroup.l2 k3 l0 a1 a2 x11_3 x49_3 t231 (t231.length : Int) x49_3 l0 (l0.length : Int) 0 ((rd_T43 t231 x49_3).f0) ((rd_T43 t231 x49_3).f1) t236 t237 t238 t239 t240 t241 t242) = some (r1, r2) := H
            have A30 := Aside0.mk A300
            clear A300
            have H' := Aside0.mk H
            clear H
            have p234 : 0 ≤ (x49_3 : Int) := of_decide_eq_true (by first | (with_reducible assumption) | assumption)
            have q234 : x49_3 < (t231.length : Int) := of_decide_eq_true (by first | (with_reducible assumption) | assumption)
            obtain ⟨ad234, e234, hx234_0, hx234_1⟩ := at_T43 (Kd.R_reads' HO_47.out).2.2 x49_3 p234 q234
            cases e234
            replace p234 := eq_true p234
            replace q234 := eq_true q234
            go_wp2_with (first | ((with_reducible refine gate_dst (N := 13) rfl ?_); refine box_event ?hg (N := 13) ?hd (cs := #[.bool false, .int .i64 0]) (t := 43) ?hr ?_; (case hd => rfl); (case hg => rfl); (case hr => first | (go_simp; done) | (go_simp; rfl)); intro gb235 hg w31 hbox hb; have n0_ := Aside0.mk (Kd.S_below (Kd.S_elderB (by (with_reducible repeat (first | apply Kd.S_alloc | apply Kd.S_drewN | apply Kd.S_drew)); exact HO_11.out) gb235 (Nat.le_of_eq hg.symm)) hb); have n1_ := Aside0.mk (Kd.R_below (Kd.R_elderB (by (with_reducible repeat (first | apply Kd.R_alloc | apply Kd.R_drewN | apply Kd.R_drew)); exact HO_47.out) gb235 (Nat.le_of_eq hg.symm)) hb); have n2_ := Aside0.mk (below_step (by repeat (first | (with_reducible first | exact HB.out | apply below_alloc | apply pw_below_drewN | apply below_drew1) | exact HB.out)) hb); have n3_ := Aside0.mk (hbox); have n4_ := Aside0.mk ((by rw [hg]; exact (below_size (by repeat (first | (with_reducible first | exact HB.out | apply below_alloc | apply pw_below_drewN | apply below_drew1) | exact HB.out))) : w.heap.size ≤ gb235)); have n5_ := Aside0.mk ((by rw [hg]; exact (below_size (by repeat (first | (with_reducible first | exact HB.out | apply below_alloc | apply pw_below_drewN | apply below_drew1) | exact HB.out))) : w.heap.size ≤ gb235)); clear HO_11; clear HO_47; clear HB; have HO_11 := n0_; have HO_47 := n1_; have HB := n2_; have BK235 := n3_; have GW235 := n4_; have GE235 := n5_; clear n0_ n1_ n2_ n3_ n4_ n5_; clear hb hbox hg; have hcz32_0 : w31.cell? ⟨gb235, 0, none⟩ = some (.bool false) := (blk_cell BK235.out 0).trans rfl; have hcz32_1 : w31.cell? ⟨gb235, 1, none⟩ = some (.int .i64 0) := (blk_cell BK235.out 1).trans rfl; have hfz32_0 := blk_frozen BK235.out 0; have hfz32_1 := blk_frozen BK235.out 1) | ((with_reducible refine gate_callee (f := 28) rfl ?_); refine goesL_ (some 54) rfl rfl Try.func28 (by kernel_rfl) rfl #[] rfl (by (try simp only [List.map_toArray, List.map_cons, List.map_nil]); first | done | rfl | (simp only [List.length_drop, List.length_take]; rfl)) ?_; (with_reducible refine (spec_l4None.calls  t236 t237 t238 t239 t240 t241 t242 _ A30.out).mono ?_); rintro e w33 ⟨rfl, hb⟩; refine ⟨_, rfl, ?_⟩; have n0_ := Aside0.mk (Kd.S_below (by (with_reducible repeat (first | apply Kd.S_alloc | apply Kd.S_drewN | apply Kd.S_drew)); exact (Kd.S_mono (Kd.S_far (p := ⟨gb235, 1, none⟩) (Kd.S_far (p := ⟨gb235, 0, none⟩) (Kd.S_mono HO_11.out (fun k_ hk => (⟨hk, hk.2⟩ : _ ∧ k_ ≠ gb235))) (fun _ hk => hk.2) (.bool ((rd_T43 t231 x49_3).f0))) (fun _ hk => hk.2) (.int .i64 ((rd_T43 t231 x49_3).f1))) (fun _ h_ => h_.1))) hb); have n1_ := Aside0.mk (Kd.R_below (by (with_reducible repeat (first | apply Kd.R_alloc | apply Kd.R_drewN | apply Kd.R_drew)); exact (Kd.R_mono (Kd.R_far (p := ⟨gb235, 1, none⟩) (Kd.R_far (p := ⟨gb235, 0, none⟩) (Kd.R_mono HO_47.out (fun k_ hk => (⟨hk, hk.2⟩ : _ ∧ k_ ≠ gb235))) (fun _ hk => hk.2) (.bool ((rd_T43 t231 x49_3).f0))) (fun _ hk => hk.2) (.int .i64 ((rd_T43 t231 x49_3).f1))) (fun _ h_ => h_.1))) hb); have n2_ := Aside0.mk (blk_below (g := gb235) (o := .cells #[.bool ((rd_T43 t231 x49_3).f0), .int .i64 ((rd_T43 t231 x49_3).f1)] 43 (0, 0)) (by (with_reducible repeat (first | refine blk_drewN ?_ _ | refine blk_drew ?_ | refine blk_alloc ?_ _)); refine blk_put (cs := #[.bool ((rd_T43 t231 x49_3).f0), .int .i64 0]) ?_ 1 _ rfl; (with_reducible repeat (first | refine blk_drewN ?_ _ | refine blk_drew ?_ | refine blk_alloc ?_ _)); refine blk_put (cs := #[.bool false, .int .i64 0]) ?_ 0 _ rfl; (with_reducible repeat (first | refine blk_drewN ?_ _ | refine blk_drew ?_ | refine blk_alloc ?_ _)); exact BK235.out) hb); have n3_ := Aside0.mk (below_step (by repeat (first | (with_reducible first | exact HB.out | apply below_alloc | apply pw_below_drewN | apply below_drew1 | refine below_set ?_ GE235.out) | exact HB.out)) hb); clear HO_11; clear HO_47; clear BK235; clear HB; have HO_11 := n0_; have HO_47 := n1_; have BK235 := n2_; have HB := n3_; clear n0_ n1_ n2_ n3_; (try clear hb); (try clear hb2); (try clear hk); (try clear hi)) | ((with_reducible refine gate_dst (N := 14) rfl ?_); refine box_event ?hg (N := 14) ?hd (cs := #[.int .i64 0, .int .i64 0, .int .i64 0, .bool false, .int .i64 0, .bool false, .int .i64 0]) (t := 55) ?hr ?_; (case hd => rfl); (case hg => rfl); (case hr => first | (go_simp; done) | (go_simp; rfl)); intro gb243 hg w34 hbox hb; have n0_ := Aside0.mk (Kd.S_below (by (with_reducible repeat (first | apply Kd.S_alloc | apply Kd.S_drewN | apply Kd.S_drew)); exact HO_11.out) hb); have n1_ := Aside0.mk (Kd.R_below (by (with_reducible repeat (first | apply Kd.R_alloc | apply Kd.R_drewN | apply Kd.R_drew)); exact HO_47.out) hb); have n2_ := Aside0.mk (blk_below (g := gb235) (o := .cells #[.bool ((rd_T43 t231 x49_3).f0), .int .i64 ((rd_T43 t231 x49_3).f1)] 43 (0, 0)) (by (with_reducible repeat (first | refine blk_drewN ?_ _ | refine blk_drew ?_ | refine blk_alloc ?_ _)); exact BK235.out) hb); have n3_ := Aside0.mk (below_step (by repeat (first | (with_reducible first | exact HB.out | apply below_alloc | apply pw_below_drewN | apply below_drew1 | refine below_set ?_ GE235.out) | exact HB.out)) hb); have n4_ := Aside0.mk (hbox); have n5_ := Aside0.mk ((by rw [hg]; exact (below_size (by repeat (first | (with_reducible first | exact HB.out | apply below_alloc | apply pw_below_drewN | apply below_drew1 | refine below_set ?_ GE235.out) | exact HB.out))) : w.heap.size ≤ gb243)); have n6_ := Aside0.mk ((by rw [hg]; exact (below_size (by repeat (first | (with_reducible first | exact HB.out | apply below_alloc | apply pw_below_drewN | apply below_drew1 | refine below_set ?_ GE235.out) | exact HB.out))) : w.heap.size ≤ gb243)); have n7_ := Aside0.mk ((by rw [hg]; exact Nat.ne_of_lt (blk_lt (g := gb235) (o := .cells #[.bool ((rd_T43 t231 x49_3).f0), .int .i64 ((rd_T43 t231 x49_3).f1)] 43 (0, 0)) (by (with_reducible repeat (first | refine blk_drewN ?_ _ | refine blk_drew ?_ | refine blk_alloc ?_ _)); exact BK235.out)) : gb235 ≠ gb243)); have n8_ := Aside0.mk ((by rw [hg]; exact Nat.ne_of_gt (blk_lt (g := gb235) (o := .cells #[.bool ((rd_T43 t231 x49_3).f0), .int .i64 ((rd_T43 t231 x49_3).f1)] 43 (0, 0)) (by (with_reducible repeat (first | refine blk_drewN ?_ _ | refine blk_drew ?_ | refine blk_alloc ?_ _)); exact BK235.out)) : gb243 ≠ gb235)); clear HO_11; clear HO_47; clear BK235; clear HB; have HO_11 := n0_; have HO_47 := n1_; have BK235 := n2_; have HB := n3_; have BK243 := n4_; have GW243 := n5_; have GE243 := n6_; have NB235_243 := n7_; have NB243_235 := n8_; clear n0_ n1_ n2_ n3_ n4_ n5_ n6_ n7_ n8_; clear hb hbox hg; have hnb35 := NB243_235.out; have hnc35 := NB235_243.out; have hcz36_0 : w34.cell? ⟨gb243, 0, none⟩ = some (.int .i64 0) := (blk_cell BK243.out 0).trans rfl; have hcz36_1 : w34.cell? ⟨gb243, 1, none⟩ = some (.int .i64 0) := (blk_cell BK243.out 1).trans rfl; have hcz36_2 : w34.cell? ⟨gb243, 2, none⟩ = some (.int .i64 0) := (blk_cell BK243.out 2).trans rfl; have hcz36_3 : w34.cell? ⟨gb243, 3, none⟩ = some (.bool false) := (blk_cell BK243.out 3).trans rfl; have hcz36_4 : w34.cell? ⟨gb243, 4, none⟩ = some (.int .i64 0) := (blk_cell BK243.out 4).trans rfl; have hcz36_5 : w34.cell? ⟨gb243, 5, none⟩ = some (.bool false) := (blk_cell BK243.out 5).trans rfl; have hcz36_6 : w34.cell? ⟨gb243, 6, none⟩ = some (.int .i64 0) := (blk_cell BK243.out 6).trans rfl; have hfz36_0 := blk_frozen BK243.out 0; have hfz36_1 := blk_frozen BK243.out 1; have hfz36_2 := blk_frozen BK243.out 2; have hfz36_3 := blk_frozen BK243.out 3; have hfz36_4 := blk_frozen BK243.out 4; have hfz36_5 := blk_frozen BK243.out 5; have hfz36_6 := blk_frozen BK243.out 6))
            go_loopg [57] k3 (fun kq v57 w' => ∃ (x57_4 : Int) (x244000_4 : Int) (x244001_4 : Int) (x244002_4 : Int) (x244003_4 : Bool) (x244004_4 : Int) (x244005_4 : Bool) (x244006_4 : Int), v57 = .int .i64 x57_4 ∧ Aside0 (spec_ByGroup.l2 kq l0 a1 a2 x11_3 x49_3 t231 (t231.length : Int) x49_3 l0 (l0.length : Int) x57_4 ((rd_T43 t231 x49_3).f0) ((rd_T43 t231 x49_3).f1) x244000_4 x244001_4 x244002_4 x244003_4 x244004_4 x244005_4 x244006_4 = some (r1, r2)) ∧ Aside0 (kq ≤ k3) ∧ Aside0 (Kd.S k53 53 w' w.heap.size (fun k_ => some k_ ≠ ((.slice (some ad234) t231.length co26) : Value).ownBlock ∧ k_ ≠ gb235) u11 x11_3) ∧ Aside0 (Kd.R k43 43 w' w.heap.size (fun k_ => k_ ≠ gb235) (.slice (some ad234) t231.length co26) t231) ∧ Aside0 (w'.heap[gb235]? = some (.cells #[.bool ((rd_T43 t231 x49_3).f0), .int .i64 ((rd_T43 t231 x49_3).f1)] 43 (0, 0))) ∧ Aside0 (w'.heap[gb243]? = some (.cells #[.int .i64 x244000_4, .int .i64 x244001_4, .int .i64 x244002_4, .bool x244003_4, .int .i64 x244004_4, .bool x244005_4, .int .i64 x244006_4] 55 (0, 0))) ∧ Aside0 (Below w.heap.size w w'))
            case atStart => exact ⟨(0), (t236), (t237), (t238), (t239), (t240), (t241), (t242), (by first | rfl | (simp; done) | (simp [*]; done)), H', ⟨Nat.le_refl _⟩, ⟨by (with_reducible repeat (first | apply Kd.S_alloc | apply Kd.S_drewN | apply Kd.S_drew)); exact Kd.S_mono (Kd.S_far (p := ⟨gb243, 6, none⟩) (Kd.S_far (p := ⟨gb243, 5, none⟩) (Kd.S_far (p := ⟨gb243, 4, none⟩) (Kd.S_far (p := ⟨gb243, 3, none⟩) (Kd.S_far (p := ⟨gb243, 2, none⟩) (Kd.S_far (p := ⟨gb243, 1, none⟩) (Kd.S_far (p := ⟨gb243, 0, none⟩) (Kd.S_types HO_11.out BK243.out (by decide)) (fun _ hk => hk.2) (.int .i64 t236)) (fun _ hk => hk.2) (.int .i64 t237)) (fun _ hk => hk.2) (.int .i64 t238)) (fun _ hk => hk.2) (.bool t239)) (fun _ hk => hk.2) (.int .i64 t240)) (fun _ hk => hk.2) (.bool t241)) (fun _ hk => hk.2) (.int .i64 t242)) (fun _ hk => ⟨hk.1.1, hk.1.2⟩)⟩, ⟨by (with_reducible repeat (first | apply Kd.R_alloc | apply Kd.R_drewN | apply Kd.R_drew)); exact Kd.R_mono (Kd.R_far (p := ⟨gb243, 6, none⟩) (Kd.R_far (p := ⟨gb243, 5, none⟩) (Kd.R_far (p := ⟨gb243, 4, none⟩) (Kd.R_far (p := ⟨gb243, 3, none⟩) (Kd.R_far (p := ⟨gb243, 2, none⟩) (Kd.R_far (p := ⟨gb243, 1, none⟩) (Kd.R_far (p := ⟨gb243, 0, none⟩) (Kd.R_types HO_47.out BK243.out (by decide)) (fun _ hk => hk.2) (.int .i64 t236)) (fun _ hk => hk.2) (.int .i64 t237)) (fun _ hk => hk.2) (.int .i64 t238)) (fun _ hk => hk.2) (.bool t239)) (fun _ hk => hk.2) (.int .i64 t240)) (fun _ hk => hk.2) (.bool t241)) (fun _ hk => hk.2) (.int .i64 t242)) (fun _ hk => hk.1.2)⟩, ⟨by (with_reducible repeat (first | refine blk_drewN ?_ _ | refine blk_drew ?_ | refine blk_alloc ?_ _)); refine blk_far ?_ NB235_243.out _; (with_reducible repeat (first | refine blk_drewN ?_ _ | refine blk_drew ?_ | refine blk_alloc ?_ _)); refine blk_far ?_ NB235_243.out _; (with_reducible repeat (first | refine blk_drewN ?_ _ | refine blk_drew ?_ | refine blk_alloc ?_ _)); refine blk_far ?_ NB235_243.out _; (with_reducible repeat (first | refine blk_drewN ?_ _ | refine blk_drew ?_ | refine blk_alloc ?_ _)); refine blk_far ?_ NB235_243.out _; (with_reducible repeat (first | refine blk_drewN ?_ _ | refine blk_drew ?_ | refine blk_alloc ?_ _)); refine blk_far ?_ NB235_243.out _; (with_reducible repeat (first | refine blk_drewN ?_ _ | refine blk_drew ?_ | refine blk_alloc ?_ _)); refine blk_far ?_ NB235_243.out _; (with_reducible repeat (first | refine blk_drewN ?_ _ | refine blk_drew ?_ | refine blk_alloc ?_ _)); refine blk_far ?_ NB235_243.out _; (with_reducible repeat (first | refine blk_drewN ?_ _ | refine blk_drew ?_ | refine blk_alloc ?_ _)); exact BK235.out⟩, ⟨by (with_reducible repeat (first | refine blk_drewN ?_ _ | refine blk_drew ?_ | refine blk_alloc ?_ _)); refine blk_put (cs := #[.int .i64 t236, .int .i64 t237, .int .i64 t238, .bool t239, .int .i64 t240, .bool t241, .int .i64 0]) ?_ 6 _ rfl; (with_reducible repeat (first | refine blk_drewN ?_ _ | refine blk_drew ?_ | refine blk_alloc ?_ _)); refine blk_put (cs := #[.int .i64 t236, .int .i64 t237, .int .i64 t238, .bool t239, .int .i64 t240, .bool false, .int .i64 0]) ?_ 5 _ rfl; (with_reducible repeat (first | refine blk_drewN ?_ _ | refine blk_drew ?_ | refine blk_alloc ?_ _)); refine blk_put (cs := #[.int .i64 t236, .int .i64 t237, .int .i64 t238, .bool t239, .int .i64 0, .bool false, .int .i64 0]) ?_ 4 _ rfl; (with_reducible repeat (first | refine blk_drewN ?_ _ | refine blk_drew ?_ | refine blk_alloc ?_ _)); refine blk_put (cs := #[.int .i64 t236, .int .i64 t237, .int .i64 t238, .bool false, .int .i64 0, .bool false, .int .i64 0]) ?_ 3 _ rfl; (with_reducible repeat (first | refine blk_drewN ?_ _ | refine blk_drew ?_ | refine blk_alloc ?_ _)); refine blk_put (cs := #[.int .i64 t236, .int .i64 t237, .int .i64 0, .bool false, .int .i64 0, .bool false, .int .i64 0]) ?_ 2 _ rfl; (with_reducible repeat (first | refine blk_drewN ?_ _ | refine blk_drew ?_ | refine blk_alloc ?_ _)); refine blk_put (cs := #[.int .i64 t236, .int .i64 0, .int .i64 0, .bool false, .int .i64 0, .bool false, .int .i64 0]) ?_ 1 _ rfl; (with_reducible repeat (first | refine blk_drewN ?_ _ | refine blk_drew ?_ | refine blk_alloc ?_ _)); refine blk_put (cs := #[.int .i64 0, .int .i64 0, .int .i64 0, .bool false, .int .i64 0, .bool false, .int .i64 0]) ?_ 0 _ rfl; (with_reducible repeat (first | refine blk_drewN ?_ _ | refine blk_drew ?_ | refine blk_alloc ?_ _)); exact BK243.out⟩, ⟨by repeat (first | (with_reducible first | exact HB.out | apply below_alloc | apply pw_below_drewN | apply below_drew1 | refine below_set ?_ GE235.out | refine below_set ?_ GE243.out) | exact HB.out)⟩⟩
            case round =>
             clear H'
             try clear c1
             try clear c2
             try clear p2
             try clear q2
             try clear hx2
             try clear c3
             try clear c6
             try clear p6
             try clear c8
             try clear c13
             try clear c14
             try clear c14b0
             try clear c15
             try clear c15b0
             try clear c16
             try clear c16b0
             try clear c17
             try clear c17b0
             try clear c18
             try clear c18b0
             try clear c19
             try clear c20
             try clear c22
             try clear p22
             try clear q22
             try clear hx22
             try clear p23
             try clear q23
             try clear hx23
             try clear c26
             try clear c27
             try clear c27b0
             try clear c28
             try clear c28b0
             try clear c29
             try clear c29b0
             try clear c35
             try clear hcz21_0
             try clear hcz21_1
             try clear hcz32_0
             try clear hcz32_1
             try clear hcz36_0
             try clear hcz36_1
             try clear hcz36_2
             try clear hcz36_3
             try clear hcz36_4
             try clear hcz36_5
             try clear hcz36_6
             try clear hfz21_0
             try clear hfz21_1
             try clear hfz32_0
             try clear hfz32_1
             try clear hfz36_0
             try clear hfz36_1
             try clear hfz36_2
             try clear hfz36_3
             try clear hfz36_4
             try clear hfz36_5
             try clear hfz36_6
             try clear hx225_0
             try clear hx225_1
             try clear hx227_0
             try clear hx227_1
             try clear hx234_0
             try clear hx234_1
             try clear p2
             try clear p22
             try clear p225
             try clear p227
             try clear p234
             try clear p6
             try clear q2
             try clear q22
             try clear q225
             try clear q227
             try clear q234
             obtain ⟨x57_4, x244000_4, x244001_4, x244002_4, x244003_4, x244004_4, x244005_4, x244006_4, rfl, HA, HK4, HO_11, HO_47, BK235, BK243, HB⟩ := hrel
             cases gk with
             | zero => exact absurd HA.out (by simp [spec_ByGroup.l2])
             | succ k4 =>
              have H := HA.out
              clear HA
              simp only [spec_ByGroup.l2] at H
              by_cases c37 : x57_4 < (l0.length : Int)
              ·rw [if_pos c37] at H
               have c37b0 : decide (x57_4 < (l0.length : Int)) = true := decide_eq_true c37
               clear c37
               by_cases c38 : 0 ≤ x57_4
               ·rw [if_pos c38] at H
                have c38b0 : decide (0 ≤ x57_4) = true := decide_eq_true c38
                clear c38
                by_cases c39 : x57_4 < (l0.length : Int)
                ·rw [if_pos c39] at H
                 have c39b0 : decide (x57_4 < (l0.length : Int)) = true := decide_eq_true c39
                 clear c39
                 by_cases c40 : 0 ≤ a1
                 ·rw [if_pos c40] at H
                  have c40b0 : decide (0 ≤ a1) = true := decide_eq_true c40
                  clear c40
                  by_cases c41 : a1 < (((rd_T53 l0 x57_4).f1).length : Int)
                  ·rw [if_pos c41] at H
                   have c41b0 : decide (a1 < (((rd_T53 l0 x57_4).f1).length : Int)) = true := decide_eq_true c41
                   clear c41
                   by_cases c42 : (((rd_T43 ((rd_T53 l0 x57_4).f1) a1).f0) == ((rd_T43 t231 x49_3).f0) && (((rd_T43 ((rd_T53 l0 x57_4).f1) a1).f1) == ((rd_T43 t231 x49_3).f1))) = true
                   ·rw [if_pos c42] at H
                    have c42b0 : (((rd_T43 ((rd_T53 l0 x57_4).f1) a1).f0) == ((rd_T43 t231 x49_3).f0) && (((rd_T43 ((rd_T53 l0 x57_4).f1) a1).f1) == ((rd_T43 t231 x49_3).f1))) = true := c42
                    (try (have c42b1 : decide (((rd_T43 ((rd_T53 l0 x57_4).f1) a1).f0) = ((rd_T43 t231 x49_3).f0) && (((rd_T43 ((rd_T53 l0 x57_4).f1) a1).f1) == ((rd_T43 t231 x49_3).f1))) = true := by simpa using c42))
                    (try (have c42b2 : (((rd_T43 ((rd_T53 l0 x57_4).f1) a1).f0) == ((rd_T43 t231 x49_3).f0) && (((rd_T43 ((rd_T53 l0 x57_4).f1) a1).f1) == ((rd_T43 t231 x49_3).f1))) = true := by simpa using c42))
                    clear c42
                    by_cases c43 : 0 ≤ a2
                    ·rw [if_pos c43] at H
                     have c43b0 : decide (0 ≤ a2) = true := decide_eq_true c43
                     clear c43
                     by_cases c44 : a2 < (((rd_T53 l0 x57_4).f1).length : Int)
                     ·rw [if_pos c44] at H
                      have c44b0 : decide (a2 < (((rd_T53 l0 x57_4).f1).length : Int)) = true := decide_eq_true c44
                      clear c44
                      replace H := Option.bind_eq_some_iff.mp H
                      obtain ⟨⟨t248, t249, t250, t251, t252, t253, t254⟩, A450, H⟩ := H
                      replace H : (spec_ByGroup.l2 k4 l0 a1 a2 x11_3 x49_3 t231 (t231.length : Int) x49_3 l0 (l0.length : Int) (wrap64 (x57_4 + 1)) ((rd_T43 t231 x49_3).f0) ((rd_T43 t231 x49_3).f1) t248 t249 t250 t251 t252 t253 t254) = some (r1, r2) := H
                      have A45 := Aside0.mk A450
                      clear A450
                      have H' := Aside0.mk H
                      clear H
                      have p244 : 0 ≤ (x57_4 : Int) := of_decide_eq_true (by first | (with_reducible assumption) | assumption)
                      have q244 : x57_4 < (l0.length : Int) := of_decide_eq_true (by first | (with_reducible assumption) | assumption)
                      obtain ⟨ad244, A244_1, c244_1, e244, hx244_0, hx244_1, hl244_1, hi244_1⟩ := at_T53 HR0.out x57_4 p244 q244
                      cases e244
                      replace hx244_0 := (HB.out.cell (World.block_lt_of_cell? w _ hx244_0)).trans hx244_0
                      replace hx244_1 := (HB.out.cell (World.block_lt_of_cell? w _ hx244_1)).trans hx244_1
                      have HR244_1 := Aside0.mk hi244_1
                      have HC244_1 := Aside0.mk hl244_1
                      clear hi244_1 hl244_1
                      replace p244 := eq_true p244
                      replace q244 := eq_true q244
                      try go_wp2_with (first | ((with_reducible refine gate_dst (N := 16) rfl ?_); refine box_event ?hg (N := 16) ?hd (cs := #[.int .i64 0, .slice none 0 0]) (t := 53) ?hr ?_; (case hd => rfl); (case hg => rfl); (case hr => first | (go_simp; done) | (go_simp; rfl)); intro gb245 hg w46 hbox hb; have n0_ := Aside0.mk (Kd.S_below (Kd.S_elderB (by (with_reducible repeat (first | apply Kd.S_alloc | apply Kd.S_drewN | apply Kd.S_drew)); exact HO_11.out) gb245 (Nat.le_of_eq hg.symm)) hb); have n1_ := Aside0.mk (Kd.R_below (by (with_reducible repeat (first | apply Kd.R_alloc | apply Kd.R_drewN | apply Kd.R_drew)); exact HO_47.out) hb); have n2_ := Aside0.mk (blk_below (g := gb235) (o := .cells #[.bool ((rd_T43 t231 x49_3).f0), .int .i64 ((rd_T43 t231 x49_3).f1)] 43 (0, 0)) (by (with_reducible repeat (first | refine blk_drewN ?_ _ | refine blk_drew ?_ | refine blk_alloc ?_ _)); exact BK235.out) hb); have n3_ := Aside0.mk (blk_below (g := gb243) (o := .cells #[.int .i64 x244000_4, .int .i64 x244001_4, .int .i64 x244002_4, .bool x244003_4, .int .i64 x244004_4, .bool x244005_4, .int .i64 x244006_4] 55 (0, 0)) (by (with_reducible repeat (first | refine blk_drewN ?_ _ | refine blk_drew ?_ | refine blk_alloc ?_ _)); exact BK243.out) hb); have n4_ := Aside0.mk (below_step (by repeat (first | (with_reducible first | exact HB.out | apply below_alloc | apply pw_below_drewN | apply below_drew1 | refine below_set ?_ GE235.out | refine below_set ?_ GE243.out) | exact HB.out)) hb); have n5_ := Aside0.mk (hbox); have n6_ := Aside0.mk ((by rw [hg]; exact (below_size (by repeat (first | (with_reducible first | exact HB.out | apply below_alloc | apply pw_below_drewN | apply below_drew1 | refine below_set ?_ GE235.out | refine below_set ?_ GE243.out) | exact HB.out))) : w.heap.size ≤ gb245)); have n7_ := Aside0.mk ((by rw [hg]; exact (below_size (by repeat (first | (with_reducible first | exact HB.out | apply below_alloc | apply pw_below_drewN | apply below_drew1 | refine below_set ?_ GE235.out | refine below_set ?_ GE243.out) | exact HB.out))) : w.heap.size ≤ gb245)); have n8_ := Aside0.mk ((by rw [hg]; exact Nat.ne_of_lt (blk_lt (g := gb235) (o := .cells #[.bool ((rd_T43 t231 x49_3).f0), .int .i64 ((rd_T43 t231 x49_3).f1)] 43 (0, 0)) (by (with_reducible repeat (first | refine blk_drewN ?_ _ | refine blk_drew ?_ | refine blk_alloc ?_ _)); exact BK235.out)) : gb235 ≠ gb245)); have n9_ := Aside0.mk ((by rw [hg]; exact Nat.ne_of_gt (blk_lt (g := gb235) (o := .cells #[.bool ((rd_T43 t231 x49_3).f0), .int .i64 ((rd_T43 t231 x49_3).f1)] 43 (0, 0)) (by (with_reducible repeat (first | refine blk_drewN ?_ _ | refine blk_drew ?_ | refine blk_alloc ?_ _)); exact BK235.out)) : gb245 ≠ gb235)); have n10_ := Aside0.mk ((by rw [hg]; exact Nat.ne_of_lt (blk_lt (g := gb243) (o := .cells #[.int .i64 x244000_4, .int .i64 x244001_4, .int .i64 x244002_4, .bool x244003_4, .int .i64 x244004_4, .bool x244005_4, .int .i64 x244006_4] 55 (0, 0)) (by (with_reducible repeat (first | refine blk_drewN ?_ _ | refine blk_drew ?_ | refine blk_alloc ?_ _)); exact BK243.out)) : gb243 ≠ gb245)); have n11_ := Aside0.mk ((by rw [hg]; exact Nat.ne_of_gt (blk_lt (g := gb243) (o := .cells #[.int .i64 x244000_4, .int .i64 x244001_4, .int .i64 x244002_4, .bool x244003_4, .int .i64 x244004_4, .bool x244005_4, .int .i64 x244006_4] 55 (0, 0)) (by (with_reducible repeat (first | refine blk_drewN ?_ _ | refine blk_drew ?_ | refine blk_alloc ?_ _)); exact BK243.out)) : gb245 ≠ gb243)); clear HO_11; clear HO_47; clear BK235; clear BK243; clear HB; have HO_11 := n0_; have HO_47 := n1_; have BK235 := n2_; have BK243 := n3_; have HB := n4_; have BK245 := n5_; have GW245 := n6_; have GE245 := n7_; have NB235_245 := n8_; have NB245_235 := n9_; have NB243_245 := n10_; have NB245_243 := n11_; clear n0_ n1_ n2_ n3_ n4_ n5_ n6_ n7_ n8_ n9_ n10_ n11_; clear hb hbox hg; have hnb47 := NB245_235.out; have hnc47 := NB235_245.out; have hnb48 := NB245_243.out; have hnc48 := NB243_245.out; have hcz49_0 : w46.cell? ⟨gb245, 0, none⟩ = some (.int .i64 0) := (blk_cell BK245.out 0).trans rfl; have hcz49_1 : w46.cell? ⟨gb245, 1, none⟩ = some (.slice none 0 0) := (blk_cell BK245.out 1).trans rfl; have hfz49_0 := blk_frozen BK245.out 0; have hfz49_1 := blk_frozen BK245.out 1))
                      have n0_ : Aside0 (Kd.S k53 53 ((w46.setCell ⟨gb245, 0, none⟩ (.int .i64 ((rd_T53 l0 x57_4).f0))).setCell ⟨gb245, 1, none⟩ (.slice A244_1 ((rd_T53 l0 x57_4).f1).length c244_1)) w.heap.size (fun k_ => some k_ ≠ (.slice (some ad234) t231.length co26 : Value).ownBlock ∧ k_ ≠ gb235 ∧ k_ ≠ gb245) u11 x11_3) := ⟨by (with_reducible repeat (first | apply Kd.S_alloc | apply Kd.S_drewN | apply Kd.S_drew)); exact Kd.S_mono (Kd.S_far (p := ⟨gb245, 1, none⟩) (Kd.S_far (p := ⟨gb245, 0, none⟩) (Kd.S_mono HO_11.out (fun k_ hk => (⟨hk, hk.2⟩ : _ ∧ k_ ≠ gb245))) (fun _ hk => hk.2) (.int .i64 ((rd_T53 l0 x57_4).f0))) (fun _ hk => hk.2) (.slice A244_1 ((rd_T53 l0 x57_4).f1).length c244_1)) (fun _ hk => ⟨hk.1.1.1, ⟨hk.1.1.2, hk.1.2⟩⟩)⟩
                      have n1_ : Aside0 (Kd.R k43 43 ((w46.setCell ⟨gb245, 0, none⟩ (.int .i64 ((rd_T53 l0 x57_4).f0))).setCell ⟨gb245, 1, none⟩ (.slice A244_1 ((rd_T53 l0 x57_4).f1).length c244_1)) w.heap.size (fun k_ => k_ ≠ gb235) (.slice (some ad234) t231.length co26) t231) := ⟨by (with_reducible repeat (first | apply Kd.R_alloc | apply Kd.R_drewN | apply Kd.R_drew)); exact Kd.R_mono (Kd.R_far (p := ⟨gb245, 1, none⟩) (Kd.R_far (p := ⟨gb245, 0, none⟩) (Kd.R_types HO_47.out BK245.out (by decide)) (fun _ hk => hk.2) (.int .i64 ((rd_T53 l0 x57_4).f0))) (fun _ hk => hk.2) (.slice A244_1 ((rd_T53 l0 x57_4).f1).length c244_1)) (fun _ hk => hk.1)⟩
                      have n2_ : Aside0 (((w46.setCell ⟨gb245, 0, none⟩ (.int .i64 ((rd_T53 l0 x57_4).f0))).setCell ⟨gb245, 1, none⟩ (.slice A244_1 ((rd_T53 l0 x57_4).f1).length c244_1)).heap[gb235]? = some (.cells #[.bool ((rd_T43 t231 x49_3).f0), .int .i64 ((rd_T43 t231 x49_3).f1)] 43 (0, 0))) := ⟨by (with_reducible repeat (first | refine blk_drewN ?_ _ | refine blk_drew ?_ | refine blk_alloc ?_ _)); refine blk_far ?_ NB235_245.out _; (with_reducible repeat (first | refine blk_drewN ?_ _ | refine blk_drew ?_ | refine blk_alloc ?_ _)); refine blk_far ?_ NB235_245.out _; (with_reducible repeat (first | refine blk_drewN ?_ _ | refine blk_drew ?_ | refine blk_alloc ?_ _)); exact BK235.out⟩
                      have n3_ : Aside0 (((w46.setCell ⟨gb245, 0, none⟩ (.int .i64 ((rd_T53 l0 x57_4).f0))).setCell ⟨gb245, 1, none⟩ (.slice A244_1 ((rd_T53 l0 x57_4).f1).length c244_1)).heap[gb243]? = some (.cells #[.int .i64 x244000_4, .int .i64 x244001_4, .int .i64 x244002_4, .bool x244003_4, .int .i64 x244004_4, .bool x244005_4, .int .i64 x244006_4] 55 (0, 0))) := ⟨by (with_reducible repeat (first | refine blk_drewN ?_ _ | refine blk_drew ?_ | refine blk_alloc ?_ _)); refine blk_far ?_ NB243_245.out _; (with_reducible repeat (first | refine blk_drewN ?_ _ | refine blk_drew ?_ | refine blk_alloc ?_ _)); refine blk_far ?_ NB243_245.out _; (with_reducible repeat (first | refine blk_drewN ?_ _ | refine blk_drew ?_ | refine blk_alloc ?_ _)); exact BK243.out⟩
                      have n4_ : Aside0 (((w46.setCell ⟨gb245, 0, none⟩ (.int .i64 ((rd_T53 l0 x57_4).f0))).setCell ⟨gb245, 1, none⟩ (.slice A244_1 ((rd_T53 l0 x57_4).f1).length c244_1)).heap[gb245]? = some (.cells #[.int .i64 ((rd_T53 l0 x57_4).f0), .slice A244_1 ((rd_T53 l0 x57_4).f1).length c244_1] 53 (0, 0))) := ⟨by (with_reducible repeat (first | refine blk_drewN ?_ _ | refine blk_drew ?_ | refine blk_alloc ?_ _)); refine blk_put (cs := #[.int .i64 ((rd_T53 l0 x57_4).f0), .slice none 0 0]) ?_ 1 _ rfl; (with_reducible repeat (first | refine blk_drewN ?_ _ | refine blk_drew ?_ | refine blk_alloc ?_ _)); refine blk_put (cs := #[.int .i64 0, .slice none 0 0]) ?_ 0 _ rfl; (with_reducible repeat (first | refine blk_drewN ?_ _ | refine blk_drew ?_ | refine blk_alloc ?_ _)); exact BK245.out⟩
                      have n5_ : Aside0 (Below w.heap.size w ((w46.setCell ⟨gb245, 0, none⟩ (.int .i64 ((rd_T53 l0 x57_4).f0))).setCell ⟨gb245, 1, none⟩ (.slice A244_1 ((rd_T53 l0 x57_4).f1).length c244_1))) := ⟨by repeat (first | (with_reducible first | exact HB.out | apply below_alloc | apply pw_below_drewN | apply below_drew1 | refine below_set ?_ GE235.out | refine below_set ?_ GE243.out | refine below_set ?_ GE245.out) | exact HB.out)⟩
                      (try clear HO_11)
                      (try clear HO_47)
                      (try clear BK235)
                      (try clear BK243)
                      (try clear BK245)
                      (try clear HB)
                      generalize ((w46.setCell ⟨gb245, 0, none⟩ (.int .i64 ((rd_T53 l0 x57_4).f0))).setCell ⟨gb245, 1, none⟩ (.slice A244_1 ((rd_T53 l0 x57_4).f1).length c244_1)) = w50 at n0_ n1_ n2_ n3_ n4_ n5_ ⊢
                      have HO_11 := n0_
                      have HO_47 := n1_
                      have BK235 := n2_
                      have BK243 := n3_
                      have BK245 := n4_
                      have HB := n5_
                      clear n0_ n1_ n2_ n3_ n4_ n5_
                      have n0_ := Aside0.mk (Kd.S_drew HO_11.out)
                      have n1_ := Aside0.mk (Kd.R_drew HO_47.out)
                      have n2_ := Aside0.mk (blk_drew BK235.out)
                      have n3_ := Aside0.mk (blk_drew BK243.out)
                      have n4_ := Aside0.mk (blk_drew BK245.out)
                      have n5_ := Aside0.mk (below_drew1 HB.out)
                      clear HO_11
                      clear HO_47
                      clear BK235
                      clear BK243
                      clear BK245
                      clear HB
                      have HO_11 := n0_
                      have HO_47 := n1_
                      have BK235 := n2_
                      have BK243 := n3_
                      have BK245 := n4_
                      have HB := n5_
                      clear n0_ n1_ n2_ n3_ n4_ n5_
                      have p246 : 0 ≤ (a1 : Int) := of_decide_eq_true (by first | (with_reducible assumption) | assumption)
                      have q246 : a1 < (((rd_T53 l0 x57_4).f1).length : Int) := of_decide_eq_true (by first | (with_reducible assumption) | assumption)
                      obtain ⟨ad246, e246, hx246_0, hx246_1⟩ := at_T43 HR244_1.out a1 p246 q246
                      have hw246_1 := hx246_1
                      have hw246_0 := hx246_0
                      cases e246
                      replace hx246_0 := (HB.out.cell (World.block_lt_of_cell? w _ hx246_0)).trans hx246_0
                      replace hx246_1 := (HB.out.cell (World.block_lt_of_cell? w _ hx246_1)).trans hx246_1
                      replace p246 := eq_true p246
                      replace q246 := eq_true q246
                      refine start_ (n := 7) (S := fun w' => w'.cell? ⟨gb245, 0, none⟩ = some (.int .i64 ((rd_T53 l0 x57_4).f0)) ∧ w'.cell? ⟨gb245, 1, none⟩ = some (.slice (some ad246) ((rd_T53 l0 x57_4).f1).length c244_1) ∧ w'.cell? ⟨gb235, 0, none⟩ = some (.bool ((rd_T43 t231 x49_3).f0)) ∧ w'.cell? ⟨gb235, 1, none⟩ = some (.int .i64 ((rd_T43 t231 x49_3).f1)) ∧ w'.cell? (ad246.add ((a1).toNat * 2)) = some (.bool ((rd_T43 ((rd_T53 l0 x57_4).f1) a1).f0)) ∧ w'.cell? ⟨(ad246.add ((a1).toNat * 2)).block, (ad246.add ((a1).toNat * 2)).off + 1, none⟩ = some (.int .i64 ((rd_T43 ((rd_T53 l0 x57_4).f1) a1).f1))) (ds := []) #[false, false, false, false, false, false, false] (by kernel_rfl) rfl rfl ⟨(blk_cell BK245.out 0).trans rfl, (blk_cell BK245.out 1).trans rfl, (blk_cell BK235.out 0).trans rfl, (blk_cell BK235.out 1).trans rfl, ((HB.out.cell (World.block_lt_of_cell? w _ hw246_0)).trans hw246_0), ((HB.out.cell (World.block_lt_of_cell? w _ hw246_1)).trans hw246_1)⟩ (fun hHeld => ?_)
                      generalize w50.drew = w51 at HO_11 HO_47 BK235 BK243 BK245 HB hx246_0 hx246_1 hHeld ⊢
                      refine pure_ (i := 0) (N := some 61) (v := ?_) (a' := ?_) #[true, false, false, false, false, false, false] rfl rfl (by kernel_rfl) (fun _ _ _ h => h) (Or.inl ⟨by rfl, ?_⟩) ?_ ?_
                      rotate_left
                      ·intro w'
                       go_simp
                       with_reducible rfl
                      rotate_left
                      ·simp only [Act.put, List.setIfInBounds_toArray, List.set_cons_zero, List.set_cons_succ, i64_w, i32_w]
                       rfl
                      refine pure_ (i := 2) (N := some 63) (v := ?_) (a' := ?_) #[true, false, true, false, false, false, false] rfl rfl (by kernel_rfl) (fun _ _ _ h => h) (Or.inl ⟨by rfl, ?_⟩) ?_ ?_
                      rotate_left
                      ·intro w'
                       go_simp
                       with_reducible rfl
                      rotate_left
                      ·simp only [Act.put, List.setIfInBounds_toArray, List.set_cons_zero, List.set_cons_succ, i64_w, i32_w]
                       rfl
                      refine take_ (i := 1) (N := some 62) (v := ?_) (a' := ?_) #[true, true, true, false, false, false, false] rfl rfl (by kernel_rfl) (fun _ _ _ h => h) (Or.inl ⟨by rfl, ?_⟩) hHeld ?_ ?_
                      rotate_left
                      ·rintro w' ⟨s0, s1, s2, s3, s4, s5⟩
                       go_simp
                       with_reducible rfl
                      rotate_left
                      ·simp only [Act.put, List.setIfInBounds_toArray, List.set_cons_zero, List.set_cons_succ, i64_w, i32_w]
                       rfl
                      refine pure_ (i := 3) (N := some 64) (v := ?_) (a' := ?_) #[true, true, true, true, false, false, false] rfl rfl (by kernel_rfl) (fun _ _ _ h => h) (Or.inl ⟨by rfl, ?_⟩) ?_ ?_
                      rotate_left
                      ·intro w'
                       go_simp
                       with_reducible rfl
                      rotate_left
                      ·simp only [Act.put, List.setIfInBounds_toArray, List.set_cons_zero, List.set_cons_succ, i64_w, i32_w]
                       rfl
                      refine take_ (i := 4) (N := some 65) (v := ?_) (a' := ?_) #[true, true, true, true, true, false, false] rfl rfl (by kernel_rfl) (fun _ _ _ h => h) (Or.inl ⟨by rfl, ?_⟩) hHeld ?_ ?_
                      rotate_left
                      ·rintro w' ⟨s0, s1, s2, s3, s4, s5⟩
                       go_simp
                       with_reducible rfl
                      rotate_left
                      ·simp only [Act.put, List.setIfInBounds_toArray, List.set_cons_zero, List.set_cons_succ, i64_w, i32_w]
                       rfl
                      refine take_ (i := 5) (N := some 66) (v := ?_) (a' := ?_) #[true, true, true, true, true, true, false] rfl rfl (by kernel_rfl) (fun _ _ _ h => h) (Or.inl ⟨by rfl, ?_⟩) hHeld ?_ ?_
                      rotate_left
                      ·rintro w' ⟨s0, s1, s2, s3, s4, s5⟩
                       go_simp
                       with_reducible rfl
                      rotate_left
                      ·simp only [Act.put, List.setIfInBounds_toArray, List.set_cons_zero, List.set_cons_succ, i64_w, i32_w]
                       rfl
                      refine pure_ (i := 6) (N := some 67) (v := ?_) (a' := ?_) #[true, true, true, true, true, true, true] rfl rfl (by kernel_rfl) (fun _ _ _ h => h) (Or.inl ⟨by rfl, ?_⟩) ?_ ?_
                      rotate_left
                      ·intro w'
                       go_simp
                       with_reducible rfl
                      rotate_left
                      ·simp only [Act.put, List.setIfInBounds_toArray, List.set_cons_zero, List.set_cons_succ, i64_w, i32_w]
                       rfl
                      refine done_ (by kernel_rfl) ?_
                      try go_wp2
                      have n0_ := Aside0.mk (Kd.S_drew HO_11.out)
                      have n1_ := Aside0.mk (Kd.R_drew HO_47.out)
                      have n2_ := Aside0.mk (blk_drew BK235.out)
                      have n3_ := Aside0.mk (blk_drew BK243.out)
                      have n4_ := Aside0.mk (blk_drew BK245.out)
                      have n5_ := Aside0.mk (below_drew1 HB.out)
                      clear HO_11
                      clear HO_47
                      clear BK235
                      clear BK243
                      clear BK245
                      clear HB
                      have HO_11 := n0_
                      have HO_47 := n1_
                      have BK235 := n2_
                      have BK243 := n3_
                      have BK245 := n4_
                      have HB := n5_
                      clear n0_ n1_ n2_ n3_ n4_ n5_
                      have p247 : 0 ≤ (a2 : Int) := of_decide_eq_true (by first | (with_reducible assumption) | assumption)
                      have q247 : a2 < (((rd_T53 l0 x57_4).f1).length : Int) := of_decide_eq_true (by first | (with_reducible assumption) | assumption)
                      obtain ⟨ad247, e247, hx247_0, hx247_1⟩ := at_T43 HR244_1.out a2 p247 q247
                      have hw247_1 := hx247_1
                      have hw247_0 := hx247_0
                      obtain rfl : ad246 = ad247 := (by injection e247)
                      replace hx247_0 := (HB.out.cell (World.block_lt_of_cell? w _ hx247_0)).trans hx247_0
                      replace hx247_1 := (HB.out.cell (World.block_lt_of_cell? w _ hx247_1)).trans hx247_1
                      replace p247 := eq_true p247
                      replace q247 := eq_true q247
                      refine start_ (n := 8) (S := fun w' => w'.cell? ⟨gb243, 0, none⟩ = some (.int .i64 x244000_4) ∧ w'.cell? ⟨gb243, 1, none⟩ = some (.int .i64 x244001_4) ∧ w'.cell? ⟨gb243, 2, none⟩ = some (.int .i64 x244002_4) ∧ w'.cell? ⟨gb243, 3, none⟩ = some (.bool x244003_4) ∧ w'.cell? ⟨gb243, 4, none⟩ = some (.int .i64 x244004_4) ∧ w'.cell? ⟨gb243, 5, none⟩ = some (.bool x244005_4) ∧ w'.cell? ⟨gb243, 6, none⟩ = some (.int .i64 x244006_4) ∧ w'.cell? ⟨gb245, 0, none⟩ = some (.int .i64 ((rd_T53 l0 x57_4).f0)) ∧ w'.cell? ⟨gb245, 1, none⟩ = some (.slice (some ad246) ((rd_T53 l0 x57_4).f1).length c244_1) ∧ w'.cell? (ad246.add ((a2).toNat * 2)) = some (.bool ((rd_T43 ((rd_T53 l0 x57_4).f1) a2).f0)) ∧ w'.cell? ⟨(ad246.add ((a2).toNat * 2)).block, (ad246.add ((a2).toNat * 2)).off + 1, none⟩ = some (.int .i64 ((rd_T43 ((rd_T53 l0 x57_4).f1) a2).f1))) (ds := [7]) #[false, false, false, false, false, false, false, false] (by kernel_rfl) rfl rfl ⟨(blk_cell BK243.out 0).trans rfl, (blk_cell BK243.out 1).trans rfl, (blk_cell BK243.out 2).trans rfl, (blk_cell BK243.out 3).trans rfl, (blk_cell BK243.out 4).trans rfl, (blk_cell BK243.out 5).trans rfl, (blk_cell BK243.out 6).trans rfl, (blk_cell BK245.out 0).trans rfl, (blk_cell BK245.out 1).trans rfl, ((HB.out.cell (World.block_lt_of_cell? w _ hw247_0)).trans hw247_0), ((HB.out.cell (World.block_lt_of_cell? w _ hw247_1)).trans hw247_1)⟩ (fun hHeld => ?_); refine with_tabW spec_ByGroup.tab18 spec_ByGroup.bits18 (fun HT_ HW_ => ?_)
                      generalize w51.drew = w52 at HO_11 HO_47 BK235 BK243 BK245 HB hx247_0 hx247_1 hHeld ⊢
                      refine pure_ (i := 1) (N := some 69) (v := ?_) (a' := ?_) #[false, true, false, false, false, false, false, false] rfl rfl (any_of HT_.out (by kernel_rfl)) (fun _ _ _ h => h) (Or.inl ⟨by rfl, ?_⟩) ?_ ?_
                      rotate_left
                      ·intro w'
                       go_simp
                       with_reducible rfl
                      rotate_left
                      ·simp only [Act.put, List.setIfInBounds_toArray, List.set_cons_zero, List.set_cons_succ, i64_w, i32_w]
                       rfl
                      refine pure_ (i := 3) (N := some 71) (v := ?_) (a' := ?_) #[false, true, false, true, false, false, false, false] rfl rfl (any_of HT_.out (by kernel_rfl)) (fun _ _ _ h => h) (Or.inl ⟨by rfl, ?_⟩) ?_ ?_
                      rotate_left
                      ·intro w'
                       go_simp
                       with_reducible rfl
                      rotate_left
                      ·simp only [Act.put, List.setIfInBounds_toArray, List.set_cons_zero, List.set_cons_succ, i64_w, i32_w]
                       rfl
                      refine take_ (i := 0) (N := some 68) (v := ?_) (a' := ?_) #[true, true, false, true, false, false, false, false] rfl rfl (take_ofW HT_.out HW_.out (by kernel_rfl)) (fun _ _ _ h => h) (Or.inl ⟨by rfl, ?_⟩) hHeld ?_ ?_
                      rotate_left
                      ·rintro w' ⟨s0, s1, s2, s3, s4, s5, s6, s7, s8, s9, s10⟩
                       go_simp
                       with_reducible rfl
                      rotate_left
                      ·simp only [Act.put, List.setIfInBounds_toArray, List.set_cons_zero, List.set_cons_succ, i64_w, i32_w]
                       rfl
                      refine take_ (i := 2) (N := some 70) (v := ?_) (a' := ?_) #[true, true, true, true, false, false, false, false] rfl rfl (take_ofW HT_.out HW_.out (by kernel_rfl)) (fun _ _ _ h => h) (Or.inl ⟨by rfl, ?_⟩) hHeld ?_ ?_
                      rotate_left
                      ·rintro w' ⟨s0, s1, s2, s3, s4, s5, s6, s7, s8, s9, s10⟩
                       go_simp
                       with_reducible rfl
                      rotate_left
                      ·simp only [Act.put, List.setIfInBounds_toArray, List.set_cons_zero, List.set_cons_succ, i64_w, i32_w]
                       rfl
                      refine pure_ (i := 4) (N := some 72) (v := ?_) (a' := ?_) #[true, true, true, true, true, false, false, false] rfl rfl (any_of HT_.out (by kernel_rfl)) (fun _ _ _ h => h) (Or.inl ⟨by rfl, ?_⟩) ?_ ?_
                      rotate_left
                      ·intro w'
                       go_simp
                       with_reducible rfl
                      rotate_left
                      ·simp only [Act.put, List.setIfInBounds_toArray, List.set_cons_zero, List.set_cons_succ, i64_w, i32_w]
                       rfl
                      refine take_ (i := 5) (N := some 73) (v := ?_) (a' := ?_) #[true, true, true, true, true, true, false, false] rfl rfl (take_ofW HT_.out HW_.out (by kernel_rfl)) (fun _ _ _ h => h) (Or.inl ⟨by rfl, ?_⟩) hHeld ?_ ?_
                      rotate_left
                      ·rintro w' ⟨s0, s1, s2, s3, s4, s5, s6, s7, s8, s9, s10⟩
                       go_simp
                       with_reducible rfl
                      rotate_left
                      ·simp only [Act.put, List.setIfInBounds_toArray, List.set_cons_zero, List.set_cons_succ, i64_w, i32_w]
                       rfl
                      refine one_ (i := 6) (N := some 74) #[true, true, true, true, true, true, true, false] rfl rfl (one_of HT_.out (by kernel_rfl)) (by decide) (fun K hK => ?_)
                      refine goes_ Try.func29 (by kernel_rfl) rfl #[.agg #[.int .i64 x244000_4, .int .i64 x244001_4, .int .i64 x244002_4, .bool x244003_4, .int .i64 x244004_4, .bool x244005_4, .int .i64 x244006_4], .agg #[.bool ((rd_T43 ((rd_T53 l0 x57_4).f1) a2).f0), .int .i64 ((rd_T43 ((rd_T53 l0 x57_4).f1) a2).f1)]] (by rfl) rfl rfl (by (try simp only [List.map_toArray, List.map_cons, List.map_nil]); first | done | rfl | (simp only [List.length_drop, List.length_take]; rfl)) ?_
                      with_reducible refine (spec_l4Add.calls k4 x244000_4 x244001_4 x244002_4 x244003_4 x244004_4 x244005_4 x244006_4 ((rd_T43 ((rd_T53 l0 x57_4).f1) a2).f0) ((rd_T43 ((rd_T53 l0 x57_4).f1) a2).f1) t248 t249 t250 t251 t252 t253 t254 _ A45.out).mono ?_
                      rintro e w53 ⟨rfl, hb⟩
                      refine ⟨_, rfl, ?_⟩
                      have n0_ := Aside0.mk (Kd.S_below (by (with_reducible repeat (first | apply Kd.S_alloc | apply Kd.S_drewN | apply Kd.S_drew)); exact HO_11.out) hb)
                      have n1_ := Aside0.mk (Kd.R_below (by (with_reducible repeat (first | apply Kd.R_alloc | apply Kd.R_drewN | apply Kd.R_drew)); exact HO_47.out) hb)
                      have n2_ := Aside0.mk (blk_below (g := gb235) (o := .cells #[.bool ((rd_T43 t231 x49_3).f0), .int .i64 ((rd_T43 t231 x49_3).f1)] 43 (0, 0)) (by (with_reducible repeat (first | refine blk_drewN ?_ _ | refine blk_drew ?_ | refine blk_alloc ?_ _)); exact BK235.out) hb)
                      have n3_ := Aside0.mk (blk_below (g := gb243) (o := .cells #[.int .i64 x244000_4, .int .i64 x244001_4, .int .i64 x244002_4, .bool x244003_4, .int .i64 x244004_4, .bool x244005_4, .int .i64 x244006_4] 55 (0, 0)) (by (with_reducible repeat (first | refine blk_drewN ?_ _ | refine blk_drew ?_ | refine blk_alloc ?_ _)); exact BK243.out) hb)
                      have n4_ := Aside0.mk (blk_below (g := gb245) (o := .cells #[.int .i64 ((rd_T53 l0 x57_4).f0), .slice (some ad246) ((rd_T53 l0 x57_4).f1).length c244_1] 53 (0, 0)) (by (with_reducible repeat (first | refine blk_drewN ?_ _ | refine blk_drew ?_ | refine blk_alloc ?_ _)); exact BK245.out) hb)
                      have n5_ := Aside0.mk (below_step (by repeat (first | (with_reducible first | exact HB.out | apply below_alloc | apply pw_below_drewN | apply below_drew1 | refine below_set ?_ GE235.out | refine below_set ?_ GE243.out | refine below_set ?_ GE245.out) | exact HB.out)) hb)
                      clear HO_11
                      clear HO_47
                      clear BK235
                      clear BK243
                      clear BK245
                      clear HB
                      have HO_11 := n0_
                      have HO_47 := n1_
                      have BK235 := n2_
                      have BK243 := n3_
                      have BK245 := n4_
                      have HB := n5_
                      clear n0_ n1_ n2_ n3_ n4_ n5_
                      (try clear hb)
                      (try clear hb2)
                      (try clear hk)
                      (try clear hi)
                      refine hK.out _ _ ⟨(blk_cell BK243.out 0).trans rfl, (blk_cell BK243.out 1).trans rfl, (blk_cell BK243.out 2).trans rfl, (blk_cell BK243.out 3).trans rfl, (blk_cell BK243.out 4).trans rfl, (blk_cell BK243.out 5).trans rfl, (blk_cell BK243.out 6).trans rfl, (blk_cell BK245.out 0).trans rfl, (blk_cell BK245.out 1).trans rfl, ((HB.out.cell (World.block_lt_of_cell? w _ hw247_0)).trans hw247_0), ((HB.out.cell (World.block_lt_of_cell? w _ hw247_1)).trans hw247_1)⟩ (fun hHeld => ?_)
                      clear hK K
                      refine norm_ (a' := ?_) ?_ ?_
                      rotate_left
                      ·show Act.put _ (some 74) _ = _
                       simp only [Act.put, List.setIfInBounds_toArray, List.set_cons_zero, List.set_cons_succ, i64_w, i32_w]
                       rfl
                      refine last_ (i := 7) (N := none) #[true, true, true, true, true, true, true, true] rfl rfl (one_of HT_.out (by kernel_rfl)) (by decide) (fun K hK => ?_)
                      have hs54 : w53.cell? ⟨gb243, 0, none⟩ = some (.int .i64 x244000_4) := (blk_cell BK243.out 0).trans rfl
                      have hfs54 := blk_frozen BK243.out 0
                      have hns54_0 := NB235_243.out
                      have hns54_2 := NB245_243.out
                      have hms54_0 := NB243_235.out
                      have hms54_2 := NB243_245.out
                      have hs55 : w53.cell? ⟨gb243, 1, none⟩ = some (.int .i64 x244001_4) := (blk_cell BK243.out 1).trans rfl
                      have hfs55 := blk_frozen BK243.out 1
                      have hns55_0 := NB235_243.out
                      have hns55_2 := NB245_243.out
                      have hms55_0 := NB243_235.out
                      have hms55_2 := NB243_245.out
                      have hs56 : w53.cell? ⟨gb243, 2, none⟩ = some (.int .i64 x244002_4) := (blk_cell BK243.out 2).trans rfl
                      have hfs56 := blk_frozen BK243.out 2
                      have hns56_0 := NB235_243.out
                      have hns56_2 := NB245_243.out
                      have hms56_0 := NB243_235.out
                      have hms56_2 := NB243_245.out
                      have hs57 : w53.cell? ⟨gb243, 3, none⟩ = some (.bool x244003_4) := (blk_cell BK243.out 3).trans rfl
                      have hfs57 := blk_frozen BK243.out 3
                      have hns57_0 := NB235_243.out
                      have hns57_2 := NB245_243.out
                      have hms57_0 := NB243_235.out
                      have hms57_2 := NB243_245.out
                      have hs58 : w53.cell? ⟨gb243, 4, none⟩ = some (.int .i64 x244004_4) := (blk_cell BK243.out 4).trans rfl
                      have hfs58 := blk_frozen BK243.out 4
                      have hns58_0 := NB235_243.out
                      have hns58_2 := NB245_243.out
                      have hms58_0 := NB243_235.out
                      have hms58_2 := NB243_245.out
                      have hs59 : w53.cell? ⟨gb243, 5, none⟩ = some (.bool x244005_4) := (blk_cell BK243.out 5).trans rfl
                      have hfs59 := blk_frozen BK243.out 5
                      have hns59_0 := NB235_243.out
                      have hns59_2 := NB245_243.out
                      have hms59_0 := NB243_235.out
                      have hms59_2 := NB243_245.out
                      have hs60 : w53.cell? ⟨gb243, 6, none⟩ = some (.int .i64 x244006_4) := (blk_cell BK243.out 6).trans rfl
                      have hfs60 := blk_frozen BK243.out 6
                      have hns60_0 := NB235_243.out
                      have hns60_2 := NB245_243.out
                      have hms60_0 := NB243_235.out
                      have hms60_2 := NB243_245.out
                      refine skip_ (w1 := ?_) (by rfl) rfl ?_ ?_
                      rotate_left
                      ·go_simp
                       rfl
                      refine hK.out _ _ ?_
                      clear hK K
                      refine done_ (done_of HT_.out (by kernel_rfl)) ?_
                      try go_wp2
                      go_roundg k4
                      case measure => have := HJ3.out; have := HK2.out; have := HK3.out; have := HK4.out; omega
                      case rel => exact ⟨(wrap64 (x57_4 + 1)), (t248), (t249), (t250), (t251), (t252), (t253), (t254), (by first | rfl | (simp; done) | (simp [*]; done)), H', ⟨by have := HJ3.out; have := HK2.out; have := HK3.out; have := HK4.out; omega⟩, ⟨by (with_reducible repeat (first | apply Kd.S_alloc | apply Kd.S_drewN | apply Kd.S_drew)); exact Kd.S_mono (Kd.S_far (p := ⟨gb243, 6, none⟩) (Kd.S_far (p := ⟨gb243, 5, none⟩) (Kd.S_far (p := ⟨gb243, 4, none⟩) (Kd.S_far (p := ⟨gb243, 3, none⟩) (Kd.S_far (p := ⟨gb243, 2, none⟩) (Kd.S_far (p := ⟨gb243, 1, none⟩) (Kd.S_far (p := ⟨gb243, 0, none⟩) (Kd.S_types HO_11.out BK243.out (by decide)) (fun _ hk => hk.2) (.int .i64 t248)) (fun _ hk => hk.2) (.int .i64 t249)) (fun _ hk => hk.2) (.int .i64 t250)) (fun _ hk => hk.2) (.bool t251)) (fun _ hk => hk.2) (.int .i64 t252)) (fun _ hk => hk.2) (.bool t253)) (fun _ hk => hk.2) (.int .i64 t254)) (fun _ hk => ⟨hk.1.1, hk.1.2.1⟩)⟩, ⟨by (with_reducible repeat (first | apply Kd.R_alloc | apply Kd.R_drewN | apply Kd.R_drew)); exact Kd.R_mono (Kd.R_far (p := ⟨gb243, 6, none⟩) (Kd.R_far (p := ⟨gb243, 5, none⟩) (Kd.R_far (p := ⟨gb243, 4, none⟩) (Kd.R_far (p := ⟨gb243, 3, none⟩) (Kd.R_far (p := ⟨gb243, 2, none⟩) (Kd.R_far (p := ⟨gb243, 1, none⟩) (Kd.R_far (p := ⟨gb243, 0, none⟩) (Kd.R_types HO_47.out BK243.out (by decide)) (fun _ hk => hk.2) (.int .i64 t248)) (fun _ hk => hk.2) (.int .i64 t249)) (fun _ hk => hk.2) (.int .i64 t250)) (fun _ hk => hk.2) (.bool t251)) (fun _ hk => hk.2) (.int .i64 t252)) (fun _ hk => hk.2) (.bool t253)) (fun _ hk => hk.2) (.int .i64 t254)) (fun _ hk => hk.1)⟩, ⟨by (with_reducible repeat (first | refine blk_drewN ?_ _ | refine blk_drew ?_ | refine blk_alloc ?_ _)); refine blk_far ?_ NB235_243.out _; (with_reducible repeat (first | refine blk_drewN ?_ _ | refine blk_drew ?_ | refine blk_alloc ?_ _)); refine blk_far ?_ NB235_243.out _; (with_reducible repeat (first | refine blk_drewN ?_ _ | refine blk_drew ?_ | refine blk_alloc ?_ _)); refine blk_far ?_ NB235_243.out _; (with_reducible repeat (first | refine blk_drewN ?_ _ | refine blk_drew ?_ | refine blk_alloc ?_ _)); refine blk_far ?_ NB235_243.out _; (with_reducible repeat (first | refine blk_drewN ?_ _ | refine blk_drew ?_ | refine blk_alloc ?_ _)); refine blk_far ?_ NB235_243.out _; (with_reducible repeat (first | refine blk_drewN ?_ _ | refine blk_drew ?_ | refine blk_alloc ?_ _)); refine blk_far ?_ NB235_243.out _; (with_reducible repeat (first | refine blk_drewN ?_ _ | refine blk_drew ?_ | refine blk_alloc ?_ _)); refine blk_far ?_ NB235_243.out _; (with_reducible repeat (first | refine blk_drewN ?_ _ | refine blk_drew ?_ | refine blk_alloc ?_ _)); exact BK235.out⟩, ⟨by (with_reducible repeat (first | refine blk_drewN ?_ _ | refine blk_drew ?_ | refine blk_alloc ?_ _)); refine blk_put (cs := #[.int .i64 t248, .int .i64 t249, .int .i64 t250, .bool t251, .int .i64 t252, .bool t253, .int .i64 x244006_4]) ?_ 6 _ rfl; (with_reducible repeat (first | refine blk_drewN ?_ _ | refine blk_drew ?_ | refine blk_alloc ?_ _)); refine blk_put (cs := #[.int .i64 t248, .int .i64 t249, .int .i64 t250, .bool t251, .int .i64 t252, .bool x244005_4, .int .i64 x244006_4]) ?_ 5 _ rfl; (with_reducible repeat (first | refine blk_drewN ?_ _ | refine blk_drew ?_ | refine blk_alloc ?_ _)); refine blk_put (cs := #[.int .i64 t248, .int .i64 t249, .int .i64 t250, .bool t251, .int .i64 x244004_4, .bool x244005_4, .int .i64 x244006_4]) ?_ 4 _ rfl; (with_reducible repeat (first | refine blk_drewN ?_ _ | refine blk_drew ?_ | refine blk_alloc ?_ _)); refine blk_put (cs := #[.int .i64 t248, .int .i64 t249, .int .i64 t250, .bool x244003_4, .int .i64 x244004_4, .bool x244005_4, .int .i64 x244006_4]) ?_ 3 _ rfl; (with_reducible repeat (first | refine blk_drewN ?_ _ | refine blk_drew ?_ | refine blk_alloc ?_ _)); refine blk_put (cs := #[.int .i64 t248, .int .i64 t249, .int .i64 x244002_4, .bool x244003_4, .int .i64 x244004_4, .bool x244005_4, .int .i64 x244006_4]) ?_ 2 _ rfl; (with_reducible repeat (first | refine blk_drewN ?_ _ | refine blk_drew ?_ | refine blk_alloc ?_ _)); refine blk_put (cs := #[.int .i64 t248, .int .i64 x244001_4, .int .i64 x244002_4, .bool x244003_4, .int .i64 x244004_4, .bool x244005_4, .int .i64 x244006_4]) ?_ 1 _ rfl; (with_reducible repeat (first | refine blk_drewN ?_ _ | refine blk_drew ?_ | refine blk_alloc ?_ _)); refine blk_put (cs := #[.int .i64 x244000_4, .int .i64 x244001_4, .int .i64 x244002_4, .bool x244003_4, .int .i64 x244004_4, .bool x244005_4, .int .i64 x244006_4]) ?_ 0 _ rfl; (with_reducible repeat (first | refine blk_drewN ?_ _ | refine blk_drew ?_ | refine blk_alloc ?_ _)); exact BK243.out⟩, ⟨by repeat (first | (with_reducible first | exact HB.out | apply below_alloc | apply pw_below_drewN | apply below_drew1 | refine below_set ?_ GE235.out | refine below_set ?_ GE243.out | refine below_set ?_ GE245.out) | exact HB.out)⟩⟩
                     ·rw [if_neg c44] at H
                      exact absurd H (by simp)
                    ·rw [if_neg c43] at H
                     exact absurd H (by simp)
                   ·rw [if_neg c42] at H
                    have c42b0 : (((rd_T43 ((rd_T53 l0 x57_4).f1) a1).f0) == ((rd_T43 t231 x49_3).f0) && (((rd_T43 ((rd_T53 l0 x57_4).f1) a1).f1) == ((rd_T43 t231 x49_3).f1))) = false := by simpa using c42
                    (try (have c42b1 : decide (((rd_T43 ((rd_T53 l0 x57_4).f1) a1).f0) = ((rd_T43 t231 x49_3).f0) && (((rd_T43 ((rd_T53 l0 x57_4).f1) a1).f1) == ((rd_T43 t231 x49_3).f1))) = false := by simpa using c42))
                    (try (have c42b2 : (((rd_T43 ((rd_T53 l0 x57_4).f1) a1).f0) == ((rd_T43 t231 x49_3).f0) && (((rd_T43 ((rd_T53 l0 x57_4).f1) a1).f1) == ((rd_T43 t231 x49_3).f1))) = false := by simpa using c42))
                    (try (have c42b3 : ¬ (((rd_T43 ((rd_T53 l0 x57_4).f1) a1).f0) = ((rd_T43 t231 x49_3).f0) && (((rd_T43 ((rd_T53 l0 x57_4).f1) a1).f1) == ((rd_T43 t231 x49_3).f1))) := by simpa using c42))
                    clear c42
                    have H' := Aside0.mk H
                    clear H
                    have p244 : 0 ≤ (x57_4 : Int) := of_decide_eq_true (by first | (with_reducible assumption) | assumption)
                    have q244 : x57_4 < (l0.length : Int) := of_decide_eq_true (by first | (with_reducible assumption) | assumption)
                    obtain ⟨ad244, A244_1, c244_1, e244, hx244_0, hx244_1, hl244_1, hi244_1⟩ := at_T53 HR0.out x57_4 p244 q244
                    cases e244
                    replace hx244_0 := (HB.out.cell (World.block_lt_of_cell? w _ hx244_0)).trans hx244_0
                    replace hx244_1 := (HB.out.cell (World.block_lt_of_cell? w _ hx244_1)).trans hx244_1
                    have HR244_1 := Aside0.mk hi244_1
                    have HC244_1 := Aside0.mk hl244_1
                    clear hi244_1 hl244_1
                    replace p244 := eq_true p244
                    replace q244 := eq_true q244
                    try go_wp2_with (first | ((with_reducible refine gate_dst (N := 16) rfl ?_); refine box_event ?hg (N := 16) ?hd (cs := #[.int .i64 0, .slice none 0 0]) (t := 53) ?hr ?_; (case hd => rfl); (case hg => rfl); (case hr => first | (go_simp; done) | (go_simp; rfl)); intro gb245 hg w61 hbox hb; have n0_ := Aside0.mk (Kd.S_below (Kd.S_elderB (by (with_reducible repeat (first | apply Kd.S_alloc | apply Kd.S_drewN | apply Kd.S_drew)); exact HO_11.out) gb245 (Nat.le_of_eq hg.symm)) hb); have n1_ := Aside0.mk (Kd.R_below (by (with_reducible repeat (first | apply Kd.R_alloc | apply Kd.R_drewN | apply Kd.R_drew)); exact HO_47.out) hb); have n2_ := Aside0.mk (blk_below (g := gb235) (o := .cells #[.bool ((rd_T43 t231 x49_3).f0), .int .i64 ((rd_T43 t231 x49_3).f1)] 43 (0, 0)) (by (with_reducible repeat (first | refine blk_drewN ?_ _ | refine blk_drew ?_ | refine blk_alloc ?_ _)); exact BK235.out) hb); have n3_ := Aside0.mk (blk_below (g := gb243) (o := .cells #[.int .i64 x244000_4, .int .i64 x244001_4, .int .i64 x244002_4, .bool x244003_4, .int .i64 x244004_4, .bool x244005_4, .int .i64 x244006_4] 55 (0, 0)) (by (with_reducible repeat (first | refine blk_drewN ?_ _ | refine blk_drew ?_ | refine blk_alloc ?_ _)); exact BK243.out) hb); have n4_ := Aside0.mk (below_step (by repeat (first | (with_reducible first | exact HB.out | apply below_alloc | apply pw_below_drewN | apply below_drew1 | refine below_set ?_ GE235.out | refine below_set ?_ GE243.out) | exact HB.out)) hb); have n5_ := Aside0.mk (hbox); have n6_ := Aside0.mk ((by rw [hg]; exact (below_size (by repeat (first | (with_reducible first | exact HB.out | apply below_alloc | apply pw_below_drewN | apply below_drew1 | refine below_set ?_ GE235.out | refine below_set ?_ GE243.out) | exact HB.out))) : w.heap.size ≤ gb245)); have n7_ := Aside0.mk ((by rw [hg]; exact (below_size (by repeat (first | (with_reducible first | exact HB.out | apply below_alloc | apply pw_below_drewN | apply below_drew1 | refine below_set ?_ GE235.out | refine below_set ?_ GE243.out) | exact HB.out))) : w.heap.size ≤ gb245)); have n8_ := Aside0.mk ((by rw [hg]; exact Nat.ne_of_lt (blk_lt (g := gb235) (o := .cells #[.bool ((rd_T43 t231 x49_3).f0), .int .i64 ((rd_T43 t231 x49_3).f1)] 43 (0, 0)) (by (with_reducible repeat (first | refine blk_drewN ?_ _ | refine blk_drew ?_ | refine blk_alloc ?_ _)); exact BK235.out)) : gb235 ≠ gb245)); have n9_ := Aside0.mk ((by rw [hg]; exact Nat.ne_of_gt (blk_lt (g := gb235) (o := .cells #[.bool ((rd_T43 t231 x49_3).f0), .int .i64 ((rd_T43 t231 x49_3).f1)] 43 (0, 0)) (by (with_reducible repeat (first | refine blk_drewN ?_ _ | refine blk_drew ?_ | refine blk_alloc ?_ _)); exact BK235.out)) : gb245 ≠ gb235)); have n10_ := Aside0.mk ((by rw [hg]; exact Nat.ne_of_lt (blk_lt (g := gb243) (o := .cells #[.int .i64 x244000_4, .int .i64 x244001_4, .int .i64 x244002_4, .bool x244003_4, .int .i64 x244004_4, .bool x244005_4, .int .i64 x244006_4] 55 (0, 0)) (by (with_reducible repeat (first | refine blk_drewN ?_ _ | refine blk_drew ?_ | refine blk_alloc ?_ _)); exact BK243.out)) : gb243 ≠ gb245)); have n11_ := Aside0.mk ((by rw [hg]; exact Nat.ne_of_gt (blk_lt (g := gb243) (o := .cells #[.int .i64 x244000_4, .int .i64 x244001_4, .int .i64 x244002_4, .bool x244003_4, .int .i64 x244004_4, .bool x244005_4, .int .i64 x244006_4] 55 (0, 0)) (by (with_reducible repeat (first | refine blk_drewN ?_ _ | refine blk_drew ?_ | refine blk_alloc ?_ _)); exact BK243.out)) : gb245 ≠ gb243)); clear HO_11; clear HO_47; clear BK235; clear BK243; clear HB; have HO_11 := n0_; have HO_47 := n1_; have BK235 := n2_; have BK243 := n3_; have HB := n4_; have BK245 := n5_; have GW245 := n6_; have GE245 := n7_; have NB235_245 := n8_; have NB245_235 := n9_; have NB243_245 := n10_; have NB245_243 := n11_; clear n0_ n1_ n2_ n3_ n4_ n5_ n6_ n7_ n8_ n9_ n10_ n11_; clear hb hbox hg; have hnb62 := NB245_235.out; have hnc62 := NB235_245.out; have hnb63 := NB245_243.out; have hnc63 := NB243_245.out; have hcz64_0 : w61.cell? ⟨gb245, 0, none⟩ = some (.int .i64 0) := (blk_cell BK245.out 0).trans rfl; have hcz64_1 : w61.cell? ⟨gb245, 1, none⟩ = some (.slice none 0 0) := (blk_cell BK245.out 1).trans rfl; have hfz64_0 := blk_frozen BK245.out 0; have hfz64_1 := blk_frozen BK245.out 1))
                    have n0_ : Aside0 (Kd.S k53 53 ((w61.setCell ⟨gb245, 0, none⟩ (.int .i64 ((rd_T53 l0 x57_4).f0))).setCell ⟨gb245, 1, none⟩ (.slice A244_1 ((rd_T53 l0 x57_4).f1).length c244_1)) w.heap.size (fun k_ => some k_ ≠ (.slice (some ad234) t231.length co26 : Value).ownBlock ∧ k_ ≠ gb235 ∧ k_ ≠ gb245) u11 x11_3) := ⟨by (with_reducible repeat (first | apply Kd.S_alloc | apply Kd.S_drewN | apply Kd.S_drew)); exact Kd.S_mono (Kd.S_far (p := ⟨gb245, 1, none⟩) (Kd.S_far (p := ⟨gb245, 0, none⟩) (Kd.S_mono HO_11.out (fun k_ hk => (⟨hk, hk.2⟩ : _ ∧ k_ ≠ gb245))) (fun _ hk => hk.2) (.int .i64 ((rd_T53 l0 x57_4).f0))) (fun _ hk => hk.2) (.slice A244_1 ((rd_T53 l0 x57_4).f1).length c244_1)) (fun _ hk => ⟨hk.1.1.1, ⟨hk.1.1.2, hk.1.2⟩⟩)⟩
                    have n1_ : Aside0 (Kd.R k43 43 ((w61.setCell ⟨gb245, 0, none⟩ (.int .i64 ((rd_T53 l0 x57_4).f0))).setCell ⟨gb245, 1, none⟩ (.slice A244_1 ((rd_T53 l0 x57_4).f1).length c244_1)) w.heap.size (fun k_ => k_ ≠ gb235) (.slice (some ad234) t231.length co26) t231) := ⟨by (with_reducible repeat (first | apply Kd.R_alloc | apply Kd.R_drewN | apply Kd.R_drew)); exact Kd.R_mono (Kd.R_far (p := ⟨gb245, 1, none⟩) (Kd.R_far (p := ⟨gb245, 0, none⟩) (Kd.R_types HO_47.out BK245.out (by decide)) (fun _ hk => hk.2) (.int .i64 ((rd_T53 l0 x57_4).f0))) (fun _ hk => hk.2) (.slice A244_1 ((rd_T53 l0 x57_4).f1).length c244_1)) (fun _ hk => hk.1)⟩
                    have n2_ : Aside0 (((w61.setCell ⟨gb245, 0, none⟩ (.int .i64 ((rd_T53 l0 x57_4).f0))).setCell ⟨gb245, 1, none⟩ (.slice A244_1 ((rd_T53 l0 x57_4).f1).length c244_1)).heap[gb235]? = some (.cells #[.bool ((rd_T43 t231 x49_3).f0), .int .i64 ((rd_T43 t231 x49_3).f1)] 43 (0, 0))) := ⟨by (with_reducible repeat (first | refine blk_drewN ?_ _ | refine blk_drew ?_ | refine blk_alloc ?_ _)); refine blk_far ?_ NB235_245.out _; (with_reducible repeat (first | refine blk_drewN ?_ _ | refine blk_drew ?_ | refine blk_alloc ?_ _)); refine blk_far ?_ NB235_245.out _; (with_reducible repeat (first | refine blk_drewN ?_ _ | refine blk_drew ?_ | refine blk_alloc ?_ _)); exact BK235.out⟩
                    have n3_ : Aside0 (((w61.setCell ⟨gb245, 0, none⟩ (.int .i64 ((rd_T53 l0 x57_4).f0))).setCell ⟨gb245, 1, none⟩ (.slice A244_1 ((rd_T53 l0 x57_4).f1).length c244_1)).heap[gb243]? = some (.cells #[.int .i64 x244000_4, .int .i64 x244001_4, .int .i64 x244002_4, .bool x244003_4, .int .i64 x244004_4, .bool x244005_4, .int .i64 x244006_4] 55 (0, 0))) := ⟨by (with_reducible repeat (first | refine blk_drewN ?_ _ | refine blk_drew ?_ | refine blk_alloc ?_ _)); refine blk_far ?_ NB243_245.out _; (with_reducible repeat (first | refine blk_drewN ?_ _ | refine blk_drew ?_ | refine blk_alloc ?_ _)); refine blk_far ?_ NB243_245.out _; (with_reducible repeat (first | refine blk_drewN ?_ _ | refine blk_drew ?_ | refine blk_alloc ?_ _)); exact BK243.out⟩
                    have n4_ : Aside0 (((w61.setCell ⟨gb245, 0, none⟩ (.int .i64 ((rd_T53 l0 x57_4).f0))).setCell ⟨gb245, 1, none⟩ (.slice A244_1 ((rd_T53 l0 x57_4).f1).length c244_1)).heap[gb245]? = some (.cells #[.int .i64 ((rd_T53 l0 x57_4).f0), .slice A244_1 ((rd_T53 l0 x57_4).f1).length c244_1] 53 (0, 0))) := ⟨by (with_reducible repeat (first | refine blk_drewN ?_ _ | refine blk_drew ?_ | refine blk_alloc ?_ _)); refine blk_put (cs := #[.int .i64 ((rd_T53 l0 x57_4).f0), .slice none 0 0]) ?_ 1 _ rfl; (with_reducible repeat (first | refine blk_drewN ?_ _ | refine blk_drew ?_ | refine blk_alloc ?_ _)); refine blk_put (cs := #[.int .i64 0, .slice none 0 0]) ?_ 0 _ rfl; (with_reducible repeat (first | refine blk_drewN ?_ _ | refine blk_drew ?_ | refine blk_alloc ?_ _)); exact BK245.out⟩
                    have n5_ : Aside0 (Below w.heap.size w ((w61.setCell ⟨gb245, 0, none⟩ (.int .i64 ((rd_T53 l0 x57_4).f0))).setCell ⟨gb245, 1, none⟩ (.slice A244_1 ((rd_T53 l0 x57_4).f1).length c244_1))) := ⟨by repeat (first | (with_reducible first | exact HB.out | apply below_alloc | apply pw_below_drewN | apply below_drew1 | refine below_set ?_ GE235.out | refine below_set ?_ GE243.out | refine below_set ?_ GE245.out) | exact HB.out)⟩
                    (try clear HO_11)
                    (try clear HO_47)
                    (try clear BK235)
                    (try clear BK243)
                    (try clear BK245)
                    (try clear HB)
                    generalize ((w61.setCell ⟨gb245, 0, none⟩ (.int .i64 ((rd_T53 l0 x57_4).f0))).setCell ⟨gb245, 1, none⟩ (.slice A244_1 ((rd_T53 l0 x57_4).f1).length c244_1)) = w65 at n0_ n1_ n2_ n3_ n4_ n5_ ⊢
                    have HO_11 := n0_
                    have HO_47 := n1_
                    have BK235 := n2_
                    have BK243 := n3_
                    have BK245 := n4_
                    have HB := n5_
                    clear n0_ n1_ n2_ n3_ n4_ n5_
                    have n0_ := Aside0.mk (Kd.S_drew HO_11.out)
                    have n1_ := Aside0.mk (Kd.R_drew HO_47.out)
                    have n2_ := Aside0.mk (blk_drew BK235.out)
                    have n3_ := Aside0.mk (blk_drew BK243.out)
                    have n4_ := Aside0.mk (blk_drew BK245.out)
                    have n5_ := Aside0.mk (below_drew1 HB.out)
                    clear HO_11
                    clear HO_47
                    clear BK235
                    clear BK243
                    clear BK245
                    clear HB
                    have HO_11 := n0_
                    have HO_47 := n1_
                    have BK235 := n2_
                    have BK243 := n3_
                    have BK245 := n4_
                    have HB := n5_
                    clear n0_ n1_ n2_ n3_ n4_ n5_
                    have p246 : 0 ≤ (a1 : Int) := of_decide_eq_true (by first | (with_reducible assumption) | assumption)
                    have q246 : a1 < (((rd_T53 l0 x57_4).f1).length : Int) := of_decide_eq_true (by first | (with_reducible assumption) | assumption)
                    obtain ⟨ad246, e246, hx246_0, hx246_1⟩ := at_T43 HR244_1.out a1 p246 q246
                    have hw246_1 := hx246_1
                    have hw246_0 := hx246_0
                    cases e246
                    replace hx246_0 := (HB.out.cell (World.block_lt_of_cell? w _ hx246_0)).trans hx246_0
                    replace hx246_1 := (HB.out.cell (World.block_lt_of_cell? w _ hx246_1)).trans hx246_1
                    replace p246 := eq_true p246
                    replace q246 := eq_true q246
                    refine start_ (n := 7) (S := fun w' => w'.cell? ⟨gb245, 0, none⟩ = some (.int .i64 ((rd_T53 l0 x57_4).f0)) ∧ w'.cell? ⟨gb245, 1, none⟩ = some (.slice (some ad246) ((rd_T53 l0 x57_4).f1).length c244_1) ∧ w'.cell? ⟨gb235, 0, none⟩ = some (.bool ((rd_T43 t231 x49_3).f0)) ∧ w'.cell? ⟨gb235, 1, none⟩ = some (.int .i64 ((rd_T43 t231 x49_3).f1)) ∧ w'.cell? (ad246.add ((a1).toNat * 2)) = some (.bool ((rd_T43 ((rd_T53 l0 x57_4).f1) a1).f0)) ∧ w'.cell? ⟨(ad246.add ((a1).toNat * 2)).block, (ad246.add ((a1).toNat * 2)).off + 1, none⟩ = some (.int .i64 ((rd_T43 ((rd_T53 l0 x57_4).f1) a1).f1))) (ds := []) #[false, false, false, false, false, false, false] (by kernel_rfl) rfl rfl ⟨(blk_cell BK245.out 0).trans rfl, (blk_cell BK245.out 1).trans rfl, (blk_cell BK235.out 0).trans rfl, (blk_cell BK235.out 1).trans rfl, ((HB.out.cell (World.block_lt_of_cell? w _ hw246_0)).trans hw246_0), ((HB.out.cell (World.block_lt_of_cell? w _ hw246_1)).trans hw246_1)⟩ (fun hHeld => ?_)
                    generalize w65.drew = w66 at HO_11 HO_47 BK235 BK243 BK245 HB hx246_0 hx246_1 hHeld ⊢
                    refine pure_ (i := 0) (N := some 61) (v := ?_) (a' := ?_) #[true, false, false, false, false, false, false] rfl rfl (by kernel_rfl) (fun _ _ _ h => h) (Or.inl ⟨by rfl, ?_⟩) ?_ ?_
                    rotate_left
                    ·intro w'
                     go_simp
                     with_reducible rfl
                    rotate_left
                    ·simp only [Act.put, List.setIfInBounds_toArray, List.set_cons_zero, List.set_cons_succ, i64_w, i32_w]
                     rfl
                    refine pure_ (i := 2) (N := some 63) (v := ?_) (a' := ?_) #[true, false, true, false, false, false, false] rfl rfl (by kernel_rfl) (fun _ _ _ h => h) (Or.inl ⟨by rfl, ?_⟩) ?_ ?_
                    rotate_left
                    ·intro w'
                     go_simp
                     with_reducible rfl
                    rotate_left
                    ·simp only [Act.put, List.setIfInBounds_toArray, List.set_cons_zero, List.set_cons_succ, i64_w, i32_w]
                     rfl
                    refine take_ (i := 1) (N := some 62) (v := ?_) (a' := ?_) #[true, true, true, false, false, false, false] rfl rfl (by kernel_rfl) (fun _ _ _ h => h) (Or.inl ⟨by rfl, ?_⟩) hHeld ?_ ?_
                    rotate_left
                    ·rintro w' ⟨s0, s1, s2, s3, s4, s5⟩
                     go_simp
                     with_reducible rfl
                    rotate_left
                    ·simp only [Act.put, List.setIfInBounds_toArray, List.set_cons_zero, List.set_cons_succ, i64_w, i32_w]
                     rfl
                    refine pure_ (i := 3) (N := some 64) (v := ?_) (a' := ?_) #[true, true, true, true, false, false, false] rfl rfl (by kernel_rfl) (fun _ _ _ h => h) (Or.inl ⟨by rfl, ?_⟩) ?_ ?_
                    rotate_left
                    ·intro w'
                     go_simp
                     with_reducible rfl
                    rotate_left
                    ·simp only [Act.put, List.setIfInBounds_toArray, List.set_cons_zero, List.set_cons_succ, i64_w, i32_w]
                     rfl
                    refine take_ (i := 4) (N := some 65) (v := ?_) (a' := ?_) #[true, true, true, true, true, false, false] rfl rfl (by kernel_rfl) (fun _ _ _ h => h) (Or.inl ⟨by rfl, ?_⟩) hHeld ?_ ?_
                    rotate_left
                    ·rintro w' ⟨s0, s1, s2, s3, s4, s5⟩
                     go_simp
                     with_reducible rfl
                    rotate_left
                    ·simp only [Act.put, List.setIfInBounds_toArray, List.set_cons_zero, List.set_cons_succ, i64_w, i32_w]
                     rfl
                    refine take_ (i := 5) (N := some 66) (v := ?_) (a' := ?_) #[true, true, true, true, true, true, false] rfl rfl (by kernel_rfl) (fun _ _ _ h => h) (Or.inl ⟨by rfl, ?_⟩) hHeld ?_ ?_
                    rotate_left
                    ·rintro w' ⟨s0, s1, s2, s3, s4, s5⟩
                     go_simp
                     with_reducible rfl
                    rotate_left
                    ·simp only [Act.put, List.setIfInBounds_toArray, List.set_cons_zero, List.set_cons_succ, i64_w, i32_w]
                     rfl
                    refine pure_ (i := 6) (N := some 67) (v := ?_) (a' := ?_) #[true, true, true, true, true, true, true] rfl rfl (by kernel_rfl) (fun _ _ _ h => h) (Or.inl ⟨by rfl, ?_⟩) ?_ ?_
                    rotate_left
                    ·intro w'
                     go_simp
                     with_reducible rfl
                    rotate_left
                    ·simp only [Act.put, List.setIfInBounds_toArray, List.set_cons_zero, List.set_cons_succ, i64_w, i32_w]
                     rfl
                    refine done_ (by kernel_rfl) ?_
                    try go_wp2
                    go_roundg k4
                    case measure => have := HJ3.out; have := HK2.out; have := HK3.out; have := HK4.out; omega
                    case rel => exact ⟨(wrap64 (x57_4 + 1)), (x244000_4), (x244001_4), (x244002_4), (x244003_4), (x244004_4), (x244005_4), (x244006_4), (by first | rfl | (simp; done) | (simp [*]; done)), H', ⟨by have := HJ3.out; have := HK2.out; have := HK3.out; have := HK4.out; omega⟩, ⟨by (with_reducible repeat (first | apply Kd.S_alloc | apply Kd.S_drewN | apply Kd.S_drew)); exact Kd.S_mono HO_11.out (fun _ hk => ⟨hk.1, hk.2.1⟩)⟩, ⟨by (with_reducible repeat (first | apply Kd.R_alloc | apply Kd.R_drewN | apply Kd.R_drew)); exact HO_47.out⟩, ⟨by (with_reducible repeat (first | refine blk_drewN ?_ _ | refine blk_drew ?_ | refine blk_alloc ?_ _)); exact BK235.out⟩, ⟨by (with_reducible repeat (first | refine blk_drewN ?_ _ | refine blk_drew ?_ | refine blk_alloc ?_ _)); exact BK243.out⟩, ⟨by repeat (first | (with_reducible first | exact HB.out | apply below_alloc | apply pw_below_drewN | apply below_drew1 | refine below_set ?_ GE235.out | refine below_set ?_ GE243.out | refine below_set ?_ GE245.out) | exact HB.out)⟩⟩
                  ·rw [if_neg c41] at H
                   exact absurd H (by simp)
                 ·rw [if_neg c40] at H
                  exact absurd H (by simp)
                ·rw [if_neg c39] at H
                 exact absurd H (by simp)
               ·rw [if_neg c38] at H
                exact absurd H (by simp)
              ·rw [if_neg c37] at H
               have c37b0 : decide (x57_4 < (l0.length : Int)) = false := decide_eq_false c37
               clear c37
               replace H := Option.bind_eq_some_iff.mp H
               obtain ⟨t256, A670, H⟩ := H
               replace H : (if t256 = true then (if x11_3.length < 4398046511104 then (spec_ByGroup.l1 k4 l0 a1 a2 (x11_3 ++ [(⟨x49_3, (([(⟨((rd_T43 t231 x49_3).f0), ((rd_T43 t231 x49_3).f1)⟩ : S43), (⟨false, x244000_4⟩ : S43), (⟨false, x244002_4⟩ : S43)] : List (S43)))⟩ : S53)]) t231 (t231.length : Int) (wrap64 (x49_3 + 1))) else (none)) else (if x11_3.length < 4398046511104 then (spec_ByGroup.l1 k4 l0 a1 a2 (x11_3 ++ [(⟨x49_3, (([(⟨((rd_T43 t231 x49_3).f0), ((rd_T43 t231 x49_3).f1)⟩ : S43), (⟨false, x244000_4⟩ : S43), (⟨true, 0⟩ : S43)] : List (S43)))⟩ : S53)]) t231 (t231.length : Int) (wrap64 (x49_3 + 1))) else (none))) = some (r1, r2) := H
               have A67 := Aside0.mk A670
               clear A670
               by_cases c68 : t256 = true
               ·subst c68
                have H1 : (if x11_3.length < 4398046511104 then (spec_ByGroup.l1 k4 l0 a1 a2 (x11_3 ++ [(⟨x49_3, (([(⟨((rd_T43 t231 x49_3).f0), ((rd_T43 t231 x49_3).f1)⟩ : S43), (⟨false, x244000_4⟩ : S43), (⟨false, x244002_4⟩ : S43)] : List (S43)))⟩ : S53)]) t231 (t231.length : Int) (wrap64 (x49_3 + 1))) else (none)) = some (r1, r2) := by rw [if_pos rfl] at H; exact H
                clear H
                have H := H1
                clear H1
                obtain ⟨y257, hy257⟩ : ∃ y_ : List (S43), y_ = (([(⟨((rd_T43 t231 x49_3).f0), ((rd_T43 t231 x49_3).f1)⟩ : S43), (⟨false, x244000_4⟩ : S43), (⟨false, x244002_4⟩ : S43)] : List (S43))) := ⟨_, rfl⟩
                replace H : (if x11_3.length < 4398046511104 then (spec_ByGroup.l1 k4 l0 a1 a2 (x11_3 ++ [(⟨x49_3, y257⟩ : S53)]) t231 (t231.length : Int) (wrap64 (x49_3 + 1))) else (none)) = some (r1, r2) := by first | (rw [hy257]; with_reducible exact H) | (have H2_ := (Option.bind_some _ _).symm.trans H; rw [hy257]; with_reducible exact H2_) | (have H2_ := (Option.bind_some _ _).symm.trans H; with_reducible exact H2_) | with_reducible exact H | (rw [hy257]; exact H) | exact H
                have Ny257 := Aside0.mk hy257
                clear hy257
                by_cases c69 : x11_3.length < 4398046511104
                ·rw [if_pos c69] at H
                 have LMc69 := Aside0.mk c69
                 clear c69
                 obtain ⟨y260, hy260⟩ : ∃ y_ : List (S53), y_ = (x11_3 ++ [(⟨x49_3, y257⟩ : S53)]) := ⟨_, rfl⟩
                 replace H : (spec_ByGroup.l1 k4 l0 a1 a2 y260 t231 (t231.length : Int) (wrap64 (x49_3 + 1))) = some (r1, r2) := by first | (rw [hy260]; with_reducible exact H) | (have H2_ := (Option.bind_some _ _).symm.trans H; rw [hy260]; with_reducible exact H2_) | (have H2_ := (Option.bind_some _ _).symm.trans H; with_reducible exact H2_) | with_reducible exact H | (rw [hy260]; exact H) | exact H
                 have Ny260 := Aside0.mk hy260
                 clear hy260
                 have H' := Aside0.mk H
                 clear H
                 have hnb70 := NB243_235.out
                 have hnc70 := NB235_243.out
                 have hcz71_0 : wr.cell? ⟨gb243, 0, none⟩ = some (.int .i64 x244000_4) := (blk_cell BK243.out 0).trans rfl
                 have hcz71_1 : wr.cell? ⟨gb243, 1, none⟩ = some (.int .i64 x244001_4) := (blk_cell BK243.out 1).trans rfl
                 have hcz71_2 : wr.cell? ⟨gb243, 2, none⟩ = some (.int .i64 x244002_4) := (blk_cell BK243.out 2).trans rfl
                 have hcz71_3 : wr.cell? ⟨gb243, 3, none⟩ = some (.bool x244003_4) := (blk_cell BK243.out 3).trans rfl
                 have hcz71_4 : wr.cell? ⟨gb243, 4, none⟩ = some (.int .i64 x244004_4) := (blk_cell BK243.out 4).trans rfl
                 have hcz71_5 : wr.cell? ⟨gb243, 5, none⟩ = some (.bool x244005_4) := (blk_cell BK243.out 5).trans rfl
                 have hcz71_6 : wr.cell? ⟨gb243, 6, none⟩ = some (.int .i64 x244006_4) := (blk_cell BK243.out 6).trans rfl
                 have hfz71_0 := blk_frozen BK243.out 0
                 have hfz71_1 := blk_frozen BK243.out 1
                 have hfz71_2 := blk_frozen BK243.out 2
                 have hfz71_3 := blk_frozen BK243.out 3
                 have hfz71_4 := blk_frozen BK243.out 4
                 have hfz71_5 := blk_frozen BK243.out 5
                 have hfz71_6 := blk_frozen BK243.out 6
                 go_wp2_with (first | ((with_reducible refine gate_dst (N := 17) rfl ?_); refine box_event ?hg (N := 17) ?hd (cs := #[.bool false, .int .i64 0]) (t := 43) ?hr ?_; (case hd => rfl); (case hg => rfl); (case hr => first | (go_simp; done) | (go_simp; rfl)); intro gb255 hg w72 hbox hb; have n0_ := Aside0.mk (Kd.S_below (Kd.S_elderB (by (with_reducible repeat (first | apply Kd.S_alloc | apply Kd.S_drewN | apply Kd.S_drew)); exact HO_11.out) gb255 (Nat.le_of_eq hg.symm)) hb); have n1_ := Aside0.mk (Kd.R_below (Kd.R_elderB (by (with_reducible repeat (first | apply Kd.R_alloc | apply Kd.R_drewN | apply Kd.R_drew)); exact HO_47.out) gb255 (Nat.le_of_eq hg.symm)) hb); have n2_ := Aside0.mk (blk_below (g := gb235) (o := .cells #[.bool ((rd_T43 t231 x49_3).f0), .int .i64 ((rd_T43 t231 x49_3).f1)] 43 (0, 0)) (by (with_reducible repeat (first | refine blk_drewN ?_ _ | refine blk_drew ?_ | refine blk_alloc ?_ _)); exact BK235.out) hb); have n3_ := Aside0.mk (blk_below (g := gb243) (o := .cells #[.int .i64 x244000_4, .int .i64 x244001_4, .int .i64 x244002_4, .bool x244003_4, .int .i64 x244004_4, .bool x244005_4, .int .i64 x244006_4] 55 (0, 0)) (by (with_reducible repeat (first | refine blk_drewN ?_ _ | refine blk_drew ?_ | refine blk_alloc ?_ _)); exact BK243.out) hb); have n4_ := Aside0.mk (below_step (by repeat (first | (with_reducible first | exact HB.out | apply below_alloc | apply pw_below_drewN | apply below_drew1 | refine below_set ?_ GE235.out | refine below_set ?_ GE243.out) | exact HB.out)) hb); have n5_ := Aside0.mk (hbox); have n6_ := Aside0.mk ((by rw [hg]; exact (below_size (by repeat (first | (with_reducible first | exact HB.out | apply below_alloc | apply pw_below_drewN | apply below_drew1 | refine below_set ?_ GE235.out | refine below_set ?_ GE243.out) | exact HB.out))) : w.heap.size ≤ gb255)); have n7_ := Aside0.mk ((by rw [hg]; exact (below_size (by repeat (first | (with_reducible first | exact HB.out | apply below_alloc | apply pw_below_drewN | apply below_drew1 | refine below_set ?_ GE235.out | refine below_set ?_ GE243.out) | exact HB.out))) : w.heap.size ≤ gb255)); have n8_ := Aside0.mk ((by rw [hg]; exact Nat.ne_of_lt (blk_lt (g := gb235) (o := .cells #[.bool ((rd_T43 t231 x49_3).f0), .int .i64 ((rd_T43 t231 x49_3).f1)] 43 (0, 0)) (by (with_reducible repeat (first | refine blk_drewN ?_ _ | refine blk_drew ?_ | refine blk_alloc ?_ _)); exact BK235.out)) : gb235 ≠ gb255)); have n9_ := Aside0.mk ((by rw [hg]; exact Nat.ne_of_gt (blk_lt (g := gb235) (o := .cells #[.bool ((rd_T43 t231 x49_3).f0), .int .i64 ((rd_T43 t231 x49_3).f1)] 43 (0, 0)) (by (with_reducible repeat (first | refine blk_drewN ?_ _ | refine blk_drew ?_ | refine blk_alloc ?_ _)); exact BK235.out)) : gb255 ≠ gb235)); have n10_ := Aside0.mk ((by rw [hg]; exact Nat.ne_of_lt (blk_lt (g := gb243) (o := .cells #[.int .i64 x244000_4, .int .i64 x244001_4, .int .i64 x244002_4, .bool x244003_4, .int .i64 x244004_4, .bool x244005_4, .int .i64 x244006_4] 55 (0, 0)) (by (with_reducible repeat (first | refine blk_drewN ?_ _ | refine blk_drew ?_ | refine blk_alloc ?_ _)); exact BK243.out)) : gb243 ≠ gb255)); have n11_ := Aside0.mk ((by rw [hg]; exact Nat.ne_of_gt (blk_lt (g := gb243) (o := .cells #[.int .i64 x244000_4, .int .i64 x244001_4, .int .i64 x244002_4, .bool x244003_4, .int .i64 x244004_4, .bool x244005_4, .int .i64 x244006_4] 55 (0, 0)) (by (with_reducible repeat (first | refine blk_drewN ?_ _ | refine blk_drew ?_ | refine blk_alloc ?_ _)); exact BK243.out)) : gb255 ≠ gb243)); clear HO_11; clear HO_47; clear BK235; clear BK243; clear HB; have HO_11 := n0_; have HO_47 := n1_; have BK235 := n2_; have BK243 := n3_; have HB := n4_; have BK255 := n5_; have GW255 := n6_; have GE255 := n7_; have NB235_255 := n8_; have NB255_235 := n9_; have NB243_255 := n10_; have NB255_243 := n11_; clear n0_ n1_ n2_ n3_ n4_ n5_ n6_ n7_ n8_ n9_ n10_ n11_; clear hb hbox hg; have hnb73 := NB255_235.out; have hnc73 := NB235_255.out; have hnb74 := NB255_243.out; have hnc74 := NB243_255.out; have hcz75_0 : w72.cell? ⟨gb255, 0, none⟩ = some (.bool false) := (blk_cell BK255.out 0).trans rfl; have hcz75_1 : w72.cell? ⟨gb255, 1, none⟩ = some (.int .i64 0) := (blk_cell BK255.out 1).trans rfl; have hfz75_0 := blk_frozen BK255.out 0; have hfz75_1 := blk_frozen BK255.out 1) | ((with_reducible refine gate_callee (f := 30) rfl ?_); refine goesL_ (some 80) rfl rfl Try.func30 (by kernel_rfl) rfl #[.agg #[.bool false, .int .i64 x244002_4]] rfl (by (try simp only [List.map_toArray, List.map_cons, List.map_nil]); first | done | rfl | (simp only [List.length_drop, List.length_take]; rfl)) ?_; (with_reducible refine (spec_GoodValue.calls false x244002_4 true _ A67.out).mono ?_); rintro e w76 ⟨rfl, hb⟩; refine ⟨_, rfl, ?_⟩; have n0_ := Aside0.mk (Kd.S_below (by (with_reducible repeat (first | apply Kd.S_alloc | apply Kd.S_drewN | apply Kd.S_drew)); exact (Kd.S_mono (Kd.S_far (p := ⟨gb255, 1, none⟩) (Kd.S_far (p := ⟨gb255, 0, none⟩) (Kd.S_mono HO_11.out (fun k_ hk => (⟨hk, hk.2⟩ : _ ∧ k_ ≠ gb255))) (fun _ hk => hk.2) (.bool false)) (fun _ hk => hk.2) (.int .i64 x244002_4)) (fun _ h_ => h_.1))) hb); have n1_ := Aside0.mk (Kd.R_below (by (with_reducible repeat (first | apply Kd.R_alloc | apply Kd.R_drewN | apply Kd.R_drew)); exact (Kd.R_mono (Kd.R_far (p := ⟨gb255, 1, none⟩) (Kd.R_far (p := ⟨gb255, 0, none⟩) (Kd.R_mono HO_47.out (fun k_ hk => (⟨hk, hk.2⟩ : _ ∧ k_ ≠ gb255))) (fun _ hk => hk.2) (.bool false)) (fun _ hk => hk.2) (.int .i64 x244002_4)) (fun _ h_ => h_.1))) hb); have n2_ := Aside0.mk (blk_below (g := gb235) (o := .cells #[.bool ((rd_T43 t231 x49_3).f0), .int .i64 ((rd_T43 t231 x49_3).f1)] 43 (0, 0)) (by (with_reducible repeat (first | refine blk_drewN ?_ _ | refine blk_drew ?_ | refine blk_alloc ?_ _)); refine blk_far ?_ NB235_255.out _; (with_reducible repeat (first | refine blk_drewN ?_ _ | refine blk_drew ?_ | refine blk_alloc ?_ _)); refine blk_far ?_ NB235_255.out _; (with_reducible repeat (first | refine blk_drewN ?_ _ | refine blk_drew ?_ | refine blk_alloc ?_ _)); exact BK235.out) hb); have n3_ := Aside0.mk (blk_below (g := gb243) (o := .cells #[.int .i64 x244000_4, .int .i64 x244001_4, .int .i64 x244002_4, .bool x244003_4, .int .i64 x244004_4, .bool x244005_4, .int .i64 x244006_4] 55 (0, 0)) (by (with_reducible repeat (first | refine blk_drewN ?_ _ | refine blk_drew ?_ | refine blk_alloc ?_ _)); refine blk_far ?_ NB243_255.out _; (with_reducible repeat (first | refine blk_drewN ?_ _ | refine blk_drew ?_ | refine blk_alloc ?_ _)); refine blk_far ?_ NB243_255.out _; (with_reducible repeat (first | refine blk_drewN ?_ _ | refine blk_drew ?_ | refine blk_alloc ?_ _)); exact BK243.out) hb); have n4_ := Aside0.mk (blk_below (g := gb255) (o := .cells #[.bool false, .int .i64 x244002_4] 43 (0, 0)) (by (with_reducible repeat (first | refine blk_drewN ?_ _ | refine blk_drew ?_ | refine blk_alloc ?_ _)); refine blk_put (cs := #[.bool false, .int .i64 0]) ?_ 1 _ rfl; (with_reducible repeat (first | refine blk_drewN ?_ _ | refine blk_drew ?_ | refine blk_alloc ?_ _)); refine blk_put (cs := #[.bool false, .int .i64 0]) ?_ 0 _ rfl; (with_reducible repeat (first | refine blk_drewN ?_ _ | refine blk_drew ?_ | refine blk_alloc ?_ _)); exact BK255.out) hb); have n5_ := Aside0.mk (below_step (by repeat (first | (with_reducible first | exact HB.out | apply below_alloc | apply pw_below_drewN | apply below_drew1 | refine below_set ?_ GE235.out | refine below_set ?_ GE243.out | refine below_set ?_ GE255.out) | exact HB.out)) hb); clear HO_11; clear HO_47; clear BK235; clear BK243; clear BK255; clear HB; have HO_11 := n0_; have HO_47 := n1_; have BK235 := n2_; have BK243 := n3_; have BK255 := n4_; have HB := n5_; clear n0_ n1_ n2_ n3_ n4_ n5_; (try clear hb); (try clear hb2); (try clear hk); (try clear hi); have hcz77_0 : w76.cell? ⟨gb235, 0, none⟩ = some (.bool ((rd_T43 t231 x49_3).f0)) := (blk_cell BK235.out 0).trans rfl; have hcz77_1 : w76.cell? ⟨gb235, 1, none⟩ = some (.int .i64 ((rd_T43 t231 x49_3).f1)) := (blk_cell BK235.out 1).trans rfl; have hfz77_0 := blk_frozen BK235.out 0; have hfz77_1 := blk_frozen BK235.out 1; have hcz78_0 : w76.cell? ⟨gb243, 0, none⟩ = some (.int .i64 x244000_4) := (blk_cell BK243.out 0).trans rfl; have hcz78_1 : w76.cell? ⟨gb243, 1, none⟩ = some (.int .i64 x244001_4) := (blk_cell BK243.out 1).trans rfl; have hcz78_2 : w76.cell? ⟨gb243, 2, none⟩ = some (.int .i64 x244002_4) := (blk_cell BK243.out 2).trans rfl; have hcz78_3 : w76.cell? ⟨gb243, 3, none⟩ = some (.bool x244003_4) := (blk_cell BK243.out 3).trans rfl; have hcz78_4 : w76.cell? ⟨gb243, 4, none⟩ = some (.int .i64 x244004_4) := (blk_cell BK243.out 4).trans rfl; have hcz78_5 : w76.cell? ⟨gb243, 5, none⟩ = some (.bool x244005_4) := (blk_cell BK243.out 5).trans rfl; have hcz78_6 : w76.cell? ⟨gb243, 6, none⟩ = some (.int .i64 x244006_4) := (blk_cell BK243.out 6).trans rfl; have hfz78_0 := blk_frozen BK243.out 0; have hfz78_1 := blk_frozen BK243.out 1; have hfz78_2 := blk_frozen BK243.out 2; have hfz78_3 := blk_frozen BK243.out 3; have hfz78_4 := blk_frozen BK243.out 4; have hfz78_5 := blk_frozen BK243.out 5; have hfz78_6 := blk_frozen BK243.out 6; have hcz79_0 : w76.cell? ⟨gb255, 0, none⟩ = some (.bool false) := (blk_cell BK255.out 0).trans rfl; have hcz79_1 : w76.cell? ⟨gb255, 1, none⟩ = some (.int .i64 x244002_4) := (blk_cell BK255.out 1).trans rfl; have hfz79_0 := blk_frozen BK255.out 0; have hfz79_1 := blk_frozen BK255.out 1) | ((with_reducible refine gate_dst (N := 90) rfl ?_); refine Kd.R_lit k43 _ 43 ?hg (N := 90) ?hd (xs := ([(⟨((rd_T43 t231 x49_3).f0), ((rd_T43 t231 x49_3).f1)⟩ : S43), (⟨false, x244000_4⟩ : S43), (⟨false, x244002_4⟩ : S43)] : List (S43))) (inner := [.bool ((rd_T43 t231 x49_3).f0), .int .i64 ((rd_T43 t231 x49_3).f1), .bool false, .int .i64 x244000_4, .bool false, .int .i64 x244002_4]) (ok := fun _ => True) (okp := fun _ => True) ?hr ?hp (fun _ hk => hk) trivial (Below.refl _ _) (Nat.le_refl _) (by simp) ?_; (case hd => rfl); (case hg => rfl); (case hr => first | (go_simp; done) | (go_simp; rfl)); (case hp => exact (Reps.c2 (show Kd.M k43 _ _ _ (⟨((rd_T43 t231 x49_3).f0), ((rd_T43 t231 x49_3).f1)⟩ : S43) [.bool ((rd_T43 t231 x49_3).f0), .int .i64 ((rd_T43 t231 x49_3).f1)] from (k43_mkM _ _ _ (⟨((rd_T43 t231 x49_3).f0), ((rd_T43 t231 x49_3).f1)⟩ : S43) )) (Reps.c2 (show Kd.M k43 _ _ _ (⟨false, x244000_4⟩ : S43) [.bool false, .int .i64 x244000_4] from (k43_mkM _ _ _ (⟨false, x244000_4⟩ : S43) )) (Reps.c2 (show Kd.M k43 _ _ _ (⟨false, x244002_4⟩ : S43) [.bool false, .int .i64 x244002_4] from (k43_mkM _ _ _ (⟨false, x244002_4⟩ : S43) )) (Reps.none _ _))))); intro v258 w80 ho81 hb hg_ hnew_; clear hg_ hnew_; (first | rw [← Ny257.out] at ho81 | (simp only [Int.reduceToNat] at ho81; rw [← Ny257.out] at ho81)); have n0_ := Aside0.mk (Kd.S_elder' (by (with_reducible repeat (first | apply Kd.S_alloc | apply Kd.S_drewN | apply Kd.S_drew)); exact HO_11.out) (Kd.R_base ho81) hb); have n1_ := Aside0.mk (Kd.R_elder' (by (with_reducible repeat (first | apply Kd.R_alloc | apply Kd.R_drewN | apply Kd.R_drew)); exact HO_47.out) (Kd.R_base ho81) hb); have n2_ := Aside0.mk (Kd.R_lower (Kd.R_newB (Kd.R_newB (Kd.R_new' ho81 (Kd.R_lt (by (with_reducible repeat (first | apply Kd.R_alloc | apply Kd.R_drewN | apply Kd.R_drew)); exact HO_47.out))) (g := gb235) (o := .cells #[.bool ((rd_T43 t231 x49_3).f0), .int .i64 ((rd_T43 t231 x49_3).f1)] 43 (0, 0)) (by (with_reducible repeat (first | refine blk_drewN ?_ _ | refine blk_drew ?_ | refine blk_alloc ?_ _)); exact BK235.out)) (g := gb255) (o := .cells #[.bool false, .int .i64 x244002_4] 43 (0, 0)) (by (with_reducible repeat (first | refine blk_drewN ?_ _ | refine blk_drew ?_ | refine blk_alloc ?_ _)); exact BK255.out)) (below_size (by repeat (first | (with_reducible first | exact HB.out | apply below_alloc | apply pw_below_drewN | apply below_drew1 | refine below_set ?_ GE235.out | refine below_set ?_ GE243.out | refine below_set ?_ GE255.out) | exact HB.out)))); have n3_ := Aside0.mk (blk_below (g := gb235) (o := .cells #[.bool ((rd_T43 t231 x49_3).f0), .int .i64 ((rd_T43 t231 x49_3).f1)] 43 (0, 0)) (by (with_reducible repeat (first | refine blk_drewN ?_ _ | refine blk_drew ?_ | refine blk_alloc ?_ _)); exact BK235.out) hb); have n4_ := Aside0.mk (blk_below (g := gb243) (o := .cells #[.int .i64 x244000_4, .int .i64 x244001_4, .int .i64 x244002_4, .bool x244003_4, .int .i64 x244004_4, .bool x244005_4, .int .i64 x244006_4] 55 (0, 0)) (by (with_reducible repeat (first | refine blk_drewN ?_ _ | refine blk_drew ?_ | refine blk_alloc ?_ _)); exact BK243.out) hb); have n5_ := Aside0.mk (blk_below (g := gb255) (o := .cells #[.bool false, .int .i64 x244002_4] 43 (0, 0)) (by (with_reducible repeat (first | refine blk_drewN ?_ _ | refine blk_drew ?_ | refine blk_alloc ?_ _)); exact BK255.out) hb); have n6_ := Aside0.mk (below_step (by repeat (first | (with_reducible first | exact HB.out | apply below_alloc | apply pw_below_drewN | apply below_drew1 | refine below_set ?_ GE235.out | refine below_set ?_ GE243.out | refine below_set ?_ GE255.out) | exact HB.out)) hb); clear HO_11; clear HO_47; clear BK235; clear BK243; clear BK255; clear HB; have HO_11 := n0_; have HO_47 := n1_; have HO259 := n2_; have BK235 := n3_; have BK243 := n4_; have BK255 := n5_; have HB := n6_; clear n0_ n1_ n2_ n3_ n4_ n5_ n6_; clear hb ho81; obtain ⟨Ao82, co82, eo82⟩ := Kd.R_slice HO259.out; subst eo82) | ((with_reducible refine gate_builtin (b := .append) (xs := #[.tmp 83, .tmp 92]) rfl ?_); at_builtin; refine Kd.S_append k53 (w0 := w) w.heap.size rfl (.tmp 83) (.tmp 92) 33 53 (.agg #[(.int .i64 0), (.slice none 0 0)]) 32 rfl Try.underlying33 info53 rfl (by decide) (by omega) u11 x11_3 (⟨x49_3, y257⟩ : S53) [.int .i64 x49_3, .slice Ao82 y257.length co82] (fun k_ => some k_ ≠ (.slice (some ad234) t231.length co26 : Value).ownBlock ∧ k_ ≠ gb235 ∧ k_ ≠ gb255) (fun k_ => some k_ = (.slice Ao82 y257.length co82 : Value).ownBlock) rfl rfl ?aP (fun k_ hk_ => ((Kd.R_mono (ok' := fun k_ => ((fun k_ => some k_ ≠ (.slice (some ad234) t231.length co26 : Value).ownBlock ∧ k_ ≠ gb235 ∧ k_ ≠ gb255)) k_ ∧ some k_ ≠ (u11 : Value).ownBlock) (Kd.R_apart' (HO259.out) (Kd.S_typed HO_11.out) (by decide)) (fun k_ hk => ⟨⟨hk.1.1.1.2, ⟨hk.1.1.2, hk.1.2⟩⟩, hk.2⟩))).1 k_ hk_.symm) ?aF ?aO ?aB ?aS ?aL ?_; (case aP => exact k53_mkM _ _ _ (⟨x49_3, y257⟩ : S53) (Kd.R_mono (Kd.R_tight rfl (Kd.R_mono (ok' := fun k_ => ((fun k_ => some k_ ≠ (.slice (some ad234) t231.length co26 : Value).ownBlock ∧ k_ ≠ gb235 ∧ k_ ≠ gb255)) k_ ∧ some k_ ≠ (u11 : Value).ownBlock) (Kd.R_apart' (HO259.out) (Kd.S_typed HO_11.out) (by decide)) (fun k_ hk => ⟨⟨hk.1.1.1.2, ⟨hk.1.1.2, hk.1.2⟩⟩, hk.2⟩))) (fun _ h_ => h_))); (case aB => exact (by repeat (first | (with_reducible first | exact HB.out | apply below_alloc | apply pw_below_drewN | apply below_drew1 | refine below_set ?_ GE235.out | refine below_set ?_ GE243.out | refine below_set ?_ GE255.out) | exact HB.out))); (case aF => exact (fun k_ hk => ⟨Kd.fresh' (Kd.R_lt (by (with_reducible repeat (first | apply Kd.R_alloc | apply Kd.R_drewN | apply Kd.R_drew)); exact HO_47.out)) k_ hk, Kd.freshB (g := gb235) (o := .cells #[.bool ((rd_T43 t231 x49_3).f0), .int .i64 ((rd_T43 t231 x49_3).f1)] 43 (0, 0)) (by (with_reducible repeat (first | refine blk_drewN ?_ _ | refine blk_drew ?_ | refine blk_alloc ?_ _)); exact BK235.out) k_ hk, Kd.freshB (g := gb255) (o := .cells #[.bool false, .int .i64 x244002_4] 43 (0, 0)) (by (with_reducible repeat (first | refine blk_drewN ?_ _ | refine blk_drew ?_ | refine blk_alloc ?_ _)); exact BK255.out) k_ hk⟩)); (case aO => exact (by (with_reducible repeat (first | apply Kd.S_alloc | apply Kd.S_drewN | apply Kd.S_drew)); exact Kd.S_mono HO_11.out (fun k_ hk => ⟨⟨hk.1.1.1, ⟨hk.1.1.2, hk.1.2⟩⟩, fun e_ => hk.2 e_⟩))); (case aS => exact (below_size (by repeat (first | (with_reducible first | exact HB.out | apply below_alloc | apply pw_below_drewN | apply below_drew1 | refine below_set ?_ GE235.out | refine below_set ?_ GE243.out | refine below_set ?_ GE255.out) | exact HB.out)))); (case aL => have := LMc69.out; omega); intro v261 w83 ho hb hg hat; rw [← Ny260.out] at ho; have n0_ := Aside0.mk (Kd.R_over' (by (with_reducible repeat (first | apply Kd.R_alloc | apply Kd.R_drewN | apply Kd.R_drew)); exact HO_47.out) (Kd.S_typed (by (with_reducible repeat (first | apply Kd.S_alloc | apply Kd.S_drewN | apply Kd.S_drew)); exact HO_11.out)) (by decide) hg); have n1_ := Aside0.mk (blk_grown (g := gb235) (o := .cells #[.bool ((rd_T43 t231 x49_3).f0), .int .i64 ((rd_T43 t231 x49_3).f1)] 43 (0, 0)) (by (with_reducible repeat (first | refine blk_drewN ?_ _ | refine blk_drew ?_ | refine blk_alloc ?_ _)); exact BK235.out) hg (Kd.S_ne HO_11.out BK235.out (by decide))); have n2_ := Aside0.mk (blk_grown (g := gb243) (o := .cells #[.int .i64 x244000_4, .int .i64 x244001_4, .int .i64 x244002_4, .bool x244003_4, .int .i64 x244004_4, .bool x244005_4, .int .i64 x244006_4] 55 (0, 0)) (by (with_reducible repeat (first | refine blk_drewN ?_ _ | refine blk_drew ?_ | refine blk_alloc ?_ _)); exact BK243.out) hg (Kd.S_ne HO_11.out BK243.out (by decide))); have n3_ := Aside0.mk (blk_grown (g := gb255) (o := .cells #[.bool false, .int .i64 x244002_4] 43 (0, 0)) (by (with_reducible repeat (first | refine blk_drewN ?_ _ | refine blk_drew ?_ | refine blk_alloc ?_ _)); exact BK255.out) hg (Kd.S_ne HO_11.out BK255.out (by decide))); have n4_ := Aside0.mk (hb); have n5_ := Aside0.mk (ho); clear HO_47; clear BK235; clear BK243; clear BK255; clear HB; clear HO_11; clear HO259; have HO_47 := n0_; have BK235 := n1_; have BK243 := n2_; have BK255 := n3_; have HB := n4_; have HO262 := n5_; clear n0_ n1_ n2_ n3_ n4_ n5_; clear ho hb hg hat))
                 go_roundg k4
                 case measure => have := HJ3.out; have := HK2.out; have := HK3.out; have := HK4.out; omega
                 case rel => exact ⟨(y260), (wrap64 (x49_3 + 1)), (by first | rfl | (simp; done) | (simp [*]; done)), H', ⟨by have := HJ3.out; have := HK2.out; have := HK3.out; have := HK4.out; omega⟩, ⟨by (with_reducible repeat (first | apply Kd.S_alloc | apply Kd.S_drewN | apply Kd.S_drew)); exact Kd.S_mono HO262.out (fun _ hk => hk.1)⟩, ⟨by (with_reducible repeat (first | apply Kd.R_alloc | apply Kd.R_drewN | apply Kd.R_drew)); exact Kd.R_mono HO_47.out (fun _ hk => trivial)⟩, ⟨by repeat (first | (with_reducible first | exact HB.out | apply below_alloc | apply pw_below_drewN | apply below_drew1 | refine below_set ?_ GE235.out | refine below_set ?_ GE243.out | refine below_set ?_ GE255.out) | exact HB.out)⟩⟩
                ·rw [if_neg c69] at H
                 exact absurd H (by simp)
               ·replace c68 := Bool.eq_false_iff.mpr c68
                subst c68
                have H1 : (if x11_3.length < 4398046511104 then (spec_ByGroup.l1 k4 l0 a1 a2 (x11_3 ++ [(⟨x49_3, (([(⟨((rd_T43 t231 x49_3).f0), ((rd_T43 t231 x49_3).f1)⟩ : S43), (⟨false, x244000_4⟩ : S43), (⟨true, 0⟩ : S43)] : List (S43)))⟩ : S53)]) t231 (t231.length : Int) (wrap64 (x49_3 + 1))) else (none)) = some (r1, r2) := by rw [if_neg (show ¬ (false = true) by decide)] at H; exact H
                clear H
                have H := H1
                clear H1
                obtain ⟨y263, hy263⟩ : ∃ y_ : List (S43), y_ = (([(⟨((rd_T43 t231 x49_3).f0), ((rd_T43 t231 x49_3).f1)⟩ : S43), (⟨false, x244000_4⟩ : S43), (⟨true, 0⟩ : S43)] : List (S43))) := ⟨_, rfl⟩
                replace H : (if x11_3.length < 4398046511104 then (spec_ByGroup.l1 k4 l0 a1 a2 (x11_3 ++ [(⟨x49_3, y263⟩ : S53)]) t231 (t231.length : Int) (wrap64 (x49_3 + 1))) else (none)) = some (r1, r2) := by first | (rw [hy263]; with_reducible exact H) | (have H2_ := (Option.bind_some _ _).symm.trans H; rw [hy263]; with_reducible exact H2_) | (have H2_ := (Option.bind_some _ _).symm.trans H; with_reducible exact H2_) | with_reducible exact H | (rw [hy263]; exact H) | exact H
                have Ny263 := Aside0.mk hy263
                clear hy263
                by_cases c84 : x11_3.length < 4398046511104
                ·rw [if_pos c84] at H
                 have LMc84 := Aside0.mk c84
                 clear c84
                 obtain ⟨y266, hy266⟩ : ∃ y_ : List (S53), y_ = (x11_3 ++ [(⟨x49_3, y263⟩ : S53)]) := ⟨_, rfl⟩
                 replace H : (spec_ByGroup.l1 k4 l0 a1 a2 y266 t231 (t231.length : Int) (wrap64 (x49_3 + 1))) = some (r1, r2) := by first | (rw [hy266]; with_reducible exact H) | (have H2_ := (Option.bind_some _ _).symm.trans H; rw [hy266]; with_reducible exact H2_) | (have H2_ := (Option.bind_some _ _).symm.trans H; with_reducible exact H2_) | with_reducible exact H | (rw [hy266]; exact H) | exact H
                 have Ny266 := Aside0.mk hy266
                 clear hy266
                 have H' := Aside0.mk H
                 clear H
                 have hnb85 := NB243_235.out
                 have hnc85 := NB235_243.out
                 have hcz86_0 : wr.cell? ⟨gb243, 0, none⟩ = some (.int .i64 x244000_4) := (blk_cell BK243.out 0).trans rfl
                 have hcz86_1 : wr.cell? ⟨gb243, 1, none⟩ = some (.int .i64 x244001_4) := (blk_cell BK243.out 1).trans rfl
                 have hcz86_2 : wr.cell? ⟨gb243, 2, none⟩ = some (.int .i64 x244002_4) := (blk_cell BK243.out 2).trans rfl
                 have hcz86_3 : wr.cell? ⟨gb243, 3, none⟩ = some (.bool x244003_4) := (blk_cell BK243.out 3).trans rfl
                 have hcz86_4 : wr.cell? ⟨gb243, 4, none⟩ = some (.int .i64 x244004_4) := (blk_cell BK243.out 4).trans rfl
                 have hcz86_5 : wr.cell? ⟨gb243, 5, none⟩ = some (.bool x244005_4) := (blk_cell BK243.out 5).trans rfl
                 have hcz86_6 : wr.cell? ⟨gb243, 6, none⟩ = some (.int .i64 x244006_4) := (blk_cell BK243.out 6).trans rfl
                 have hfz86_0 := blk_frozen BK243.out 0
                 have hfz86_1 := blk_frozen BK243.out 1
                 have hfz86_2 := blk_frozen BK243.out 2
                 have hfz86_3 := blk_frozen BK243.out 3
                 have hfz86_4 := blk_frozen BK243.out 4
                 have hfz86_5 := blk_frozen BK243.out 5
                 have hfz86_6 := blk_frozen BK243.out 6
                 go_wp2_with (first | ((with_reducible refine gate_dst (N := 17) rfl ?_); refine box_event ?hg (N := 17) ?hd (cs := #[.bool false, .int .i64 0]) (t := 43) ?hr ?_; (case hd => rfl); (case hg => rfl); (case hr => first | (go_simp; done) | (go_simp; rfl)); intro gb255 hg w87 hbox hb; have n0_ := Aside0.mk (Kd.S_below (Kd.S_elderB (by (with_reducible repeat (first | apply Kd.S_alloc | apply Kd.S_drewN | apply Kd.S_drew)); exact HO_11.out) gb255 (Nat.le_of_eq hg.symm)) hb); have n1_ := Aside0.mk (Kd.R_below (Kd.R_elderB (by (with_reducible repeat (first | apply Kd.R_alloc | apply Kd.R_drewN | apply Kd.R_drew)); exact HO_47.out) gb255 (Nat.le_of_eq hg.symm)) hb); have n2_ := Aside0.mk (blk_below (g := gb235) (o := .cells #[.bool ((rd_T43 t231 x49_3).f0), .int .i64 ((rd_T43 t231 x49_3).f1)] 43 (0, 0)) (by (with_reducible repeat (first | refine blk_drewN ?_ _ | refine blk_drew ?_ | refine blk_alloc ?_ _)); exact BK235.out) hb); have n3_ := Aside0.mk (blk_below (g := gb243) (o := .cells #[.int .i64 x244000_4, .int .i64 x244001_4, .int .i64 x244002_4, .bool x244003_4, .int .i64 x244004_4, .bool x244005_4, .int .i64 x244006_4] 55 (0, 0)) (by (with_reducible repeat (first | refine blk_drewN ?_ _ | refine blk_drew ?_ | refine blk_alloc ?_ _)); exact BK243.out) hb); have n4_ := Aside0.mk (below_step (by repeat (first | (with_reducible first | exact HB.out | apply below_alloc | apply pw_below_drewN | apply below_drew1 | refine below_set ?_ GE235.out | refine below_set ?_ GE243.out) | exact HB.out)) hb); have n5_ := Aside0.mk (hbox); have n6_ := Aside0.mk ((by rw [hg]; exact (below_size (by repeat (first | (with_reducible first | exact HB.out | apply below_alloc | apply pw_below_drewN | apply below_drew1 | refine below_set ?_ GE235.out | refine below_set ?_ GE243.out) | exact HB.out))) : w.heap.size ≤ gb255)); have n7_ := Aside0.mk ((by rw [hg]; exact (below_size (by repeat (first | (with_reducible first | exact HB.out | apply below_alloc | apply pw_below_drewN | apply below_drew1 | refine below_set ?_ GE235.out | refine below_set ?_ GE243.out) | exact HB.out))) : w.heap.size ≤ gb255)); have n8_ := Aside0.mk ((by rw [hg]; exact Nat.ne_of_lt (blk_lt (g := gb235) (o := .cells #[.bool ((rd_T43 t231 x49_3).f0), .int .i64 ((rd_T43 t231 x49_3).f1)] 43 (0, 0)) (by (with_reducible repeat (first | refine blk_drewN ?_ _ | refine blk_drew ?_ | refine blk_alloc ?_ _)); exact BK235.out)) : gb235 ≠ gb255)); have n9_ := Aside0.mk ((by rw [hg]; exact Nat.ne_of_gt (blk_lt (g := gb235) (o := .cells #[.bool ((rd_T43 t231 x49_3).f0), .int .i64 ((rd_T43 t231 x49_3).f1)] 43 (0, 0)) (by (with_reducible repeat (first | refine blk_drewN ?_ _ | refine blk_drew ?_ | refine blk_alloc ?_ _)); exact BK235.out)) : gb255 ≠ gb235)); have n10_ := Aside0.mk ((by rw [hg]; exact Nat.ne_of_lt (blk_lt (g := gb243) (o := .cells #[.int .i64 x244000_4, .int .i64 x244001_4, .int .i64 x244002_4, .bool x244003_4, .int .i64 x244004_4, .bool x244005_4, .int .i64 x244006_4] 55 (0, 0)) (by (with_reducible repeat (first | refine blk_drewN ?_ _ | refine blk_drew ?_ | refine blk_alloc ?_ _)); exact BK243.out)) : gb243 ≠ gb255)); have n11_ := Aside0.mk ((by rw [hg]; exact Nat.ne_of_gt (blk_lt (g := gb243) (o := .cells #[.int .i64 x244000_4, .int .i64 x244001_4, .int .i64 x244002_4, .bool x244003_4, .int .i64 x244004_4, .bool x244005_4, .int .i64 x244006_4] 55 (0, 0)) (by (with_reducible repeat (first | refine blk_drewN ?_ _ | refine blk_drew ?_ | refine blk_alloc ?_ _)); exact BK243.out)) : gb255 ≠ gb243)); clear HO_11; clear HO_47; clear BK235; clear BK243; clear HB; have HO_11 := n0_; have HO_47 := n1_; have BK235 := n2_; have BK243 := n3_; have HB := n4_; have BK255 := n5_; have GW255 := n6_; have GE255 := n7_; have NB235_255 := n8_; have NB255_235 := n9_; have NB243_255 := n10_; have NB255_243 := n11_; clear n0_ n1_ n2_ n3_ n4_ n5_ n6_ n7_ n8_ n9_ n10_ n11_; clear hb hbox hg; have hnb88 := NB255_235.out; have hnc88 := NB235_255.out; have hnb89 := NB255_243.out; have hnc89 := NB243_255.out; have hcz90_0 : w87.cell? ⟨gb255, 0, none⟩ = some (.bool false) := (blk_cell BK255.out 0).trans rfl; have hcz90_1 : w87.cell? ⟨gb255, 1, none⟩ = some (.int .i64 0) := (blk_cell BK255.out 1).trans rfl; have hfz90_0 := blk_frozen BK255.out 0; have hfz90_1 := blk_frozen BK255.out 1) | ((with_reducible refine gate_callee (f := 30) rfl ?_); refine goesL_ (some 80) rfl rfl Try.func30 (by kernel_rfl) rfl #[.agg #[.bool false, .int .i64 x244002_4]] rfl (by (try simp only [List.map_toArray, List.map_cons, List.map_nil]); first | done | rfl | (simp only [List.length_drop, List.length_take]; rfl)) ?_; (with_reducible refine (spec_GoodValue.calls false x244002_4 false _ A67.out).mono ?_); rintro e w91 ⟨rfl, hb⟩; refine ⟨_, rfl, ?_⟩; have n0_ := Aside0.mk (Kd.S_below (by (with_reducible repeat (first | apply Kd.S_alloc | apply Kd.S_drewN | apply Kd.S_drew)); exact (Kd.S_mono (Kd.S_far (p := ⟨gb255, 1, none⟩) (Kd.S_far (p := ⟨gb255, 0, none⟩) (Kd.S_mono HO_11.out (fun k_ hk => (⟨hk, hk.2⟩ : _ ∧ k_ ≠ gb255))) (fun _ hk => hk.2) (.bool false)) (fun _ hk => hk.2) (.int .i64 x244002_4)) (fun _ h_ => h_.1))) hb); have n1_ := Aside0.mk (Kd.R_below (by (with_reducible repeat (first | apply Kd.R_alloc | apply Kd.R_drewN | apply Kd.R_drew)); exact (Kd.R_mono (Kd.R_far (p := ⟨gb255, 1, none⟩) (Kd.R_far (p := ⟨gb255, 0, none⟩) (Kd.R_mono HO_47.out (fun k_ hk => (⟨hk, hk.2⟩ : _ ∧ k_ ≠ gb255))) (fun _ hk => hk.2) (.bool false)) (fun _ hk => hk.2) (.int .i64 x244002_4)) (fun _ h_ => h_.1))) hb); have n2_ := Aside0.mk (blk_below (g := gb235) (o := .cells #[.bool ((rd_T43 t231 x49_3).f0), .int .i64 ((rd_T43 t231 x49_3).f1)] 43 (0, 0)) (by (with_reducible repeat (first | refine blk_drewN ?_ _ | refine blk_drew ?_ | refine blk_alloc ?_ _)); refine blk_far ?_ NB235_255.out _; (with_reducible repeat (first | refine blk_drewN ?_ _ | refine blk_drew ?_ | refine blk_alloc ?_ _)); refine blk_far ?_ NB235_255.out _; (with_reducible repeat (first | refine blk_drewN ?_ _ | refine blk_drew ?_ | refine blk_alloc ?_ _)); exact BK235.out) hb); have n3_ := Aside0.mk (blk_below (g := gb243) (o := .cells #[.int .i64 x244000_4, .int .i64 x244001_4, .int .i64 x244002_4, .bool x244003_4, .int .i64 x244004_4, .bool x244005_4, .int .i64 x244006_4] 55 (0, 0)) (by (with_reducible repeat (first | refine blk_drewN ?_ _ | refine blk_drew ?_ | refine blk_alloc ?_ _)); refine blk_far ?_ NB243_255.out _; (with_reducible repeat (first | refine blk_drewN ?_ _ | refine blk_drew ?_ | refine blk_alloc ?_ _)); refine blk_far ?_ NB243_255.out _; (with_reducible repeat (first | refine blk_drewN ?_ _ | refine blk_drew ?_ | refine blk_alloc ?_ _)); exact BK243.out) hb); have n4_ := Aside0.mk (blk_below (g := gb255) (o := .cells #[.bool false, .int .i64 x244002_4] 43 (0, 0)) (by (with_reducible repeat (first | refine blk_drewN ?_ _ | refine blk_drew ?_ | refine blk_alloc ?_ _)); refine blk_put (cs := #[.bool false, .int .i64 0]) ?_ 1 _ rfl; (with_reducible repeat (first | refine blk_drewN ?_ _ | refine blk_drew ?_ | refine blk_alloc ?_ _)); refine blk_put (cs := #[.bool false, .int .i64 0]) ?_ 0 _ rfl; (with_reducible repeat (first | refine blk_drewN ?_ _ | refine blk_drew ?_ | refine blk_alloc ?_ _)); exact BK255.out) hb); have n5_ := Aside0.mk (below_step (by repeat (first | (with_reducible first | exact HB.out | apply below_alloc | apply pw_below_drewN | apply below_drew1 | refine below_set ?_ GE235.out | refine below_set ?_ GE243.out | refine below_set ?_ GE255.out) | exact HB.out)) hb); clear HO_11; clear HO_47; clear BK235; clear BK243; clear BK255; clear HB; have HO_11 := n0_; have HO_47 := n1_; have BK235 := n2_; have BK243 := n3_; have BK255 := n4_; have HB := n5_; clear n0_ n1_ n2_ n3_ n4_ n5_; (try clear hb); (try clear hb2); (try clear hk); (try clear hi); have hcz92_0 : w91.cell? ⟨gb255, 0, none⟩ = some (.bool false) := (blk_cell BK255.out 0).trans rfl; have hcz92_1 : w91.cell? ⟨gb255, 1, none⟩ = some (.int .i64 x244002_4) := (blk_cell BK255.out 1).trans rfl; have hfz92_0 := blk_frozen BK255.out 0; have hfz92_1 := blk_frozen BK255.out 1; have hcz93_0 : w91.cell? ⟨gb235, 0, none⟩ = some (.bool ((rd_T43 t231 x49_3).f0)) := (blk_cell BK235.out 0).trans rfl; have hcz93_1 : w91.cell? ⟨gb235, 1, none⟩ = some (.int .i64 ((rd_T43 t231 x49_3).f1)) := (blk_cell BK235.out 1).trans rfl; have hfz93_0 := blk_frozen BK235.out 0; have hfz93_1 := blk_frozen BK235.out 1; have hcz94_0 : w91.cell? ⟨gb243, 0, none⟩ = some (.int .i64 x244000_4) := (blk_cell BK243.out 0).trans rfl; have hcz94_1 : w91.cell? ⟨gb243, 1, none⟩ = some (.int .i64 x244001_4) := (blk_cell BK243.out 1).trans rfl; have hcz94_2 : w91.cell? ⟨gb243, 2, none⟩ = some (.int .i64 x244002_4) := (blk_cell BK243.out 2).trans rfl; have hcz94_3 : w91.cell? ⟨gb243, 3, none⟩ = some (.bool x244003_4) := (blk_cell BK243.out 3).trans rfl; have hcz94_4 : w91.cell? ⟨gb243, 4, none⟩ = some (.int .i64 x244004_4) := (blk_cell BK243.out 4).trans rfl; have hcz94_5 : w91.cell? ⟨gb243, 5, none⟩ = some (.bool x244005_4) := (blk_cell BK243.out 5).trans rfl; have hcz94_6 : w91.cell? ⟨gb243, 6, none⟩ = some (.int .i64 x244006_4) := (blk_cell BK243.out 6).trans rfl; have hfz94_0 := blk_frozen BK243.out 0; have hfz94_1 := blk_frozen BK243.out 1; have hfz94_2 := blk_frozen BK243.out 2; have hfz94_3 := blk_frozen BK243.out 3; have hfz94_4 := blk_frozen BK243.out 4; have hfz94_5 := blk_frozen BK243.out 5; have hfz94_6 := blk_frozen BK243.out 6) | ((with_reducible refine gate_dst (N := 90) rfl ?_); refine Kd.R_lit k43 _ 43 ?hg (N := 90) ?hd (xs := ([(⟨((rd_T43 t231 x49_3).f0), ((rd_T43 t231 x49_3).f1)⟩ : S43), (⟨false, x244000_4⟩ : S43), (⟨true, 0⟩ : S43)] : List (S43))) (inner := [.bool ((rd_T43 t231 x49_3).f0), .int .i64 ((rd_T43 t231 x49_3).f1), .bool false, .int .i64 x244000_4, .bool true, .int .i64 0]) (ok := fun _ => True) (okp := fun _ => True) ?hr ?hp (fun _ hk => hk) trivial (Below.refl _ _) (Nat.le_refl _) (by simp) ?_; (case hd => rfl); (case hg => rfl); (case hr => first | (go_simp; done) | (go_simp; rfl)); (case hp => exact (Reps.c2 (show Kd.M k43 _ _ _ (⟨((rd_T43 t231 x49_3).f0), ((rd_T43 t231 x49_3).f1)⟩ : S43) [.bool ((rd_T43 t231 x49_3).f0), .int .i64 ((rd_T43 t231 x49_3).f1)] from (k43_mkM _ _ _ (⟨((rd_T43 t231 x49_3).f0), ((rd_T43 t231 x49_3).f1)⟩ : S43) )) (Reps.c2 (show Kd.M k43 _ _ _ (⟨false, x244000_4⟩ : S43) [.bool false, .int .i64 x244000_4] from (k43_mkM _ _ _ (⟨false, x244000_4⟩ : S43) )) (Reps.c2 (show Kd.M k43 _ _ _ (⟨true, 0⟩ : S43) [.bool true, .int .i64 0] from (k43_mkM _ _ _ (⟨true, 0⟩ : S43) )) (Reps.none _ _))))); intro v264 w95 ho96 hb hg_ hnew_; clear hg_ hnew_; (first | rw [← Ny263.out] at ho96 | (simp only [Int.reduceToNat] at ho96; rw [← Ny263.out] at ho96)); have n0_ := Aside0.mk (Kd.S_elder' (by (with_reducible repeat (first | apply Kd.S_alloc | apply Kd.S_drewN | apply Kd.S_drew)); exact (Kd.S_mono (Kd.S_far (p := ⟨gb255, 1, none⟩) (Kd.S_far (p := ⟨gb255, 0, none⟩) (Kd.S_mono HO_11.out (fun k_ hk => (⟨hk, hk.2⟩ : _ ∧ k_ ≠ gb255))) (fun _ hk => hk.2) (.bool true)) (fun _ hk => hk.2) (.int .i64 0)) (fun _ h_ => h_.1))) (Kd.R_base ho96) hb); have n1_ := Aside0.mk (Kd.R_elder' (by (with_reducible repeat (first | apply Kd.R_alloc | apply Kd.R_drewN | apply Kd.R_drew)); exact (Kd.R_mono (Kd.R_far (p := ⟨gb255, 1, none⟩) (Kd.R_far (p := ⟨gb255, 0, none⟩) (Kd.R_mono HO_47.out (fun k_ hk => (⟨hk, hk.2⟩ : _ ∧ k_ ≠ gb255))) (fun _ hk => hk.2) (.bool true)) (fun _ hk => hk.2) (.int .i64 0)) (fun _ h_ => h_.1))) (Kd.R_base ho96) hb); have n2_ := Aside0.mk (Kd.R_lower (Kd.R_newB (Kd.R_newB (Kd.R_new' ho96 (Kd.R_lt (by (with_reducible repeat (first | apply Kd.R_alloc | apply Kd.R_drewN | apply Kd.R_drew)); exact (Kd.R_mono (Kd.R_far (p := ⟨gb255, 1, none⟩) (Kd.R_far (p := ⟨gb255, 0, none⟩) (Kd.R_mono HO_47.out (fun k_ hk => (⟨hk, hk.2⟩ : _ ∧ k_ ≠ gb255))) (fun _ hk => hk.2) (.bool true)) (fun _ hk => hk.2) (.int .i64 0)) (fun _ h_ => h_.1))))) (g := gb235) (o := .cells #[.bool ((rd_T43 t231 x49_3).f0), .int .i64 ((rd_T43 t231 x49_3).f1)] 43 (0, 0)) (by (with_reducible repeat (first | refine blk_drewN ?_ _ | refine blk_drew ?_ | refine blk_alloc ?_ _)); refine blk_far ?_ NB235_255.out _; (with_reducible repeat (first | refine blk_drewN ?_ _ | refine blk_drew ?_ | refine blk_alloc ?_ _)); refine blk_far ?_ NB235_255.out _; (with_reducible repeat (first | refine blk_drewN ?_ _ | refine blk_drew ?_ | refine blk_alloc ?_ _)); exact BK235.out)) (g := gb255) (o := .cells #[.bool true, .int .i64 0] 43 (0, 0)) (by (with_reducible repeat (first | refine blk_drewN ?_ _ | refine blk_drew ?_ | refine blk_alloc ?_ _)); refine blk_put (cs := #[.bool true, .int .i64 x244002_4]) ?_ 1 _ rfl; (with_reducible repeat (first | refine blk_drewN ?_ _ | refine blk_drew ?_ | refine blk_alloc ?_ _)); refine blk_put (cs := #[.bool false, .int .i64 x244002_4]) ?_ 0 _ rfl; (with_reducible repeat (first | refine blk_drewN ?_ _ | refine blk_drew ?_ | refine blk_alloc ?_ _)); exact BK255.out)) (below_size (by repeat (first | (with_reducible first | exact HB.out | apply below_alloc | apply pw_below_drewN | apply below_drew1 | refine below_set ?_ GE235.out | refine below_set ?_ GE243.out | refine below_set ?_ GE255.out) | exact HB.out)))); have n3_ := Aside0.mk (blk_below (g := gb235) (o := .cells #[.bool ((rd_T43 t231 x49_3).f0), .int .i64 ((rd_T43 t231 x49_3).f1)] 43 (0, 0)) (by (with_reducible repeat (first | refine blk_drewN ?_ _ | refine blk_drew ?_ | refine blk_alloc ?_ _)); refine blk_far ?_ NB235_255.out _; (with_reducible repeat (first | refine blk_drewN ?_ _ | refine blk_drew ?_ | refine blk_alloc ?_ _)); refine blk_far ?_ NB235_255.out _; (with_reducible repeat (first | refine blk_drewN ?_ _ | refine blk_drew ?_ | refine blk_alloc ?_ _)); exact BK235.out) hb); have n4_ := Aside0.mk (blk_below (g := gb243) (o := .cells #[.int .i64 x244000_4, .int .i64 x244001_4, .int .i64 x244002_4, .bool x244003_4, .int .i64 x244004_4, .bool x244005_4, .int .i64 x244006_4] 55 (0, 0)) (by (with_reducible repeat (first | refine blk_drewN ?_ _ | refine blk_drew ?_ | refine blk_alloc ?_ _)); refine blk_far ?_ NB243_255.out _; (with_reducible repeat (first | refine blk_drewN ?_ _ | refine blk_drew ?_ | refine blk_alloc ?_ _)); refine blk_far ?_ NB243_255.out _; (with_reducible repeat (first | refine blk_drewN ?_ _ | refine blk_drew ?_ | refine blk_alloc ?_ _)); exact BK243.out) hb); have n5_ := Aside0.mk (blk_below (g := gb255) (o := .cells #[.bool true, .int .i64 0] 43 (0, 0)) (by (with_reducible repeat (first | refine blk_drewN ?_ _ | refine blk_drew ?_ | refine blk_alloc ?_ _)); refine blk_put (cs := #[.bool true, .int .i64 x244002_4]) ?_ 1 _ rfl; (with_reducible repeat (first | refine blk_drewN ?_ _ | refine blk_drew ?_ | refine blk_alloc ?_ _)); refine blk_put (cs := #[.bool false, .int .i64 x244002_4]) ?_ 0 _ rfl; (with_reducible repeat (first | refine blk_drewN ?_ _ | refine blk_drew ?_ | refine blk_alloc ?_ _)); exact BK255.out) hb); have n6_ := Aside0.mk (below_step (by repeat (first | (with_reducible first | exact HB.out | apply below_alloc | apply pw_below_drewN | apply below_drew1 | refine below_set ?_ GE235.out | refine below_set ?_ GE243.out | refine below_set ?_ GE255.out) | exact HB.out)) hb); clear HO_11; clear HO_47; clear BK235; clear BK243; clear BK255; clear HB; have HO_11 := n0_; have HO_47 := n1_; have HO265 := n2_; have BK235 := n3_; have BK243 := n4_; have BK255 := n5_; have HB := n6_; clear n0_ n1_ n2_ n3_ n4_ n5_ n6_; clear hb ho96; obtain ⟨Ao97, co97, eo97⟩ := Kd.R_slice HO265.out; subst eo97) | ((with_reducible refine gate_builtin (b := .append) (xs := #[.tmp 83, .tmp 92]) rfl ?_); at_builtin; refine Kd.S_append k53 (w0 := w) w.heap.size rfl (.tmp 83) (.tmp 92) 33 53 (.agg #[(.int .i64 0), (.slice none 0 0)]) 32 rfl Try.underlying33 info53 rfl (by decide) (by omega) u11 x11_3 (⟨x49_3, y263⟩ : S53) [.int .i64 x49_3, .slice Ao97 y263.length co97] (fun k_ => some k_ ≠ (.slice (some ad234) t231.length co26 : Value).ownBlock ∧ k_ ≠ gb235 ∧ k_ ≠ gb255) (fun k_ => some k_ = (.slice Ao97 y263.length co97 : Value).ownBlock) rfl rfl ?aP (fun k_ hk_ => ((Kd.R_mono (ok' := fun k_ => ((fun k_ => some k_ ≠ (.slice (some ad234) t231.length co26 : Value).ownBlock ∧ k_ ≠ gb235 ∧ k_ ≠ gb255)) k_ ∧ some k_ ≠ (u11 : Value).ownBlock) (Kd.R_apart' (HO265.out) (Kd.S_typed HO_11.out) (by decide)) (fun k_ hk => ⟨⟨hk.1.1.1.2, ⟨hk.1.1.2, hk.1.2⟩⟩, hk.2⟩))).1 k_ hk_.symm) ?aF ?aO ?aB ?aS ?aL ?_; (case aP => exact k53_mkM _ _ _ (⟨x49_3, y263⟩ : S53) (Kd.R_mono (Kd.R_tight rfl (Kd.R_mono (ok' := fun k_ => ((fun k_ => some k_ ≠ (.slice (some ad234) t231.length co26 : Value).ownBlock ∧ k_ ≠ gb235 ∧ k_ ≠ gb255)) k_ ∧ some k_ ≠ (u11 : Value).ownBlock) (Kd.R_apart' (HO265.out) (Kd.S_typed HO_11.out) (by decide)) (fun k_ hk => ⟨⟨hk.1.1.1.2, ⟨hk.1.1.2, hk.1.2⟩⟩, hk.2⟩))) (fun _ h_ => h_))); (case aB => exact (by repeat (first | (with_reducible first | exact HB.out | apply below_alloc | apply pw_below_drewN | apply below_drew1 | refine below_set ?_ GE235.out | refine below_set ?_ GE243.out | refine below_set ?_ GE255.out) | exact HB.out))); (case aF => exact (fun k_ hk => ⟨Kd.fresh' (Kd.R_lt (by (with_reducible repeat (first | apply Kd.R_alloc | apply Kd.R_drewN | apply Kd.R_drew)); exact HO_47.out)) k_ hk, Kd.freshB (g := gb235) (o := .cells #[.bool ((rd_T43 t231 x49_3).f0), .int .i64 ((rd_T43 t231 x49_3).f1)] 43 (0, 0)) (by (with_reducible repeat (first | refine blk_drewN ?_ _ | refine blk_drew ?_ | refine blk_alloc ?_ _)); exact BK235.out) k_ hk, Kd.freshB (g := gb255) (o := .cells #[.bool true, .int .i64 0] 43 (0, 0)) (by (with_reducible repeat (first | refine blk_drewN ?_ _ | refine blk_drew ?_ | refine blk_alloc ?_ _)); exact BK255.out) k_ hk⟩)); (case aO => exact (by (with_reducible repeat (first | apply Kd.S_alloc | apply Kd.S_drewN | apply Kd.S_drew)); exact Kd.S_mono HO_11.out (fun k_ hk => ⟨⟨hk.1.1.1, ⟨hk.1.1.2, hk.1.2⟩⟩, fun e_ => hk.2 e_⟩))); (case aS => exact (below_size (by repeat (first | (with_reducible first | exact HB.out | apply below_alloc | apply pw_below_drewN | apply below_drew1 | refine below_set ?_ GE235.out | refine below_set ?_ GE243.out | refine below_set ?_ GE255.out) | exact HB.out)))); (case aL => have := LMc84.out; omega); intro v267 w98 ho hb hg hat; rw [← Ny266.out] at ho; have n0_ := Aside0.mk (Kd.R_over' (by (with_reducible repeat (first | apply Kd.R_alloc | apply Kd.R_drewN | apply Kd.R_drew)); exact HO_47.out) (Kd.S_typed (by (with_reducible repeat (first | apply Kd.S_alloc | apply Kd.S_drewN | apply Kd.S_drew)); exact HO_11.out)) (by decide) hg); have n1_ := Aside0.mk (blk_grown (g := gb235) (o := .cells #[.bool ((rd_T43 t231 x49_3).f0), .int .i64 ((rd_T43 t231 x49_3).f1)] 43 (0, 0)) (by (with_reducible repeat (first | refine blk_drewN ?_ _ | refine blk_drew ?_ | refine blk_alloc ?_ _)); exact BK235.out) hg (Kd.S_ne HO_11.out BK235.out (by decide))); have n2_ := Aside0.mk (blk_grown (g := gb243) (o := .cells #[.int .i64 x244000_4, .int .i64 x244001_4, .int .i64 x244002_4, .bool x244003_4, .int .i64 x244004_4, .bool x244005_4, .int .i64 x244006_4] 55 (0, 0)) (by (with_reducible repeat (first | refine blk_drewN ?_ _ | refine blk_drew ?_ | refine blk_alloc ?_ _)); exact BK243.out) hg (Kd.S_ne HO_11.out BK243.out (by decide))); have n3_ := Aside0.mk (blk_grown (g := gb255) (o := .cells #[.bool true, .int .i64 0] 43 (0, 0)) (by (with_reducible repeat (first | refine blk_drewN ?_ _ | refine blk_drew ?_ | refine blk_alloc ?_ _)); exact BK255.out) hg (Kd.S_ne HO_11.out BK255.out (by decide))); have n4_ := Aside0.mk (hb); have n5_ := Aside0.mk (ho); clear HO_47; clear BK235; clear BK243; clear BK255; clear HB; clear HO_11; clear HO265; have HO_47 := n0_; have BK235 := n1_; have BK243 := n2_; have BK255 := n3_; have HB := n4_; have HO268 := n5_; clear n0_ n1_ n2_ n3_ n4_ n5_; clear ho hb hg hat))
                 go_roundg k4
                 case measure => have := HJ3.out; have := HK2.out; have := HK3.out; have := HK4.out; omega
                 case rel => exact ⟨(y266), (wrap64 (x49_3 + 1)), (by first | rfl | (simp; done) | (simp [*]; done)), H', ⟨by have := HJ3.out; have := HK2.out; have := HK3.out; have := HK4.out; omega⟩, ⟨by (with_reducible repeat (first | apply Kd.S_alloc | apply Kd.S_drewN | apply Kd.S_drew)); exact Kd.S_mono HO268.out (fun _ hk => hk.1)⟩, ⟨by (with_reducible repeat (first | apply Kd.R_alloc | apply Kd.R_drewN | apply Kd.R_drew)); exact Kd.R_mono HO_47.out (fun _ hk => trivial)⟩, ⟨by repeat (first | (with_reducible first | exact HB.out | apply below_alloc | apply pw_below_drewN | apply below_drew1 | refine below_set ?_ GE235.out | refine below_set ?_ GE243.out | refine below_set ?_ GE255.out) | exact HB.out)⟩⟩
                ·rw [if_neg c84] at H
                 exact absurd H (by simp)
           ·rw [if_neg c29] at H
            exact absurd H (by simp)
          ·rw [if_neg c28] at H
           exact absurd H (by simp)
         ·rw [if_neg c27] at H
          have c27b0 : decide (x49_3 < (t231.length : Int)) = false := decide_eq_false c27
          clear c27
          simp only [Option.some.injEq, Prod.mk.injEq] at H
          obtain ⟨rfl, rfl⟩ := H
          go_wp2
          go_ret2
          exact ⟨_, by first | rfl | (simp [errW_none, errW_some] <;> rfl) | (simp [*, errW_none, errW_some] <;> rfl), by (with_reducible repeat (first | apply Kd.S_alloc | apply Kd.S_drewN | apply Kd.S_drew)); exact Kd.S_mono HO_11.out (fun _ hk => trivial), by repeat (first | (with_reducible first | exact HB.out | apply below_alloc | apply pw_below_drewN | apply below_drew1) | exact HB.out)⟩
end Go.Proofs.Ytmlbihhaikknnaa.Pr
