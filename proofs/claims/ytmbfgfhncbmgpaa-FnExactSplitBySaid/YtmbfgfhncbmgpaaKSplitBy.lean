/- Several small texts together: USplitBy, LSplitBy, KSplitBy. No condition but those they name. -/
import Derived.Test.YtmbfgfhncbmgpaaPr0
import Derived.Test.YtmbfgfhncbmgpaaPr3
import Derived.Test.YtmbfgfhncbmgpaaPr6
import Derived.Test.YtmbfgfhncbmgpaaMerge1
import Derived.Test.YtmbfgfhncbmgpaaPr2
import Derived.Test.YtmbfgfhncbmgpaaIv
/- The law FnExactSplitBy: what both sides come to, over numbers and lists alone. No condition. -/
namespace Go.Proofs.Ytmbfgfhncbmgpaa.Pu
open Go.RowKit Go.Proofs.Ytmbfgfhncbmgpaa.Pr Go.Proofs.Ytmbfgfhncbmgpaa.Pl Go.Proofs.Ytmbfgfhncbmgpaa.Ax Go.Proofs.YtmbfgfhncbmgpaaW.PrintWords Go.Proofs.YtmbfgfhncbmgpaaW.PrintLast Go.Proofs.YtmbfgfhncbmgpaaW.PrintMore
set_option linter.unusedVariables false
set_option linter.unusedSimpArgs false
theorem puts_length (a : List Int) : ∀ b : List Int, (puts a b).length ≤ a.length + b.length := by
  intro b
  induction b generalizing a with
  | nil => simp [puts]
  | cons x xs ih =>
    have h1 := ih (ins a x)
    have h2 := ins_length x a
    have h3 : puts a (x :: xs) = puts (ins a x) xs := rfl
    rw [h3, List.length_cons]
    omega
theorem gdV_one {a : Int} {f t : List Int} : gdV a [⟨f, t⟩] = true ↔ (1 ≤ a ∧ a ≤ 6) ∧ okD a ⟨f, t⟩ = true := by
  unfold gdV
  simp only [Bool.and_eq_true, win_iff, List.all_cons, List.all_nil, Bool.and_true, List.length_cons, List.length_nil]
  simp
/-- The parts are given as both sides want them. -/
def spC (a : Int) (p f t : List Int) : Prop := (1 ≤ a ∧ a ≤ 6) ∧ rs 0 (wrap64 (a - 1)) none p = true ∧ okD a ⟨f, t⟩ = true ∧ sub f p = true ∧ sub t p = true
def spV (p f t : List Int) : List Int × List Int × Bool := if ((f.filter fun x => t.contains x).length : Int) > 0 then ([], [], false) else (puts f t, p.filter fun x => !t.contains x, true)
theorem spS_ev (a : Int) (p f t : List Int) (hp : OkIntS p) (hf : OkIntS f) (ht : OkIntS t) : (spC a p f t → Ev (fun k => spec_SplitBy.f k a p f t) (spV p f t)) ∧ (¬ spC a p f t → Ev (fun k => spec_SplitBy.f k a p f t) ([], [], false)) := by
  have no : ∀ b : Bool, b = true → Ev (fun k => spec_SplitBy.j0 k p b f t) ([], [], false) := fun b hb => by
    subst hb
    refine ev_succ ?_
    simp only [spec_SplitBy.j0, if_true]
    exact ev_now rfl
  have hO : OkDepS [(⟨f, t⟩ : S32)] := ⟨by simp, fun e he => by
    have := List.mem_singleton.1 he
    subst this
    exact ⟨hf, ht⟩⟩
  simp only [spec_SplitBy.f]
  constructor
  · intro h
    obtain ⟨⟨h1, h6⟩, h2, h3, h4, h5⟩ := h
    have hd : GL a f ∧ GL a t := (okD_iff h1 h6 ⟨f, t⟩).1 h3
    have hpg := GL_of_rs h1 h6 h2
    have lp := GL_len (by omega) hpg
    have lf := GL_len (by omega) hd.1
    have lt_ := GL_len (by omega) hd.2
    refine Ev.bind (l6Part_ev a _ p hO hp.1) ?_
    rw [gdV_one.2 ⟨⟨h1, h6⟩, h3⟩, h2]
    simp only [Bool.and_self, if_true]
    refine Ev.bind (l5Sub_ev f p (by omega) (by omega)) ?_
    rw [h4]
    simp only [if_true]
    refine Ev.bind (l5Sub_ev t p (by omega) (by omega)) ?_
    rw [h5]
    simp only [if_true]
    refine Ev.bind (l6Both_ev f t (by omega) (by omega)) ?_
    unfold spV
    by_cases hq : ((f.filter fun x => t.contains x).length : Int) > 0
    · rw [if_pos hq]
      exact no _ (decide_eq_true hq)
    · rw [if_neg hq, decide_eq_false hq]
      refine ev_succ ?_
      simp only [spec_SplitBy.j0, Bool.false_eq_true, if_false]
      exact Ev.bind (l6Either_ev f t (by omega)) (Ev.bind (l6Less_ev p t (by omega) (by omega)) (ev_now rfl))
  · intro h
    refine Ev.bind (l6Part_ev a _ p hO hp.1) (Ev_ite (fun e => ?_) (fun e => no _ rfl))
    rw [Bool.and_eq_true, gdV_one] at e
    obtain ⟨⟨⟨h1, h6⟩, h3⟩, h2⟩ := e
    have hd : GL a f ∧ GL a t := (okD_iff h1 h6 ⟨f, t⟩).1 h3
    have lp := GL_len (by omega) (GL_of_rs h1 h6 h2)
    have lf := GL_len (by omega) hd.1
    have lt_ := GL_len (by omega) hd.2
    refine Ev.bind (l5Sub_ev f p (by omega) (by omega)) (Ev_ite (fun e4 => ?_) (fun e4 => no _ rfl))
    refine Ev.bind (l5Sub_ev t p (by omega) (by omega)) (Ev_ite (fun e5 => ?_) (fun e5 => no _ rfl))
    exact absurd ⟨⟨h1, h6⟩, h2, h3, e4, e5⟩ h
theorem spI_ev (a : Int) (p f t : List Int) (hp : OkIntS p) (hf : OkIntS f) (ht : OkIntS t) : (spC a p f t → Ev (fun k => impl_SplitBy.f k a p f t) (spV p f t)) ∧ (¬ spC a p f t → Ev (fun k => impl_SplitBy.f k a p f t) ([], [], false)) := by
  have no : ∀ b : Bool, b = true → Ev (fun k => impl_SplitBy.j0 k p b f t) ([], [], false) := fun b hb => by
    subst hb
    refine ev_succ ?_
    simp only [impl_SplitBy.j0, if_true]
    exact ev_now rfl
  simp only [impl_SplitBy.f, within_eq, Option.bind_some]
  constructor
  · intro h
    obtain ⟨⟨h1, h6⟩, h2, h3, h4, h5⟩ := h
    have hd : GL a f ∧ GL a t := (okD_iff h1 h6 ⟨f, t⟩).1 h3
    have hpg := GL_of_rs h1 h6 h2
    have lp := GL_len (by omega) hpg
    have lf := GL_len (by omega) hd.1
    have lt_ := GL_len (by omega) hd.2
    rw [(win_iff a 1 6).2 ⟨h1, h6⟩]
    simp only [if_true]
    refine Ev.bind (areCols_ev a p hp.1) ?_
    rw [h2]
    simp only [if_true]
    refine Ev.bind (isPart_ev f p hf.1 hp.1) ?_
    rw [pt_sub h1 h6 hpg, rs_of_GL h1 h6 hd.1, h4]
    simp only [Bool.and_self, if_true]
    refine Ev.bind (isPart_ev t p ht.1 hp.1) ?_
    rw [pt_sub h1 h6 hpg, rs_of_GL h1 h6 hd.2, h5]
    simp only [Bool.and_self, if_true, impl_both.f, if_pos (show f.length * 8 ≤ 140737488355328 by omega), Option.bind_some]
    unfold spV
    by_cases hq : ((f.filter fun x => t.contains x).length : Int) > 0
    · rw [if_pos hq]
      exact no _ (decide_eq_true hq)
    · rw [if_neg hq, decide_eq_false hq]
      refine ev_succ ?_
      simp only [impl_SplitBy.j0, Bool.false_eq_true, if_false, impl_together.f, if_pos (show (f.length + t.length) * 8 ≤ 140737488351232 by omega), Option.bind_some, tog_puts hd.1.1, impl_without.f, if_pos (show p.length * 8 ≤ 140737488355328 by omega)]
      exact ev_now rfl
  · intro h
    refine Ev_ite (fun e => ?_) (fun e => no _ rfl)
    rw [win_iff] at e
    obtain ⟨h1, h6⟩ := e
    refine Ev.bind (areCols_ev a p hp.1) (Ev_ite (fun e2 => ?_) (fun e2 => no _ rfl))
    have hpg := GL_of_rs h1 h6 e2
    refine Ev.bind (isPart_ev f p hf.1 hp.1) (Ev_ite (fun e3 => ?_) (fun e3 => no _ rfl))
    refine Ev.bind (isPart_ev t p ht.1 hp.1) (Ev_ite (fun e4 => ?_) (fun e4 => no _ rfl))
    rw [pt_sub h1 h6 hpg, Bool.and_eq_true] at e3 e4
    exact absurd ⟨⟨h1, h6⟩, e2, (okD_iff h1 h6 _).2 ⟨GL_of_rs h1 h6 e3.1, GL_of_rs h1 h6 e4.1⟩, e3.2, e4.2⟩ h
theorem SplitBy_both (a : Int) (p f t : List Int) (hp : BdIntS p) (hf : BdIntS f) (ht : BdIntS t) : ∃ (y0 y1 : List Int) (b : Bool), Ev (fun k => spec_SplitBy.f k a p f t) (y0, y1, b) ∧ Ev (fun k => impl_SplitBy.f k a p f t) (y0, y1, b) ∧ BdIntS y0 ∧ BdIntS y1 := by
  have s := spS_ev a p f t (ok_IntS hp) (ok_IntS hf) (ok_IntS ht)
  have i := spI_ev a p f t (ok_IntS hp) (ok_IntS hf) (ok_IntS ht)
  have b0 : BdIntS [] := ⟨by simp, fun _ _ => trivial⟩
  by_cases h : spC a p f t
  · have s1 := s.1 h
    have i1 := i.1 h
    unfold spV at s1 i1
    obtain ⟨⟨h1, h6⟩, h2, h3, h4, h5⟩ := h
    have hd : GL a f ∧ GL a t := (okD_iff h1 h6 ⟨f, t⟩).1 h3
    have lf := GL_len (by omega) hd.1
    have lt_ := GL_len (by omega) hd.2
    have hl := puts_length f t
    by_cases hq : ((f.filter fun x => t.contains x).length : Int) > 0
    · rw [if_pos hq] at s1 i1
      exact ⟨_, _, _, s1, i1, b0, b0⟩
    · rw [if_neg hq] at s1 i1
      exact ⟨_, _, _, s1, i1, ⟨by omega, fun _ _ => trivial⟩, ⟨by have := List.length_filter_le (fun x => !t.contains x) p; have := hp.1; omega, fun _ _ => trivial⟩⟩
  · exact ⟨_, _, _, s.2 h, i.2 h, b0, b0⟩
end Go.Proofs.Ytmbfgfhncbmgpaa.Pu

/- The walk of the law SplitBy, given what its callees come to: it returns true and leaves what lay ahead of it. Written by lawk.py. Conditions: the equations of the callees. -/
namespace Go.Proofs.Ytmbfgfhncbmgpaa.L
open Go.RowKit Go.Proofs.Ytmbfgfhncbmgpaa Go.Proofs.Ytmbfgfhncbmgpaa.Pr Go.Proofs.YtmbfgfhncbmgpaaW.PrintWords Go.Proofs.YtmbfgfhncbmgpaaW.PrintLast Go.Proofs.YtmbfgfhncbmgpaaW.PrintMore
set_option linter.unusedVariables false
set_option linter.unusedSimpArgs false
set_option maxHeartbeats 4000000 in
set_option maxRecDepth 100000 in
theorem SplitBy_len0 (a0 : Int) (A1 : Option Addr) (c1 : Nat) (l1 : (List Int)) (A2_0 : Option Addr) (c2_0 : Nat) (l2_0 : (List Int)) (A2_1 : Option Addr) (c2_1 : Nat) (l2_1 : (List Int)) (w : World) (HR1 : Aside0 (Kd.C (Kd.int .i64) w A1 l1.length l1)) (HC1 : Aside0 (l1.length ≤ c1)) (HR2_0 : Aside0 (Kd.C (Kd.int .i64) w A2_0 l2_0.length l2_0)) (HC2_0 : Aside0 (l2_0.length ≤ c2_0)) (HR2_1 : Aside0 (Kd.C (Kd.int .i64) w A2_1 l2_1.length l2_1)) (HC2_1 : Aside0 (l2_1.length ≤ c2_1)) (g_ : decide (1048576 < (l1.length : Int)) = true) (g2_ : decide (1048576 < l1.length) = true) :
    Calls Try.prog 4 #[.int .i64 a0, .slice A1 l1.length c1, .agg #[.slice A2_0 l2_0.length c2_0, .slice A2_1 l2_1.length c2_1]] w fun e w' => e = .returned (.bool true) ∧ Below w.heap.size w w' := by
  have HB := Aside0.mk (Below.refl w.heap.size w)
  have bx1_ : World.cell? (World.alloc w (.cells #[.slice A2_0 (List.length l2_0) c2_0, .slice A2_1 (List.length l2_1) c2_1] 25)) ⟨w.heap.size, 0, none⟩ = some (.slice A2_0 (List.length l2_0) c2_0) := Bx.box_new _ _ _ _ _ rfl
  have bx2_ : World.cell? (World.alloc w (.cells #[.slice A2_0 (List.length l2_0) c2_0, .slice A2_1 (List.length l2_1) c2_1] 25)) ⟨w.heap.size, 1, none⟩ = some (.slice A2_1 (List.length l2_1) c2_1) := Bx.box_new _ _ _ _ _ rfl
  have hal_ := below_alloc (Below.refl (World.heap w).size w) (.cells #[.slice A2_0 (List.length l2_0) c2_0, .slice A2_1 (List.length l2_1) c2_1] 25)
  replace HB := Aside0.mk (below_alloc HB.out (.cells #[.slice A2_0 (List.length l2_0) c2_0, .slice A2_1 (List.length l2_1) c2_1] 25))
  clear hal_
  go_enter Try.func4, Try.ntmps4
  go_wp2
  go_ret
  exact ⟨rfl, HB.out⟩
set_option maxHeartbeats 4000000 in
set_option maxRecDepth 100000 in
theorem SplitBy_sz0 (a0 : Int) (A1 : Option Addr) (c1 : Nat) (l1 : (List Int)) (A2_0 : Option Addr) (c2_0 : Nat) (l2_0 : (List Int)) (A2_1 : Option Addr) (c2_1 : Nat) (l2_1 : (List Int)) (s1 : Int) (w : World) (HR1 : Aside0 (Kd.C (Kd.int .i64) w A1 l1.length l1)) (HC1 : Aside0 (l1.length ≤ c1)) (HR2_0 : Aside0 (Kd.C (Kd.int .i64) w A2_0 l2_0.length l2_0)) (HC2_0 : Aside0 (l2_0.length ≤ c2_0)) (HR2_1 : Aside0 (Kd.C (Kd.int .i64) w A2_1 l2_1.length l2_1)) (HC2_1 : Aside0 (l2_1.length ≤ c2_1)) (H1 : Aside0 (laws_szDep.f l2_0 l2_1 1048576 = some s1)) (d0 : decide (1048576 < (l1.length : Int)) = false) (d1 : decide (1048576 < l1.length) = false) (d2 : decide (s1 < 0) = true) :
    Calls Try.prog 4 #[.int .i64 a0, .slice A1 l1.length c1, .agg #[.slice A2_0 l2_0.length c2_0, .slice A2_1 l2_1.length c2_1]] w fun e w' => e = .returned (.bool true) ∧ Below w.heap.size w w' := by
  have HB := Aside0.mk (Below.refl w.heap.size w)
  have bx1_ : World.cell? (World.alloc w (.cells #[.slice A2_0 (List.length l2_0) c2_0, .slice A2_1 (List.length l2_1) c2_1] 25)) ⟨w.heap.size, 0, none⟩ = some (.slice A2_0 (List.length l2_0) c2_0) := Bx.box_new _ _ _ _ _ rfl
  have bx2_ : World.cell? (World.alloc w (.cells #[.slice A2_0 (List.length l2_0) c2_0, .slice A2_1 (List.length l2_1) c2_1] 25)) ⟨w.heap.size, 1, none⟩ = some (.slice A2_1 (List.length l2_1) c2_1) := Bx.box_new _ _ _ _ _ rfl
  have hal_ := below_alloc (Below.refl (World.heap w).size w) (.cells #[.slice A2_0 (List.length l2_0) c2_0, .slice A2_1 (List.length l2_1) c2_1] 25)
  replace HB := Aside0.mk (below_alloc HB.out (.cells #[.slice A2_0 (List.length l2_0) c2_0, .slice A2_1 (List.length l2_1) c2_1] 25))
  clear hal_
  go_enter Try.func4, Try.ntmps4
  go_wp2_with (first | (go_at_call 13; with_reducible refine (laws_szDep.calls _ _ l2_0 _ _ l2_1 1048576 s1 _ ?s1_1 ?s1_2 ?s1_3 ?s1_4 H1.out).mono ?_; (case s1_1 => exact Kd.C_below HR2_0.out HB.out); (case s1_2 => exact HC2_0.out); (case s1_3 => exact Kd.C_below HR2_1.out HB.out); (case s1_4 => exact HC2_1.out); rintro e w1 ⟨rfl, hb⟩; replace bx1_ := Bx.box_later bx1_ hb; replace bx2_ := Bx.box_later bx2_ hb; replace HB := Aside0.mk (below_step HB.out hb); clear hb))
  go_ret
  exact ⟨rfl, HB.out⟩
set_option maxHeartbeats 40000000 in
set_option maxRecDepth 100000 in
theorem SplitBy (a0 : Int) (A1 : Option Addr) (c1 : Nat) (l1 : (List Int)) (A2_0 : Option Addr) (c2_0 : Nat) (l2_0 : (List Int)) (A2_1 : Option Addr) (c2_1 : Nat) (l2_1 : (List Int)) (s1 : Int) (x1_0 : (List Int)) (k2 : Nat) (x2_0 : (List Int)) (x2_1 : (List Int)) (k3 : Nat) (y0_0 : (List Int)) (y1_0 : (List Int)) (y2 : Bool) (k4 : Nat) (k5 : Nat) (k6 : Nat) (k7 : Nat) (k8 : Nat) (k9 : Nat) (M1 : Int) (M2 : Int) (M3 : Int) (M4 : Int) (k10 : Nat) (k11 : Nat) (w : World) (HR1 : Aside0 (Kd.C (Kd.int .i64) w A1 l1.length l1)) (HC1 : Aside0 (l1.length ≤ c1)) (HR2_0 : Aside0 (Kd.C (Kd.int .i64) w A2_0 l2_0.length l2_0)) (HC2_0 : Aside0 (l2_0.length ≤ c2_0)) (HR2_1 : Aside0 (Kd.C (Kd.int .i64) w A2_1 l2_1.length l2_1)) (HC2_1 : Aside0 (l2_1.length ≤ c2_1)) (H1 : Aside0 (laws_szDep.f l2_0 l2_1 1048576 = some s1)) (H2 : Aside0 (laws_toIntS.f k2 l1 = some x1_0)) (H3 : Aside0 (laws_toDep.f k3 l2_0 l2_1 = some (x2_0, x2_1))) (H4 : Aside0 (spec_SplitBy.f k4 a0 x1_0 x2_0 x2_1 = some (y0_0, y1_0, y2))) (H5 : Aside0 (impl_SplitBy.f k5 a0 x1_0 x2_0 x2_1 = some (y0_0, y1_0, y2))) (H6 : Aside0 (laws_eqIntS.f k6 y0_0 y0_0 = some true)) (H7 : Aside0 (laws_eqIntS.f k7 y1_0 y1_0 = some true)) (H8 : Aside0 (laws_eqIntS.f k8 x1_0 x1_0 = some true)) (H9 : Aside0 (laws_eqDep.f k9 x2_0 x2_1 x2_0 x2_1 = some true)) (H10 : Aside0 (laws_heldIntS.f k10 (Ax.mkIntS y0_0 1) 1 = some M3)) (H11 : Aside0 (laws_heldIntS.f k11 (Ax.mkIntS y1_0 M3) M3 = some M4)) (d0 : decide (1048576 < (l1.length : Int)) = false) (d1 : decide (1048576 < l1.length) = false) (d2 : decide (s1 < 0) = false) (d3 : decide (M1 < 0) = false) (d4 : decide (M2 < 0) = false) (d5 : decide (M3 < 0) = false) (d6 : decide (M4 < 0) = false) (HMM10 : Aside0 ((0 : Int) ≤ 1)) (HMM11 : Aside0 ((1 : Int) + (Ax.cntIntS x1_0 : Nat) = M1 ∧ M1 < 9223372036854775807)) (HMM20 : Aside0 ((0 : Int) ≤ M1)) (HMM21 : Aside0 ((M1 : Int) + (Ax.cntDep x2_0 x2_1 : Nat) = M2 ∧ M2 < 9223372036854775807)) (HMM30 : Aside0 ((0 : Int) ≤ 1)) (HMM31 : Aside0 ((1 : Int) + (Ax.cntIntS y0_0 : Nat) = M3 ∧ M3 < 9223372036854775807)) (HMM40 : Aside0 ((0 : Int) ≤ M3)) (HMM41 : Aside0 ((M3 : Int) + (Ax.cntIntS y1_0 : Nat) = M4 ∧ M4 < 9223372036854775807)) :
    Calls Try.prog 4 #[.int .i64 a0, .slice A1 l1.length c1, .agg #[.slice A2_0 l2_0.length c2_0, .slice A2_1 l2_1.length c2_1]] w fun e w' => e = .returned (.bool true) ∧ Below w.heap.size w w' := by
  have HB := Aside0.mk (Below.refl w.heap.size w)
  have bx1_ : World.cell? (World.alloc w (.cells #[.slice A2_0 (List.length l2_0) c2_0, .slice A2_1 (List.length l2_1) c2_1] 25)) ⟨w.heap.size, 0, none⟩ = some (.slice A2_0 (List.length l2_0) c2_0) := Bx.box_new _ _ _ _ _ rfl
  have bx2_ : World.cell? (World.alloc w (.cells #[.slice A2_0 (List.length l2_0) c2_0, .slice A2_1 (List.length l2_1) c2_1] 25)) ⟨w.heap.size, 1, none⟩ = some (.slice A2_1 (List.length l2_1) c2_1) := Bx.box_new _ _ _ _ _ rfl
  have hal_ := below_alloc (Below.refl (World.heap w).size w) (.cells #[.slice A2_0 (List.length l2_0) c2_0, .slice A2_1 (List.length l2_1) c2_1] 25)
  replace HB := Aside0.mk (below_alloc HB.out (.cells #[.slice A2_0 (List.length l2_0) c2_0, .slice A2_1 (List.length l2_1) c2_1] 25))
  clear hal_
  go_enter Try.func4, Try.ntmps4
  go_wp2_with (first | (go_at_call 13; with_reducible refine (laws_szDep.calls _ _ l2_0 _ _ l2_1 1048576 s1 _ ?s1_1 ?s1_2 ?s1_3 ?s1_4 H1.out).mono ?_; (case s1_1 => exact Kd.C_below HR2_0.out HB.out); (case s1_2 => exact HC2_0.out); (case s1_3 => exact Kd.C_below HR2_1.out HB.out); (case s1_4 => exact HC2_1.out); rintro e w1 ⟨rfl, hb⟩; replace bx1_ := Bx.box_later bx1_ hb; replace bx2_ := Bx.box_later bx2_ hb; replace HB := Aside0.mk (below_step HB.out hb); clear hb))
  refine Bx.start_any (n := 13) (S := fun w_ => World.cell? w_ ⟨w.heap.size, 0, none⟩ = some (.slice A2_0 (List.length l2_0) c2_0) ∧ World.cell? w_ ⟨w.heap.size, 1, none⟩ = some (.slice A2_1 (List.length l2_1) c2_1)) (ds := []) #[false, false, false, false, false, false, false, false, false, false, false, false, false] (by kernel_rfl) rfl rfl ⟨bx1_, bx2_⟩ (fun w2 hb hHeld => ?_)
  replace bx1_ := Bx.box_later bx1_ hb
  replace bx2_ := Bx.box_later bx2_ hb
  replace HB := Aside0.mk (below_step HB.out hb)
  clear hb
  refine take_ (i := 0) (N := some 31) (v := ?_) (a' := ?_) #[true, false, false, false, false, false, false, false, false, false, false, false, false] rfl rfl (by kernel_rfl) (fun _ _ _ h => h) (Or.inl ⟨by rfl, ?_⟩) hHeld ?_ ?_
  rotate_left
  · rintro w' ⟨s0_, s1_⟩
    go_simp
    with_reducible rfl
  rotate_left
  · simp only [Act.put, List.setIfInBounds_toArray, List.set_cons_zero, List.set_cons_succ, i64_w, i32_w]
    rfl
  refine take_ (i := 1) (N := some 32) (v := ?_) (a' := ?_) #[true, true, false, false, false, false, false, false, false, false, false, false, false] rfl rfl (by kernel_rfl) (fun _ _ _ h => h) (Or.inl ⟨by rfl, ?_⟩) hHeld ?_ ?_
  rotate_left
  · rintro w' ⟨s0_, s1_⟩
    go_simp
    with_reducible rfl
  rotate_left
  · simp only [Act.put, List.setIfInBounds_toArray, List.set_cons_zero, List.set_cons_succ, i64_w, i32_w]
    rfl
  refine take_ (i := 3) (N := some 34) (v := ?_) (a' := ?_) #[true, true, false, true, false, false, false, false, false, false, false, false, false] rfl rfl (by kernel_rfl) (fun _ _ _ h => h) (Or.inl ⟨by rfl, ?_⟩) hHeld ?_ ?_
  rotate_left
  · rintro w' ⟨s0_, s1_⟩
    go_simp
    with_reducible rfl
  rotate_left
  · simp only [Act.put, List.setIfInBounds_toArray, List.set_cons_zero, List.set_cons_succ, i64_w, i32_w]
    rfl
  refine one_ (i := 2) (N := some 33) #[true, true, true, true, false, false, false, false, false, false, false, false, false] rfl rfl (by kernel_rfl) (by decide) (fun K hK => ?_)
  refine goes_ Try.func21 (by kernel_rfl) rfl #[.slice A1 l1.length c1] (by rfl) rfl rfl (by (try simp only [List.map_toArray, List.map_cons, List.map_nil]); first | done | rfl | (simp only [List.length_drop, List.length_take]; rfl)) ?_
  with_reducible refine (laws_toIntS.calls k2 _ _ l1 x1_0 _ ?s3_1 ?s3_2 H2.out).mono ?_
  (case s3_1 => exact Kd.C_below HR1.out HB.out)
  (case s3_2 => exact HC1.out)
  rintro e w3 ⟨v3_0, rfl, ho0, hb⟩
  refine ⟨_, rfl, ?_⟩
  have new_ : ∃ lo3 hi3 : Nat, Iv.Ob (Kd.int .i64) 3 w3 lo3 hi3 (fun k_ => True) v3_0 x1_0 ∧ w.heap.size ≤ lo3 ∧ w.heap.size < lo3 := ⟨_, _, Iv.Ob.of_Rint ho0 (fun _ h_ => h_), (below_size HB.out), (Bx.box_lt bx1_)⟩
  obtain ⟨lo3, hi3, o0_, d_w, f_PaD⟩ := new_
  replace bx1_ := Bx.box_later bx1_ hb
  replace bx2_ := Bx.box_later bx2_ hb
  replace HB := Aside0.mk (below_step HB.out hb)
  clear hb ho0
  obtain ⟨B3_0, e3_0, rfl⟩ := Iv.Ob.slice o0_
  have O3_0 := Aside0.mk o0_
  clear o0_
  have DW_t3 := Aside0.mk d_w
  clear d_w
  have F_PaD_t3 := Aside0.mk f_PaD
  clear f_PaD
  refine hK.out _ _ ⟨bx1_, bx2_⟩ (fun hHeld => ?_)
  clear hK K
  refine norm_ (a' := ?_) ?_ ?_
  rotate_left
  · show Act.put _ (some 33) _ = _
    simp only [Act.put, List.setIfInBounds_toArray, List.set_cons_zero, List.set_cons_succ, i64_w, i32_w]
    rfl
  refine one_ (i := 4) (N := some 35) #[true, true, true, true, true, false, false, false, false, false, false, false, false] rfl rfl (by kernel_rfl) (by decide) (fun K hK => ?_)
  refine goes_ Try.func16 (by kernel_rfl) rfl #[.agg #[.slice A2_0 l2_0.length c2_0, .slice A2_1 l2_1.length c2_1]] (by rfl) rfl rfl (by (try simp only [List.map_toArray, List.map_cons, List.map_nil]); first | done | rfl | (simp only [List.length_drop, List.length_take]; rfl)) ?_
  with_reducible refine (laws_toDep.calls k3 _ _ l2_0 _ _ l2_1 x2_0 x2_1 _ ?s4_1 ?s4_2 ?s4_3 ?s4_4 H3.out).mono ?_
  (case s4_1 => exact Kd.C_below HR2_0.out HB.out)
  (case s4_2 => exact HC2_0.out)
  (case s4_3 => exact Kd.C_below HR2_1.out HB.out)
  (case s4_4 => exact HC2_1.out)
  rintro e w4 ⟨v4_0, v4_1, rfl, ho0, ho1, hb⟩
  refine ⟨_, rfl, ?_⟩
  have new_ : ∃ lo4 hi4 : Nat, Iv.Ob (Kd.int .i64) 3 w4 lo4 hi4 (fun k_ => some k_ ≠ (v4_1 : Value).ownBlock) v4_0 x2_0 ∧ Iv.Ob (Kd.int .i64) 3 w4 lo4 hi4 (fun k_ => some k_ ≠ (v4_0 : Value).ownBlock) v4_1 x2_1 ∧ w.heap.size ≤ lo4 ∧ w.heap.size < lo4 ∧ hi3 ≤ lo4 := ⟨_, _, Iv.Ob.of_Rint ho0 (fun _ h_ => h_), Iv.Ob.of_Rint ho1 (fun _ h_ => h_), (below_size HB.out), (Bx.box_lt bx1_), (Iv.Ob.size O3_0.out)⟩
  obtain ⟨lo4, hi4, o0_, o1_, d_w, f_PaD, d_t3⟩ := new_
  replace O3_0 := Aside0.mk (Iv.Ob.below O3_0.out hb)
  replace bx1_ := Bx.box_later bx1_ hb
  replace bx2_ := Bx.box_later bx2_ hb
  replace HB := Aside0.mk (below_step HB.out hb)
  clear hb ho0 ho1
  obtain ⟨B4_0, e4_0, rfl⟩ := Iv.Ob.slice o0_
  have O4_0 := Aside0.mk o0_
  clear o0_
  obtain ⟨B4_1, e4_1, rfl⟩ := Iv.Ob.slice o1_
  have O4_1 := Aside0.mk o1_
  clear o1_
  have DW_t4 := Aside0.mk d_w
  clear d_w
  have D_t3_t4 := Aside0.mk d_t3
  clear d_t3
  have F_PaD_t4 := Aside0.mk f_PaD
  clear f_PaD
  refine hK.out _ _ ⟨bx1_, bx2_⟩ (fun hHeld => ?_)
  clear hK K
  refine norm_ (a' := ?_) ?_ ?_
  rotate_left
  · show Act.put _ (some 35) _ = _
    simp only [Act.put, List.setIfInBounds_toArray, List.set_cons_zero, List.set_cons_succ, i64_w, i32_w]
    rfl
  refine one_ (i := 5) (N := some 36) #[true, true, true, true, true, true, false, false, false, false, false, false, false] rfl rfl (by kernel_rfl) (by decide) (fun K hK => ?_)
  refine goes_ Try.func20 (by kernel_rfl) rfl #[.int .i64 a0, .slice B3_0 (List.length x1_0) e3_0, .agg #[.slice B4_0 (List.length x2_0) e4_0, .slice B4_1 (List.length x2_1) e4_1]] (by rfl) rfl rfl (by (try simp only [List.map_toArray, List.map_cons, List.map_nil]); first | done | rfl | (simp only [List.length_drop, List.length_take]; rfl)) ?_
  with_reducible refine (spec_SplitBy.calls k4 a0 _ _ x1_0 ?p5_P2_0 _ _ x2_0 ?p5_P2_1 _ _ x2_1 y0_0 y1_0 y2 _ ?s5_1 ?s5_2 ?s5_3 ?s5_4 H4.out).mono ?_
  (case s5_1 => exact Iv.Ob.C O3_0.out)
  (case s5_2 => exact (Iv.Ob.le O3_0.out))
  (case s5_3 => exact Iv.Ob.V O4_0.out)
  (case s5_4 => exact Iv.Ob.V O4_1.out)
  rintro e w5 ⟨v5_0, v5_1, rfl, ho0, ho1, hb⟩
  refine ⟨_, rfl, ?_⟩
  have new_ : ∃ lo5 hi5 : Nat, Iv.Ob (Kd.int .i64) 3 w5 lo5 hi5 (fun k_ => some k_ ≠ (v5_1 : Value).ownBlock) v5_0 y0_0 ∧ Iv.Ob (Kd.int .i64) 3 w5 lo5 hi5 (fun k_ => some k_ ≠ (v5_0 : Value).ownBlock) v5_1 y1_0 ∧ w.heap.size ≤ lo5 ∧ w.heap.size < lo5 ∧ hi3 ≤ lo5 ∧ hi4 ≤ lo5 := ⟨_, _, Iv.Ob.of_Rint ho0 (fun _ h_ => h_.2), Iv.Ob.of_Rint ho1 (fun _ h_ => h_.2), (below_size HB.out), (Bx.box_lt bx1_), (Iv.Ob.size O3_0.out), (Iv.Ob.size O4_0.out)⟩
  obtain ⟨lo5, hi5, o0_, o1_, d_w, f_PaD, d_t3, d_t4⟩ := new_
  replace O3_0 := Aside0.mk (Iv.Ob.below O3_0.out hb)
  replace O4_0 := Aside0.mk (Iv.Ob.below O4_0.out hb)
  replace O4_1 := Aside0.mk (Iv.Ob.below O4_1.out hb)
  replace bx1_ := Bx.box_later bx1_ hb
  replace bx2_ := Bx.box_later bx2_ hb
  replace HB := Aside0.mk (below_step HB.out hb)
  clear hb ho0 ho1
  obtain ⟨B5_0, e5_0, rfl⟩ := Iv.Ob.slice o0_
  have O5_0 := Aside0.mk o0_
  clear o0_
  obtain ⟨B5_1, e5_1, rfl⟩ := Iv.Ob.slice o1_
  have O5_1 := Aside0.mk o1_
  clear o1_
  have DW_w_ := Aside0.mk d_w
  clear d_w
  have D_t3_w_ := Aside0.mk d_t3
  clear d_t3
  have D_t4_w_ := Aside0.mk d_t4
  clear d_t4
  have F_PaD_w_ := Aside0.mk f_PaD
  clear f_PaD
  refine hK.out _ _ ⟨bx1_, bx2_⟩ (fun hHeld => ?_)
  clear hK K
  refine norm_ (a' := ?_) ?_ ?_
  rotate_left
  · show Act.put _ (some 36) _ = _
    simp only [Act.put, List.setIfInBounds_toArray, List.set_cons_zero, List.set_cons_succ, i64_w, i32_w]
    rfl
  clear O3_0
  clear O4_0
  clear O4_1
  refine pure_ (i := 6) (N := some 30) (v := ?_) (a' := ?_) #[true, true, true, true, true, true, true, false, false, false, false, false, false] rfl rfl (by kernel_rfl) (fun _ _ _ h => h) (Or.inl ⟨by rfl, ?_⟩) ?_ ?_
  rotate_left
  · intro w'
    go_simp
    with_reducible rfl
  rotate_left
  · simp only [Act.put, List.setIfInBounds_toArray, List.set_cons_zero, List.set_cons_succ, i64_w, i32_w]
    rfl
  refine pure_ (i := 7) (N := some 37) (v := ?_) (a' := ?_) #[true, true, true, true, true, true, true, true, false, false, false, false, false] rfl rfl (by kernel_rfl) (fun _ _ _ h => h) (Or.inl ⟨by rfl, ?_⟩) ?_ ?_
  rotate_left
  · intro w'
    go_simp
    with_reducible rfl
  rotate_left
  · simp only [Act.put, List.setIfInBounds_toArray, List.set_cons_zero, List.set_cons_succ, i64_w, i32_w]
    rfl
  refine pure_ (i := 8) (N := some 38) (v := ?_) (a' := ?_) #[true, true, true, true, true, true, true, true, true, false, false, false, false] rfl rfl (by kernel_rfl) (fun _ _ _ h => h) (Or.inl ⟨by rfl, ?_⟩) ?_ ?_
  rotate_left
  · intro w'
    go_simp
    with_reducible rfl
  rotate_left
  · simp only [Act.put, List.setIfInBounds_toArray, List.set_cons_zero, List.set_cons_succ, i64_w, i32_w]
    rfl
  refine pure_ (i := 9) (N := some 39) (v := ?_) (a' := ?_) #[true, true, true, true, true, true, true, true, true, true, false, false, false] rfl rfl (by kernel_rfl) (fun _ _ _ h => h) (Or.inl ⟨by rfl, ?_⟩) ?_ ?_
  rotate_left
  · intro w'
    go_simp
    with_reducible rfl
  rotate_left
  · simp only [Act.put, List.setIfInBounds_toArray, List.set_cons_zero, List.set_cons_succ, i64_w, i32_w]
    rfl
  refine pure_ (i := 10) (N := some 8) (v := ?_) (a' := ?_) #[true, true, true, true, true, true, true, true, true, true, true, false, false] rfl rfl (by kernel_rfl) (fun _ _ _ h => h) (Or.inl ⟨by rfl, ?_⟩) ?_ ?_
  rotate_left
  · intro w'
    go_simp
    with_reducible rfl
  rotate_left
  · simp only [Act.put, List.setIfInBounds_toArray, List.set_cons_zero, List.set_cons_succ, i64_w, i32_w]
    rfl
  refine pure_ (i := 11) (N := some 9) (v := ?_) (a' := ?_) #[true, true, true, true, true, true, true, true, true, true, true, true, false] rfl rfl (by kernel_rfl) (fun _ _ _ h => h) (Or.inl ⟨by rfl, ?_⟩) ?_ ?_
  rotate_left
  · intro w'
    go_simp
    with_reducible rfl
  rotate_left
  · simp only [Act.put, List.setIfInBounds_toArray, List.set_cons_zero, List.set_cons_succ, i64_w, i32_w]
    rfl
  refine pure_ (i := 12) (N := some 10) (v := ?_) (a' := ?_) #[true, true, true, true, true, true, true, true, true, true, true, true, true] rfl rfl (by kernel_rfl) (fun _ _ _ h => h) (Or.inl ⟨by rfl, ?_⟩) ?_ ?_
  rotate_left
  · intro w'
    go_simp
    with_reducible rfl
  rotate_left
  · simp only [Act.put, List.setIfInBounds_toArray, List.set_cons_zero, List.set_cons_succ, i64_w, i32_w]
    rfl
  refine done_ (by kernel_rfl) ?_
  go_wp2_with (first | (go_at_call 21; with_reducible refine (laws_toIntS.calls k2 _ _ l1 x1_0 _ ?s6_1 ?s6_2 H2.out).mono ?_; (case s6_1 => exact Kd.C_below HR1.out HB.out); (case s6_2 => exact HC1.out); rintro e w6 ⟨v6_0, rfl, ho0, hb⟩; have new_ : ∃ lo6 hi6 : Nat, Iv.Ob (Kd.int .i64) 3 w6 lo6 hi6 (fun k_ => True) v6_0 x1_0 ∧ w.heap.size ≤ lo6 ∧ w.heap.size < lo6 ∧ hi5 ≤ lo6 := ⟨_, _, Iv.Ob.of_Rint ho0 (fun _ h_ => h_), (below_size HB.out), (Bx.box_lt bx1_), (Iv.Ob.size O5_0.out)⟩; obtain ⟨lo6, hi6, o0_, d_w, f_PaD, d_w_⟩ := new_; replace O5_0 := Aside0.mk (Iv.Ob.below O5_0.out hb); replace O5_1 := Aside0.mk (Iv.Ob.below O5_1.out hb); replace bx1_ := Bx.box_later bx1_ hb; replace bx2_ := Bx.box_later bx2_ hb; replace HB := Aside0.mk (below_step HB.out hb); clear hb ho0; obtain ⟨B6_0, e6_0, rfl⟩ := Iv.Ob.slice o0_; have O6_0 := Aside0.mk o0_; clear o0_; have DW_x1 := Aside0.mk d_w; clear d_w; have D_w__x1 := Aside0.mk d_w_; clear d_w_; have F_PaD_x1 := Aside0.mk f_PaD; clear f_PaD))
  go_wp2_with (first | (go_at_call 16; with_reducible refine (laws_toDep.calls k3 _ _ l2_0 _ _ l2_1 x2_0 x2_1 _ ?s7_1 ?s7_2 ?s7_3 ?s7_4 H3.out).mono ?_; (case s7_1 => exact Kd.C_below HR2_0.out HB.out); (case s7_2 => exact HC2_0.out); (case s7_3 => exact Kd.C_below HR2_1.out HB.out); (case s7_4 => exact HC2_1.out); rintro e w7 ⟨v7_0, v7_1, rfl, ho0, ho1, hb⟩; have new_ : ∃ lo7 hi7 : Nat, Iv.Ob (Kd.int .i64) 3 w7 lo7 hi7 (fun k_ => some k_ ≠ (v7_1 : Value).ownBlock) v7_0 x2_0 ∧ Iv.Ob (Kd.int .i64) 3 w7 lo7 hi7 (fun k_ => some k_ ≠ (v7_0 : Value).ownBlock) v7_1 x2_1 ∧ w.heap.size ≤ lo7 ∧ w.heap.size < lo7 ∧ hi5 ≤ lo7 ∧ hi6 ≤ lo7 := ⟨_, _, Iv.Ob.of_Rint ho0 (fun _ h_ => h_), Iv.Ob.of_Rint ho1 (fun _ h_ => h_), (below_size HB.out), (Bx.box_lt bx1_), (Iv.Ob.size O5_0.out), (Iv.Ob.size O6_0.out)⟩; obtain ⟨lo7, hi7, o0_, o1_, d_w, f_PaD, d_w_, d_x1⟩ := new_; replace O5_0 := Aside0.mk (Iv.Ob.below O5_0.out hb); replace O5_1 := Aside0.mk (Iv.Ob.below O5_1.out hb); replace O6_0 := Aside0.mk (Iv.Ob.below O6_0.out hb); replace bx1_ := Bx.box_later bx1_ hb; replace bx2_ := Bx.box_later bx2_ hb; replace HB := Aside0.mk (below_step HB.out hb); clear hb ho0 ho1; obtain ⟨B7_0, e7_0, rfl⟩ := Iv.Ob.slice o0_; have O7_0 := Aside0.mk o0_; clear o0_; obtain ⟨B7_1, e7_1, rfl⟩ := Iv.Ob.slice o1_; have O7_1 := Aside0.mk o1_; clear o1_; have DW_x2 := Aside0.mk d_w; clear d_w; have D_w__x2 := Aside0.mk d_w_; clear d_w_; have D_x1_x2 := Aside0.mk d_x1; clear d_x1; have F_PaD_x2 := Aside0.mk f_PaD; clear f_PaD; have E_w__x2 : Aside0 (hi5 ≤ w7.heap.size) := Aside0.mk (Iv.Ob.size (w := w7) O5_0.out); have E_x1_x2 : Aside0 (hi6 ≤ w7.heap.size) := Aside0.mk (Iv.Ob.size (w := w7) O6_0.out); have E_x2_x2 : Aside0 (hi7 ≤ w7.heap.size) := Aside0.mk (Iv.Ob.size (w := w7) O7_0.out); have bx3_ : World.cell? (World.alloc w7 (.cells #[.slice B7_0 (List.length x2_0) e7_0, .slice B7_1 (List.length x2_1) e7_1] 32)) ⟨w7.heap.size, 0, none⟩ = some (.slice B7_0 (List.length x2_0) e7_0) := Bx.box_new _ _ _ _ _ rfl; have bx4_ : World.cell? (World.alloc w7 (.cells #[.slice B7_0 (List.length x2_0) e7_0, .slice B7_1 (List.length x2_1) e7_1] 32)) ⟨w7.heap.size, 1, none⟩ = some (.slice B7_1 (List.length x2_1) e7_1) := Bx.box_new _ _ _ _ _ rfl; have hal_ := below_alloc (Below.refl (World.heap w7).size w7) (.cells #[.slice B7_0 (List.length x2_0) e7_0, .slice B7_1 (List.length x2_1) e7_1] 32); replace bx1_ := Bx.box_later bx1_ hal_; replace bx2_ := Bx.box_later bx2_ hal_; replace O5_0 := Aside0.mk (Iv.Ob.below O5_0.out hal_); replace O5_1 := Aside0.mk (Iv.Ob.below O5_1.out hal_); replace O6_0 := Aside0.mk (Iv.Ob.below O6_0.out hal_); replace O7_0 := Aside0.mk (Iv.Ob.below O7_0.out hal_); replace O7_1 := Aside0.mk (Iv.Ob.below O7_1.out hal_); replace HB := Aside0.mk (below_alloc HB.out (.cells #[.slice B7_0 (List.length x2_0) e7_0, .slice B7_1 (List.length x2_1) e7_1] 32)); clear hal_))
  go_wp2_with (first | (go_at_call 22; with_reducible refine (impl_SplitBy.calls k5 a0 _ _ x1_0 _ _ x2_0 _ _ x2_1 y0_0 y1_0 y2 _ ?s8_1 ?s8_2 ?s8_3 ?s8_4 ?s8_5 ?s8_6 H5.out).mono ?_; (case s8_1 => exact Iv.Ob.C O6_0.out); (case s8_2 => exact (Iv.Ob.le O6_0.out)); (case s8_3 => exact Iv.Ob.C O7_0.out); (case s8_4 => exact (Iv.Ob.le O7_0.out)); (case s8_5 => exact Iv.Ob.C O7_1.out); (case s8_6 => exact (Iv.Ob.le O7_1.out)); rintro e w8 ⟨v8_0, v8_1, rfl, ho0, ho1, hb⟩; have new_ : ∃ lo8 hi8 : Nat, Iv.Ob (Kd.int .i64) 3 w8 lo8 hi8 (fun k_ => some k_ ≠ (v8_1 : Value).ownBlock) v8_0 y0_0 ∧ Iv.Ob (Kd.int .i64) 3 w8 lo8 hi8 (fun k_ => some k_ ≠ (v8_0 : Value).ownBlock) v8_1 y1_0 ∧ w.heap.size ≤ lo8 ∧ w.heap.size < lo8 ∧ w7.heap.size < lo8 ∧ hi5 ≤ lo8 ∧ hi6 ≤ lo8 ∧ hi7 ≤ lo8 := ⟨_, _, Iv.Ob.of_Rint ho0 (fun _ h_ => h_), Iv.Ob.of_Rint ho1 (fun _ h_ => h_), (below_size HB.out), (Bx.box_lt bx1_), (Bx.box_lt bx3_), (Iv.Ob.size O5_0.out), (Iv.Ob.size O6_0.out), (Iv.Ob.size O7_0.out)⟩; obtain ⟨lo8, hi8, o0_, o1_, d_w, f_PaD, f_x2, d_w_, d_x1, d_x2⟩ := new_; replace O5_0 := Aside0.mk (Iv.Ob.below O5_0.out hb); replace O5_1 := Aside0.mk (Iv.Ob.below O5_1.out hb); replace O6_0 := Aside0.mk (Iv.Ob.below O6_0.out hb); replace O7_0 := Aside0.mk (Iv.Ob.below O7_0.out hb); replace O7_1 := Aside0.mk (Iv.Ob.below O7_1.out hb); replace bx1_ := Bx.box_later bx1_ hb; replace bx2_ := Bx.box_later bx2_ hb; replace bx3_ := Bx.box_later bx3_ hb; replace bx4_ := Bx.box_later bx4_ hb; replace HB := Aside0.mk (below_step HB.out hb); clear hb ho0 ho1; obtain ⟨B8_0, e8_0, rfl⟩ := Iv.Ob.slice o0_; have O8_0 := Aside0.mk o0_; clear o0_; obtain ⟨B8_1, e8_1, rfl⟩ := Iv.Ob.slice o1_; have O8_1 := Aside0.mk o1_; clear o1_; have DW_g_ := Aside0.mk d_w; clear d_w; have D_w__g_ := Aside0.mk d_w_; clear d_w_; have D_x1_g_ := Aside0.mk d_x1; clear d_x1; have D_x2_g_ := Aside0.mk d_x2; clear d_x2; have F_PaD_g_ := Aside0.mk f_PaD; clear f_PaD; have F_x2_g_ := Aside0.mk f_x2; clear f_x2))
  go_wp2_with (first | (go_at_call 23; with_reducible refine (laws_eqIntS.calls k6 _ _ y0_0 _ _ y0_0 true _ ?s9_1 ?s9_2 ?s9_3 ?s9_4 H6.out).mono ?_; (case s9_1 => exact Iv.Ob.C O8_0.out); (case s9_2 => exact (Iv.Ob.le O8_0.out)); (case s9_3 => exact Iv.Ob.C O5_0.out); (case s9_4 => exact (Iv.Ob.le O5_0.out)); rintro e w9 ⟨rfl, hb⟩; obtain ⟨nd_, hd_⟩ := hb; have hb := show Below (World.heap w8).size w8 w9 from hd_ ▸ pw_below_drewN (Below.refl _ _) nd_; clear hd_; replace O5_0 := Aside0.mk (Iv.Ob.below O5_0.out hb); replace O5_1 := Aside0.mk (Iv.Ob.below O5_1.out hb); replace O6_0 := Aside0.mk (Iv.Ob.below O6_0.out hb); replace O7_0 := Aside0.mk (Iv.Ob.below O7_0.out hb); replace O7_1 := Aside0.mk (Iv.Ob.below O7_1.out hb); replace O8_0 := Aside0.mk (Iv.Ob.below O8_0.out hb); replace O8_1 := Aside0.mk (Iv.Ob.below O8_1.out hb); replace bx1_ := Bx.box_later bx1_ hb; replace bx2_ := Bx.box_later bx2_ hb; replace bx3_ := Bx.box_later bx3_ hb; replace bx4_ := Bx.box_later bx4_ hb; replace HB := Aside0.mk (below_step HB.out hb); clear hb))
  go_wp2_with (first | (go_at_call 23; with_reducible refine (laws_eqIntS.calls k7 _ _ y1_0 _ _ y1_0 true _ ?s10_1 ?s10_2 ?s10_3 ?s10_4 H7.out).mono ?_; (case s10_1 => exact Iv.Ob.C O8_1.out); (case s10_2 => exact (Iv.Ob.le O8_1.out)); (case s10_3 => exact Iv.Ob.C O5_1.out); (case s10_4 => exact (Iv.Ob.le O5_1.out)); rintro e w10 ⟨rfl, hb⟩; obtain ⟨nd_, hd_⟩ := hb; have hb := show Below (World.heap w9).size w9 w10 from hd_ ▸ pw_below_drewN (Below.refl _ _) nd_; clear hd_; replace O5_0 := Aside0.mk (Iv.Ob.below O5_0.out hb); replace O5_1 := Aside0.mk (Iv.Ob.below O5_1.out hb); replace O6_0 := Aside0.mk (Iv.Ob.below O6_0.out hb); replace O7_0 := Aside0.mk (Iv.Ob.below O7_0.out hb); replace O7_1 := Aside0.mk (Iv.Ob.below O7_1.out hb); replace O8_0 := Aside0.mk (Iv.Ob.below O8_0.out hb); replace O8_1 := Aside0.mk (Iv.Ob.below O8_1.out hb); replace bx1_ := Bx.box_later bx1_ hb; replace bx2_ := Bx.box_later bx2_ hb; replace bx3_ := Bx.box_later bx3_ hb; replace bx4_ := Bx.box_later bx4_ hb; replace HB := Aside0.mk (below_step HB.out hb); clear hb))
  go_wp2_with (first | (go_at_call 21; with_reducible refine (laws_toIntS.calls k2 _ _ l1 x1_0 _ ?s11_1 ?s11_2 H2.out).mono ?_; (case s11_1 => exact Kd.C_below HR1.out HB.out); (case s11_2 => exact HC1.out); rintro e w11 ⟨v11_0, rfl, ho0, hb⟩; have new_ : ∃ lo11 hi11 : Nat, Iv.Ob (Kd.int .i64) 3 w11 lo11 hi11 (fun k_ => True) v11_0 x1_0 ∧ w.heap.size ≤ lo11 ∧ w.heap.size < lo11 ∧ w7.heap.size < lo11 ∧ hi5 ≤ lo11 ∧ hi6 ≤ lo11 ∧ hi7 ≤ lo11 ∧ hi8 ≤ lo11 := ⟨_, _, Iv.Ob.of_Rint ho0 (fun _ h_ => h_), (below_size HB.out), (Bx.box_lt bx1_), (Bx.box_lt bx3_), (Iv.Ob.size O5_0.out), (Iv.Ob.size O6_0.out), (Iv.Ob.size O7_0.out), (Iv.Ob.size O8_0.out)⟩; obtain ⟨lo11, hi11, o0_, d_w, f_PaD, f_x2, d_w_, d_x1, d_x2, d_g_⟩ := new_; replace O5_0 := Aside0.mk (Iv.Ob.below O5_0.out hb); replace O5_1 := Aside0.mk (Iv.Ob.below O5_1.out hb); replace O6_0 := Aside0.mk (Iv.Ob.below O6_0.out hb); replace O7_0 := Aside0.mk (Iv.Ob.below O7_0.out hb); replace O7_1 := Aside0.mk (Iv.Ob.below O7_1.out hb); replace O8_0 := Aside0.mk (Iv.Ob.below O8_0.out hb); replace O8_1 := Aside0.mk (Iv.Ob.below O8_1.out hb); replace bx1_ := Bx.box_later bx1_ hb; replace bx2_ := Bx.box_later bx2_ hb; replace bx3_ := Bx.box_later bx3_ hb; replace bx4_ := Bx.box_later bx4_ hb; replace HB := Aside0.mk (below_step HB.out hb); clear hb ho0; obtain ⟨B11_0, e11_0, rfl⟩ := Iv.Ob.slice o0_; have O11_0 := Aside0.mk o0_; clear o0_; have DW_t11 := Aside0.mk d_w; clear d_w; have D_w__t11 := Aside0.mk d_w_; clear d_w_; have D_x1_t11 := Aside0.mk d_x1; clear d_x1; have D_x2_t11 := Aside0.mk d_x2; clear d_x2; have D_g__t11 := Aside0.mk d_g_; clear d_g_; have F_PaD_t11 := Aside0.mk f_PaD; clear f_PaD; have F_x2_t11 := Aside0.mk f_x2; clear f_x2))
  go_wp2_with (first | (go_at_call 23; with_reducible refine (laws_eqIntS.calls k8 _ _ x1_0 _ _ x1_0 true _ ?s12_1 ?s12_2 ?s12_3 ?s12_4 H8.out).mono ?_; (case s12_1 => exact Iv.Ob.C O6_0.out); (case s12_2 => exact (Iv.Ob.le O6_0.out)); (case s12_3 => exact Iv.Ob.C O11_0.out); (case s12_4 => exact (Iv.Ob.le O11_0.out)); rintro e w12 ⟨rfl, hb⟩; obtain ⟨nd_, hd_⟩ := hb; have hb := show Below (World.heap w11).size w11 w12 from hd_ ▸ pw_below_drewN (Below.refl _ _) nd_; clear hd_; replace O5_0 := Aside0.mk (Iv.Ob.below O5_0.out hb); replace O5_1 := Aside0.mk (Iv.Ob.below O5_1.out hb); replace O6_0 := Aside0.mk (Iv.Ob.below O6_0.out hb); replace O7_0 := Aside0.mk (Iv.Ob.below O7_0.out hb); replace O7_1 := Aside0.mk (Iv.Ob.below O7_1.out hb); replace O8_0 := Aside0.mk (Iv.Ob.below O8_0.out hb); replace O8_1 := Aside0.mk (Iv.Ob.below O8_1.out hb); replace O11_0 := Aside0.mk (Iv.Ob.below O11_0.out hb); replace bx1_ := Bx.box_later bx1_ hb; replace bx2_ := Bx.box_later bx2_ hb; replace bx3_ := Bx.box_later bx3_ hb; replace bx4_ := Bx.box_later bx4_ hb; replace HB := Aside0.mk (below_step HB.out hb); clear hb; clear O11_0))
  refine Bx.start_any (n := 5) (S := fun w_ => World.cell? w_ ⟨w.heap.size, 0, none⟩ = some (.slice A2_0 (List.length l2_0) c2_0) ∧ World.cell? w_ ⟨w.heap.size, 1, none⟩ = some (.slice A2_1 (List.length l2_1) c2_1) ∧ World.cell? w_ ⟨w7.heap.size, 0, none⟩ = some (.slice B7_0 (List.length x2_0) e7_0) ∧ World.cell? w_ ⟨w7.heap.size, 1, none⟩ = some (.slice B7_1 (List.length x2_1) e7_1)) (ds := []) #[false, false, false, false, false] (by kernel_rfl) rfl rfl ⟨bx1_, bx2_, bx3_, bx4_⟩ (fun w13 hb hHeld => ?_)
  replace O5_0 := Aside0.mk (Iv.Ob.below O5_0.out hb)
  replace O5_1 := Aside0.mk (Iv.Ob.below O5_1.out hb)
  replace O6_0 := Aside0.mk (Iv.Ob.below O6_0.out hb)
  replace O7_0 := Aside0.mk (Iv.Ob.below O7_0.out hb)
  replace O7_1 := Aside0.mk (Iv.Ob.below O7_1.out hb)
  replace O8_0 := Aside0.mk (Iv.Ob.below O8_0.out hb)
  replace O8_1 := Aside0.mk (Iv.Ob.below O8_1.out hb)
  replace bx1_ := Bx.box_later bx1_ hb
  replace bx2_ := Bx.box_later bx2_ hb
  replace bx3_ := Bx.box_later bx3_ hb
  replace bx4_ := Bx.box_later bx4_ hb
  replace HB := Aside0.mk (below_step HB.out hb)
  clear hb
  refine take_ (i := 0) (N := some 72) (v := ?_) (a' := ?_) #[true, false, false, false, false] rfl rfl (by kernel_rfl) (fun _ _ _ h => h) (Or.inl ⟨by rfl, ?_⟩) hHeld ?_ ?_
  rotate_left
  · rintro w' ⟨s0_, s1_, s2_, s3_⟩
    go_simp
    with_reducible rfl
  rotate_left
  · simp only [Act.put, List.setIfInBounds_toArray, List.set_cons_zero, List.set_cons_succ, i64_w, i32_w]
    rfl
  refine take_ (i := 1) (N := some 73) (v := ?_) (a' := ?_) #[true, true, false, false, false] rfl rfl (by kernel_rfl) (fun _ _ _ h => h) (Or.inl ⟨by rfl, ?_⟩) hHeld ?_ ?_
  rotate_left
  · rintro w' ⟨s0_, s1_, s2_, s3_⟩
    go_simp
    with_reducible rfl
  rotate_left
  · simp only [Act.put, List.setIfInBounds_toArray, List.set_cons_zero, List.set_cons_succ, i64_w, i32_w]
    rfl
  refine one_ (i := 2) (N := some 74) #[true, true, true, false, false] rfl rfl (by kernel_rfl) (by decide) (fun K hK => ?_)
  refine goes_ Try.func16 (by kernel_rfl) rfl #[.agg #[.slice A2_0 l2_0.length c2_0, .slice A2_1 l2_1.length c2_1]] (by rfl) rfl rfl (by (try simp only [List.map_toArray, List.map_cons, List.map_nil]); first | done | rfl | (simp only [List.length_drop, List.length_take]; rfl)) ?_
  with_reducible refine (laws_toDep.calls k3 _ _ l2_0 _ _ l2_1 x2_0 x2_1 _ ?s14_1 ?s14_2 ?s14_3 ?s14_4 H3.out).mono ?_
  (case s14_1 => exact Kd.C_below HR2_0.out HB.out)
  (case s14_2 => exact HC2_0.out)
  (case s14_3 => exact Kd.C_below HR2_1.out HB.out)
  (case s14_4 => exact HC2_1.out)
  rintro e w14 ⟨v14_0, v14_1, rfl, ho0, ho1, hb⟩
  refine ⟨_, rfl, ?_⟩
  have new_ : ∃ lo14 hi14 : Nat, Iv.Ob (Kd.int .i64) 3 w14 lo14 hi14 (fun k_ => some k_ ≠ (v14_1 : Value).ownBlock) v14_0 x2_0 ∧ Iv.Ob (Kd.int .i64) 3 w14 lo14 hi14 (fun k_ => some k_ ≠ (v14_0 : Value).ownBlock) v14_1 x2_1 ∧ w.heap.size ≤ lo14 ∧ w.heap.size < lo14 ∧ w7.heap.size < lo14 ∧ hi5 ≤ lo14 ∧ hi6 ≤ lo14 ∧ hi7 ≤ lo14 ∧ hi8 ≤ lo14 := ⟨_, _, Iv.Ob.of_Rint ho0 (fun _ h_ => h_), Iv.Ob.of_Rint ho1 (fun _ h_ => h_), (below_size HB.out), (Bx.box_lt bx1_), (Bx.box_lt bx3_), (Iv.Ob.size O5_0.out), (Iv.Ob.size O6_0.out), (Iv.Ob.size O7_0.out), (Iv.Ob.size O8_0.out)⟩
  obtain ⟨lo14, hi14, o0_, o1_, d_w, f_PaD, f_x2, d_w_, d_x1, d_x2, d_g_⟩ := new_
  replace O5_0 := Aside0.mk (Iv.Ob.below O5_0.out hb)
  replace O5_1 := Aside0.mk (Iv.Ob.below O5_1.out hb)
  replace O6_0 := Aside0.mk (Iv.Ob.below O6_0.out hb)
  replace O7_0 := Aside0.mk (Iv.Ob.below O7_0.out hb)
  replace O7_1 := Aside0.mk (Iv.Ob.below O7_1.out hb)
  replace O8_0 := Aside0.mk (Iv.Ob.below O8_0.out hb)
  replace O8_1 := Aside0.mk (Iv.Ob.below O8_1.out hb)
  replace bx1_ := Bx.box_later bx1_ hb
  replace bx2_ := Bx.box_later bx2_ hb
  replace bx3_ := Bx.box_later bx3_ hb
  replace bx4_ := Bx.box_later bx4_ hb
  replace HB := Aside0.mk (below_step HB.out hb)
  clear hb ho0 ho1
  obtain ⟨B14_0, e14_0, rfl⟩ := Iv.Ob.slice o0_
  have O14_0 := Aside0.mk o0_
  clear o0_
  obtain ⟨B14_1, e14_1, rfl⟩ := Iv.Ob.slice o1_
  have O14_1 := Aside0.mk o1_
  clear o1_
  have DW_t14 := Aside0.mk d_w
  clear d_w
  have D_w__t14 := Aside0.mk d_w_
  clear d_w_
  have D_x1_t14 := Aside0.mk d_x1
  clear d_x1
  have D_x2_t14 := Aside0.mk d_x2
  clear d_x2
  have D_g__t14 := Aside0.mk d_g_
  clear d_g_
  have F_PaD_t14 := Aside0.mk f_PaD
  clear f_PaD
  have F_x2_t14 := Aside0.mk f_x2
  clear f_x2
  refine hK.out _ _ ⟨bx1_, bx2_, bx3_, bx4_⟩ (fun hHeld => ?_)
  clear hK K
  refine norm_ (a' := ?_) ?_ ?_
  rotate_left
  · show Act.put _ (some 74) _ = _
    simp only [Act.put, List.setIfInBounds_toArray, List.set_cons_zero, List.set_cons_succ, i64_w, i32_w]
    rfl
  refine one_ (i := 3) (N := some 75) #[true, true, true, true, false] rfl rfl (by kernel_rfl) (by decide) (fun K hK => ?_)
  refine goes_ Try.func19 (by kernel_rfl) rfl #[.agg #[.slice B7_0 (List.length x2_0) e7_0, .slice B7_1 (List.length x2_1) e7_1], .agg #[.slice B14_0 (List.length x2_0) e14_0, .slice B14_1 (List.length x2_1) e14_1]] (by rfl) rfl rfl (by (try simp only [List.map_toArray, List.map_cons, List.map_nil]); first | done | rfl | (simp only [List.length_drop, List.length_take]; rfl)) ?_
  with_reducible refine (laws_eqDep.calls k9 _ _ x2_0 _ _ x2_1 _ _ x2_0 _ _ x2_1 true _ ?s15_1 ?s15_2 ?s15_3 ?s15_4 ?s15_5 ?s15_6 ?s15_7 ?s15_8 H9.out).mono ?_
  (case s15_1 => exact Iv.Ob.C O7_0.out)
  (case s15_2 => exact (Iv.Ob.le O7_0.out))
  (case s15_3 => exact Iv.Ob.C O7_1.out)
  (case s15_4 => exact (Iv.Ob.le O7_1.out))
  (case s15_5 => exact Iv.Ob.C O14_0.out)
  (case s15_6 => exact (Iv.Ob.le O14_0.out))
  (case s15_7 => exact Iv.Ob.C O14_1.out)
  (case s15_8 => exact (Iv.Ob.le O14_1.out))
  rintro e w15 ⟨rfl, hb⟩
  refine ⟨_, rfl, ?_⟩
  replace O5_0 := Aside0.mk (Iv.Ob.below O5_0.out hb)
  replace O5_1 := Aside0.mk (Iv.Ob.below O5_1.out hb)
  replace O6_0 := Aside0.mk (Iv.Ob.below O6_0.out hb)
  replace O7_0 := Aside0.mk (Iv.Ob.below O7_0.out hb)
  replace O7_1 := Aside0.mk (Iv.Ob.below O7_1.out hb)
  replace O8_0 := Aside0.mk (Iv.Ob.below O8_0.out hb)
  replace O8_1 := Aside0.mk (Iv.Ob.below O8_1.out hb)
  replace O14_0 := Aside0.mk (Iv.Ob.below O14_0.out hb)
  replace O14_1 := Aside0.mk (Iv.Ob.below O14_1.out hb)
  replace bx1_ := Bx.box_later bx1_ hb
  replace bx2_ := Bx.box_later bx2_ hb
  replace bx3_ := Bx.box_later bx3_ hb
  replace bx4_ := Bx.box_later bx4_ hb
  replace HB := Aside0.mk (below_step HB.out hb)
  clear hb
  refine hK.out _ _ ⟨bx1_, bx2_, bx3_, bx4_⟩ (fun hHeld => ?_)
  clear hK K
  refine norm_ (a' := ?_) ?_ ?_
  rotate_left
  · show Act.put _ (some 75) _ = _
    simp only [Act.put, List.setIfInBounds_toArray, List.set_cons_zero, List.set_cons_succ, i64_w, i32_w]
    rfl
  clear O14_0
  clear O14_1
  refine pure_ (i := 4) (N := some 76) (v := ?_) (a' := ?_) #[true, true, true, true, true] rfl rfl (by kernel_rfl) (fun _ _ _ h => h) (Or.inl ⟨by rfl, ?_⟩) ?_ ?_
  rotate_left
  · intro w'
    go_simp
    with_reducible rfl
  rotate_left
  · simp only [Act.put, List.setIfInBounds_toArray, List.set_cons_zero, List.set_cons_succ, i64_w, i32_w]
    rfl
  refine done_ (by kernel_rfl) ?_
  go_wp2_with (first | (go_at_call 24; with_reducible refine (Mk.markIntS w _ lo6 hi6 1 M1 _ x1_0 HB.out DW_x1.out O6_0.out HMM10.out HMM11.out).mono ?_; rintro e w16 ⟨rfl, mk0, hb, hk⟩; replace O5_0 := Aside0.mk (Iv.Ob.kept O5_0.out hk (by have h1_ := D_w__x1.out; omega)); replace O5_1 := Aside0.mk (Iv.Ob.kept O5_1.out hk (by have h1_ := D_w__x1.out; omega)); replace O7_0 := Aside0.mk (Iv.Ob.kept O7_0.out hk (by have h1_ := D_x1_x2.out; omega)); replace O7_1 := Aside0.mk (Iv.Ob.kept O7_1.out hk (by have h1_ := D_x1_x2.out; omega)); replace O8_0 := Aside0.mk (Iv.Ob.kept O8_0.out hk (by have h1_ := D_x1_g_.out; omega)); replace O8_1 := Aside0.mk (Iv.Ob.kept O8_1.out hk (by have h1_ := D_x1_g_.out; omega)); replace bx1_ := Bx.box_kept bx1_ hk (.inl (by have := F_PaD_x1.out; simpa using this)); replace bx2_ := Bx.box_kept bx2_ hk (.inl (by have := F_PaD_x1.out; simpa using this)); replace bx3_ := Bx.box_kept bx3_ hk (.inr (by have := E_x1_x2.out; simpa using this)); replace bx4_ := Bx.box_kept bx4_ hk (.inr (by have := E_x1_x2.out; simpa using this)); replace HB := Aside0.mk hb; clear hb hk; clear mk0; clear O6_0))
  go_wp2_with (first | (go_at_call 25; with_reducible refine (Mk.markDep w _ lo7 hi7 M1 M2 _ _ x2_0 x2_1 HB.out DW_x2.out O7_0.out O7_1.out HMM20.out HMM21.out).mono ?_; rintro e w17 ⟨rfl, mk0, mk1, hb, hk⟩; replace O5_0 := Aside0.mk (Iv.Ob.kept O5_0.out hk (by have h1_ := D_w__x2.out; omega)); replace O5_1 := Aside0.mk (Iv.Ob.kept O5_1.out hk (by have h1_ := D_w__x2.out; omega)); replace O8_0 := Aside0.mk (Iv.Ob.kept O8_0.out hk (by have h1_ := D_x2_g_.out; omega)); replace O8_1 := Aside0.mk (Iv.Ob.kept O8_1.out hk (by have h1_ := D_x2_g_.out; omega)); replace bx1_ := Bx.box_kept bx1_ hk (.inl (by have := F_PaD_x2.out; simpa using this)); replace bx2_ := Bx.box_kept bx2_ hk (.inl (by have := F_PaD_x2.out; simpa using this)); replace bx3_ := Bx.box_kept bx3_ hk (.inr (by have := E_x2_x2.out; simpa using this)); replace bx4_ := Bx.box_kept bx4_ hk (.inr (by have := E_x2_x2.out; simpa using this)); replace HB := Aside0.mk hb; clear hb hk; clear mk0; clear mk1; clear O7_0; clear O7_1))
  go_wp2_with (first | (go_at_call 23; with_reducible refine (laws_eqIntS.calls k6 _ _ y0_0 _ _ y0_0 true _ ?s18_1 ?s18_2 ?s18_3 ?s18_4 H6.out).mono ?_; (case s18_1 => exact Iv.Ob.C O8_0.out); (case s18_2 => exact (Iv.Ob.le O8_0.out)); (case s18_3 => exact Iv.Ob.C O5_0.out); (case s18_4 => exact (Iv.Ob.le O5_0.out)); rintro e w18 ⟨rfl, hb⟩; obtain ⟨nd_, hd_⟩ := hb; have hb := show Below (World.heap w17).size w17 w18 from hd_ ▸ pw_below_drewN (Below.refl _ _) nd_; clear hd_; replace O5_0 := Aside0.mk (Iv.Ob.below O5_0.out hb); replace O5_1 := Aside0.mk (Iv.Ob.below O5_1.out hb); replace O8_0 := Aside0.mk (Iv.Ob.below O8_0.out hb); replace O8_1 := Aside0.mk (Iv.Ob.below O8_1.out hb); replace bx1_ := Bx.box_later bx1_ hb; replace bx2_ := Bx.box_later bx2_ hb; replace bx3_ := Bx.box_later bx3_ hb; replace bx4_ := Bx.box_later bx4_ hb; replace HB := Aside0.mk (below_step HB.out hb); clear hb))
  go_wp2_with (first | (go_at_call 23; with_reducible refine (laws_eqIntS.calls k7 _ _ y1_0 _ _ y1_0 true _ ?s19_1 ?s19_2 ?s19_3 ?s19_4 H7.out).mono ?_; (case s19_1 => exact Iv.Ob.C O8_1.out); (case s19_2 => exact (Iv.Ob.le O8_1.out)); (case s19_3 => exact Iv.Ob.C O5_1.out); (case s19_4 => exact (Iv.Ob.le O5_1.out)); rintro e w19 ⟨rfl, hb⟩; obtain ⟨nd_, hd_⟩ := hb; have hb := show Below (World.heap w18).size w18 w19 from hd_ ▸ pw_below_drewN (Below.refl _ _) nd_; clear hd_; replace O5_0 := Aside0.mk (Iv.Ob.below O5_0.out hb); replace O5_1 := Aside0.mk (Iv.Ob.below O5_1.out hb); replace O8_0 := Aside0.mk (Iv.Ob.below O8_0.out hb); replace O8_1 := Aside0.mk (Iv.Ob.below O8_1.out hb); replace bx1_ := Bx.box_later bx1_ hb; replace bx2_ := Bx.box_later bx2_ hb; replace bx3_ := Bx.box_later bx3_ hb; replace bx4_ := Bx.box_later bx4_ hb; replace HB := Aside0.mk (below_step HB.out hb); clear hb))
  go_wp2_with (first | (go_at_call 24; with_reducible refine (Mk.markIntS_sib w _ lo8 hi8 1 M3 _ _ y0_0 y1_0 HB.out DW_g_.out O8_0.out O8_1.out HMM30.out HMM31.out).mono ?_; rintro e w20 ⟨rfl, mk0, mks, hb, hk⟩; replace O5_0 := Aside0.mk (Iv.Ob.kept O5_0.out hk (by have h1_ := D_w__g_.out; omega)); replace O5_1 := Aside0.mk (Iv.Ob.kept O5_1.out hk (by have h1_ := D_w__g_.out; omega)); replace bx1_ := Bx.box_kept bx1_ hk (.inl (by have := F_PaD_g_.out; simpa using this)); replace bx2_ := Bx.box_kept bx2_ hk (.inl (by have := F_PaD_g_.out; simpa using this)); replace bx3_ := Bx.box_kept bx3_ hk (.inl (by have := F_x2_g_.out; simpa using this)); replace bx4_ := Bx.box_kept bx4_ hk (.inl (by have := F_x2_g_.out; simpa using this)); replace HB := Aside0.mk hb; clear hb hk; replace O8_1 := Aside0.mk mks; replace O8_0 := Aside0.mk mk0; clear mk0; clear mks))
  go_wp2_with (first | (go_at_call 24; with_reducible refine (Mk.markIntS_sib w _ lo8 hi8 M3 M4 _ _ y1_0 (Ax.mkIntS y0_0 1) HB.out DW_g_.out O8_1.out O8_0.out HMM40.out HMM41.out).mono ?_; rintro e w21 ⟨rfl, mk0, mks, hb, hk⟩; replace O5_0 := Aside0.mk (Iv.Ob.kept O5_0.out hk (by have h1_ := D_w__g_.out; omega)); replace O5_1 := Aside0.mk (Iv.Ob.kept O5_1.out hk (by have h1_ := D_w__g_.out; omega)); replace bx1_ := Bx.box_kept bx1_ hk (.inl (by have := F_PaD_g_.out; simpa using this)); replace bx2_ := Bx.box_kept bx2_ hk (.inl (by have := F_PaD_g_.out; simpa using this)); replace bx3_ := Bx.box_kept bx3_ hk (.inl (by have := F_x2_g_.out; simpa using this)); replace bx4_ := Bx.box_kept bx4_ hk (.inl (by have := F_x2_g_.out; simpa using this)); replace HB := Aside0.mk hb; clear hb hk; replace O8_0 := Aside0.mk mks; replace O8_1 := Aside0.mk mk0; clear mk0; clear mks))
  go_wp2_with (first | (go_at_call 26; with_reducible refine Bx.calls_at ?e22_ ((laws_heldIntS.calls k10 B8_0 e8_0 (Ax.mkIntS y0_0 1) 1 M3 _ ?s22_1 ?s22_2 H10.out).mono ?_); (case e22_ => simp only [Ax.mkIntS_length, Ax.mkOf_length]); (case s22_1 => exact Iv.Ob.C O8_0.out); (case s22_2 => exact (Iv.Ob.le O8_0.out)); rintro e w22 ⟨rfl, hb⟩; obtain ⟨nd_, hd_⟩ := hb; have hb := show Below (World.heap w21).size w21 w22 from hd_ ▸ pw_below_drewN (Below.refl _ _) nd_; clear hd_; replace O5_0 := Aside0.mk (Iv.Ob.below O5_0.out hb); replace O5_1 := Aside0.mk (Iv.Ob.below O5_1.out hb); replace O8_0 := Aside0.mk (Iv.Ob.below O8_0.out hb); replace O8_1 := Aside0.mk (Iv.Ob.below O8_1.out hb); replace bx1_ := Bx.box_later bx1_ hb; replace bx2_ := Bx.box_later bx2_ hb; replace bx3_ := Bx.box_later bx3_ hb; replace bx4_ := Bx.box_later bx4_ hb; replace HB := Aside0.mk (below_step HB.out hb); clear hb))
  go_wp2_with (first | (go_at_call 26; with_reducible refine Bx.calls_at ?e23_ ((laws_heldIntS.calls k11 B8_1 e8_1 (Ax.mkIntS y1_0 M3) M3 M4 _ ?s23_1 ?s23_2 H11.out).mono ?_); (case e23_ => simp only [Ax.mkIntS_length, Ax.mkOf_length]); (case s23_1 => exact Iv.Ob.C O8_1.out); (case s23_2 => exact (Iv.Ob.le O8_1.out)); rintro e w23 ⟨rfl, hb⟩; obtain ⟨nd_, hd_⟩ := hb; have hb := show Below (World.heap w22).size w22 w23 from hd_ ▸ pw_below_drewN (Below.refl _ _) nd_; clear hd_; replace O5_0 := Aside0.mk (Iv.Ob.below O5_0.out hb); replace O5_1 := Aside0.mk (Iv.Ob.below O5_1.out hb); replace O8_0 := Aside0.mk (Iv.Ob.below O8_0.out hb); replace O8_1 := Aside0.mk (Iv.Ob.below O8_1.out hb); replace bx1_ := Bx.box_later bx1_ hb; replace bx2_ := Bx.box_later bx2_ hb; replace bx3_ := Bx.box_later bx3_ hb; replace bx4_ := Bx.box_later bx4_ hb; replace HB := Aside0.mk (below_step HB.out hb); clear hb))
  refine Bx.start_any (n := 13) (S := fun w_ => World.cell? w_ ⟨w.heap.size, 0, none⟩ = some (.slice A2_0 (List.length l2_0) c2_0) ∧ World.cell? w_ ⟨w.heap.size, 1, none⟩ = some (.slice A2_1 (List.length l2_1) c2_1) ∧ World.cell? w_ ⟨w7.heap.size, 0, none⟩ = some (.slice B7_0 (List.length x2_0) e7_0) ∧ World.cell? w_ ⟨w7.heap.size, 1, none⟩ = some (.slice B7_1 (List.length x2_1) e7_1)) (ds := []) #[false, false, false, false, false, false, false, false, false, false, false, false, false] (by kernel_rfl) rfl rfl ⟨bx1_, bx2_, bx3_, bx4_⟩ (fun w24 hb hHeld => ?_)
  replace O5_0 := Aside0.mk (Iv.Ob.below O5_0.out hb)
  replace O5_1 := Aside0.mk (Iv.Ob.below O5_1.out hb)
  replace O8_0 := Aside0.mk (Iv.Ob.below O8_0.out hb)
  replace O8_1 := Aside0.mk (Iv.Ob.below O8_1.out hb)
  replace bx1_ := Bx.box_later bx1_ hb
  replace bx2_ := Bx.box_later bx2_ hb
  replace bx3_ := Bx.box_later bx3_ hb
  replace bx4_ := Bx.box_later bx4_ hb
  replace HB := Aside0.mk (below_step HB.out hb)
  clear hb
  refine take_ (i := 0) (N := some 122) (v := ?_) (a' := ?_) #[true, false, false, false, false, false, false, false, false, false, false, false, false] rfl rfl (by kernel_rfl) (fun _ _ _ h => h) (Or.inl ⟨by rfl, ?_⟩) hHeld ?_ ?_
  rotate_left
  · rintro w' ⟨s0_, s1_, s2_, s3_⟩
    go_simp
    with_reducible rfl
  rotate_left
  · simp only [Act.put, List.setIfInBounds_toArray, List.set_cons_zero, List.set_cons_succ, i64_w, i32_w]
    rfl
  refine take_ (i := 1) (N := some 123) (v := ?_) (a' := ?_) #[true, true, false, false, false, false, false, false, false, false, false, false, false] rfl rfl (by kernel_rfl) (fun _ _ _ h => h) (Or.inl ⟨by rfl, ?_⟩) hHeld ?_ ?_
  rotate_left
  · rintro w' ⟨s0_, s1_, s2_, s3_⟩
    go_simp
    with_reducible rfl
  rotate_left
  · simp only [Act.put, List.setIfInBounds_toArray, List.set_cons_zero, List.set_cons_succ, i64_w, i32_w]
    rfl
  refine take_ (i := 3) (N := some 125) (v := ?_) (a' := ?_) #[true, true, false, true, false, false, false, false, false, false, false, false, false] rfl rfl (by kernel_rfl) (fun _ _ _ h => h) (Or.inl ⟨by rfl, ?_⟩) hHeld ?_ ?_
  rotate_left
  · rintro w' ⟨s0_, s1_, s2_, s3_⟩
    go_simp
    with_reducible rfl
  rotate_left
  · simp only [Act.put, List.setIfInBounds_toArray, List.set_cons_zero, List.set_cons_succ, i64_w, i32_w]
    rfl
  refine one_ (i := 2) (N := some 124) #[true, true, true, true, false, false, false, false, false, false, false, false, false] rfl rfl (by kernel_rfl) (by decide) (fun K hK => ?_)
  refine goes_ Try.func21 (by kernel_rfl) rfl #[.slice A1 l1.length c1] (by rfl) rfl rfl (by (try simp only [List.map_toArray, List.map_cons, List.map_nil]); first | done | rfl | (simp only [List.length_drop, List.length_take]; rfl)) ?_
  with_reducible refine (laws_toIntS.calls k2 _ _ l1 x1_0 _ ?s25_1 ?s25_2 H2.out).mono ?_
  (case s25_1 => exact Kd.C_below HR1.out HB.out)
  (case s25_2 => exact HC1.out)
  rintro e w25 ⟨v25_0, rfl, ho0, hb⟩
  refine ⟨_, rfl, ?_⟩
  have new_ : ∃ lo25 hi25 : Nat, Iv.Ob (Kd.int .i64) 3 w25 lo25 hi25 (fun k_ => True) v25_0 x1_0 ∧ w.heap.size ≤ lo25 ∧ w.heap.size < lo25 ∧ w7.heap.size < lo25 ∧ hi5 ≤ lo25 ∧ hi8 ≤ lo25 := ⟨_, _, Iv.Ob.of_Rint ho0 (fun _ h_ => h_), (below_size HB.out), (Bx.box_lt bx1_), (Bx.box_lt bx3_), (Iv.Ob.size O5_0.out), (Iv.Ob.size O8_0.out)⟩
  obtain ⟨lo25, hi25, o0_, d_w, f_PaD, f_x2, d_w_, d_g_⟩ := new_
  replace O5_0 := Aside0.mk (Iv.Ob.below O5_0.out hb)
  replace O5_1 := Aside0.mk (Iv.Ob.below O5_1.out hb)
  replace O8_0 := Aside0.mk (Iv.Ob.below O8_0.out hb)
  replace O8_1 := Aside0.mk (Iv.Ob.below O8_1.out hb)
  replace bx1_ := Bx.box_later bx1_ hb
  replace bx2_ := Bx.box_later bx2_ hb
  replace bx3_ := Bx.box_later bx3_ hb
  replace bx4_ := Bx.box_later bx4_ hb
  replace HB := Aside0.mk (below_step HB.out hb)
  clear hb ho0
  obtain ⟨B25_0, e25_0, rfl⟩ := Iv.Ob.slice o0_
  have O25_0 := Aside0.mk o0_
  clear o0_
  have DW_t25 := Aside0.mk d_w
  clear d_w
  have D_w__t25 := Aside0.mk d_w_
  clear d_w_
  have D_g__t25 := Aside0.mk d_g_
  clear d_g_
  have F_PaD_t25 := Aside0.mk f_PaD
  clear f_PaD
  have F_x2_t25 := Aside0.mk f_x2
  clear f_x2
  refine hK.out _ _ ⟨bx1_, bx2_, bx3_, bx4_⟩ (fun hHeld => ?_)
  clear hK K
  refine norm_ (a' := ?_) ?_ ?_
  rotate_left
  · show Act.put _ (some 124) _ = _
    simp only [Act.put, List.setIfInBounds_toArray, List.set_cons_zero, List.set_cons_succ, i64_w, i32_w]
    rfl
  refine one_ (i := 4) (N := some 126) #[true, true, true, true, true, false, false, false, false, false, false, false, false] rfl rfl (by kernel_rfl) (by decide) (fun K hK => ?_)
  refine goes_ Try.func16 (by kernel_rfl) rfl #[.agg #[.slice A2_0 l2_0.length c2_0, .slice A2_1 l2_1.length c2_1]] (by rfl) rfl rfl (by (try simp only [List.map_toArray, List.map_cons, List.map_nil]); first | done | rfl | (simp only [List.length_drop, List.length_take]; rfl)) ?_
  with_reducible refine (laws_toDep.calls k3 _ _ l2_0 _ _ l2_1 x2_0 x2_1 _ ?s26_1 ?s26_2 ?s26_3 ?s26_4 H3.out).mono ?_
  (case s26_1 => exact Kd.C_below HR2_0.out HB.out)
  (case s26_2 => exact HC2_0.out)
  (case s26_3 => exact Kd.C_below HR2_1.out HB.out)
  (case s26_4 => exact HC2_1.out)
  rintro e w26 ⟨v26_0, v26_1, rfl, ho0, ho1, hb⟩
  refine ⟨_, rfl, ?_⟩
  have new_ : ∃ lo26 hi26 : Nat, Iv.Ob (Kd.int .i64) 3 w26 lo26 hi26 (fun k_ => some k_ ≠ (v26_1 : Value).ownBlock) v26_0 x2_0 ∧ Iv.Ob (Kd.int .i64) 3 w26 lo26 hi26 (fun k_ => some k_ ≠ (v26_0 : Value).ownBlock) v26_1 x2_1 ∧ w.heap.size ≤ lo26 ∧ w.heap.size < lo26 ∧ w7.heap.size < lo26 ∧ hi5 ≤ lo26 ∧ hi8 ≤ lo26 ∧ hi25 ≤ lo26 := ⟨_, _, Iv.Ob.of_Rint ho0 (fun _ h_ => h_), Iv.Ob.of_Rint ho1 (fun _ h_ => h_), (below_size HB.out), (Bx.box_lt bx1_), (Bx.box_lt bx3_), (Iv.Ob.size O5_0.out), (Iv.Ob.size O8_0.out), (Iv.Ob.size O25_0.out)⟩
  obtain ⟨lo26, hi26, o0_, o1_, d_w, f_PaD, f_x2, d_w_, d_g_, d_t25⟩ := new_
  replace O5_0 := Aside0.mk (Iv.Ob.below O5_0.out hb)
  replace O5_1 := Aside0.mk (Iv.Ob.below O5_1.out hb)
  replace O8_0 := Aside0.mk (Iv.Ob.below O8_0.out hb)
  replace O8_1 := Aside0.mk (Iv.Ob.below O8_1.out hb)
  replace O25_0 := Aside0.mk (Iv.Ob.below O25_0.out hb)
  replace bx1_ := Bx.box_later bx1_ hb
  replace bx2_ := Bx.box_later bx2_ hb
  replace bx3_ := Bx.box_later bx3_ hb
  replace bx4_ := Bx.box_later bx4_ hb
  replace HB := Aside0.mk (below_step HB.out hb)
  clear hb ho0 ho1
  obtain ⟨B26_0, e26_0, rfl⟩ := Iv.Ob.slice o0_
  have O26_0 := Aside0.mk o0_
  clear o0_
  obtain ⟨B26_1, e26_1, rfl⟩ := Iv.Ob.slice o1_
  have O26_1 := Aside0.mk o1_
  clear o1_
  have DW_t26 := Aside0.mk d_w
  clear d_w
  have D_w__t26 := Aside0.mk d_w_
  clear d_w_
  have D_g__t26 := Aside0.mk d_g_
  clear d_g_
  have D_t25_t26 := Aside0.mk d_t25
  clear d_t25
  have F_PaD_t26 := Aside0.mk f_PaD
  clear f_PaD
  have F_x2_t26 := Aside0.mk f_x2
  clear f_x2
  refine hK.out _ _ ⟨bx1_, bx2_, bx3_, bx4_⟩ (fun hHeld => ?_)
  clear hK K
  refine norm_ (a' := ?_) ?_ ?_
  rotate_left
  · show Act.put _ (some 126) _ = _
    simp only [Act.put, List.setIfInBounds_toArray, List.set_cons_zero, List.set_cons_succ, i64_w, i32_w]
    rfl
  refine one_ (i := 5) (N := some 127) #[true, true, true, true, true, true, false, false, false, false, false, false, false] rfl rfl (by kernel_rfl) (by decide) (fun K hK => ?_)
  refine goes_ Try.func22 (by kernel_rfl) rfl #[.int .i64 a0, .slice B25_0 (List.length x1_0) e25_0, .agg #[.slice B26_0 (List.length x2_0) e26_0, .slice B26_1 (List.length x2_1) e26_1]] (by rfl) rfl rfl (by (try simp only [List.map_toArray, List.map_cons, List.map_nil]); first | done | rfl | (simp only [List.length_drop, List.length_take]; rfl)) ?_
  with_reducible refine (impl_SplitBy.calls k5 a0 _ _ x1_0 _ _ x2_0 _ _ x2_1 y0_0 y1_0 y2 _ ?s27_1 ?s27_2 ?s27_3 ?s27_4 ?s27_5 ?s27_6 H5.out).mono ?_
  (case s27_1 => exact Iv.Ob.C O25_0.out)
  (case s27_2 => exact (Iv.Ob.le O25_0.out))
  (case s27_3 => exact Iv.Ob.C O26_0.out)
  (case s27_4 => exact (Iv.Ob.le O26_0.out))
  (case s27_5 => exact Iv.Ob.C O26_1.out)
  (case s27_6 => exact (Iv.Ob.le O26_1.out))
  rintro e w27 ⟨v27_0, v27_1, rfl, ho0, ho1, hb⟩
  refine ⟨_, rfl, ?_⟩
  have new_ : ∃ lo27 hi27 : Nat, Iv.Ob (Kd.int .i64) 3 w27 lo27 hi27 (fun k_ => some k_ ≠ (v27_1 : Value).ownBlock) v27_0 y0_0 ∧ Iv.Ob (Kd.int .i64) 3 w27 lo27 hi27 (fun k_ => some k_ ≠ (v27_0 : Value).ownBlock) v27_1 y1_0 ∧ w.heap.size ≤ lo27 ∧ w.heap.size < lo27 ∧ w7.heap.size < lo27 ∧ hi5 ≤ lo27 ∧ hi8 ≤ lo27 ∧ hi25 ≤ lo27 ∧ hi26 ≤ lo27 := ⟨_, _, Iv.Ob.of_Rint ho0 (fun _ h_ => h_), Iv.Ob.of_Rint ho1 (fun _ h_ => h_), (below_size HB.out), (Bx.box_lt bx1_), (Bx.box_lt bx3_), (Iv.Ob.size O5_0.out), (Iv.Ob.size O8_0.out), (Iv.Ob.size O25_0.out), (Iv.Ob.size O26_0.out)⟩
  obtain ⟨lo27, hi27, o0_, o1_, d_w, f_PaD, f_x2, d_w_, d_g_, d_t25, d_t26⟩ := new_
  replace O5_0 := Aside0.mk (Iv.Ob.below O5_0.out hb)
  replace O5_1 := Aside0.mk (Iv.Ob.below O5_1.out hb)
  replace O8_0 := Aside0.mk (Iv.Ob.below O8_0.out hb)
  replace O8_1 := Aside0.mk (Iv.Ob.below O8_1.out hb)
  replace O25_0 := Aside0.mk (Iv.Ob.below O25_0.out hb)
  replace O26_0 := Aside0.mk (Iv.Ob.below O26_0.out hb)
  replace O26_1 := Aside0.mk (Iv.Ob.below O26_1.out hb)
  replace bx1_ := Bx.box_later bx1_ hb
  replace bx2_ := Bx.box_later bx2_ hb
  replace bx3_ := Bx.box_later bx3_ hb
  replace bx4_ := Bx.box_later bx4_ hb
  replace HB := Aside0.mk (below_step HB.out hb)
  clear hb ho0 ho1
  obtain ⟨B27_0, e27_0, rfl⟩ := Iv.Ob.slice o0_
  have O27_0 := Aside0.mk o0_
  clear o0_
  obtain ⟨B27_1, e27_1, rfl⟩ := Iv.Ob.slice o1_
  have O27_1 := Aside0.mk o1_
  clear o1_
  have DW_h_ := Aside0.mk d_w
  clear d_w
  have D_w__h_ := Aside0.mk d_w_
  clear d_w_
  have D_g__h_ := Aside0.mk d_g_
  clear d_g_
  have D_t25_h_ := Aside0.mk d_t25
  clear d_t25
  have D_t26_h_ := Aside0.mk d_t26
  clear d_t26
  have F_PaD_h_ := Aside0.mk f_PaD
  clear f_PaD
  have F_x2_h_ := Aside0.mk f_x2
  clear f_x2
  refine hK.out _ _ ⟨bx1_, bx2_, bx3_, bx4_⟩ (fun hHeld => ?_)
  clear hK K
  refine norm_ (a' := ?_) ?_ ?_
  rotate_left
  · show Act.put _ (some 127) _ = _
    simp only [Act.put, List.setIfInBounds_toArray, List.set_cons_zero, List.set_cons_succ, i64_w, i32_w]
    rfl
  clear O25_0
  clear O26_0
  clear O26_1
  refine pure_ (i := 6) (N := some 121) (v := ?_) (a' := ?_) #[true, true, true, true, true, true, true, false, false, false, false, false, false] rfl rfl (by kernel_rfl) (fun _ _ _ h => h) (Or.inl ⟨by rfl, ?_⟩) ?_ ?_
  rotate_left
  · intro w'
    go_simp
    with_reducible rfl
  rotate_left
  · simp only [Act.put, List.setIfInBounds_toArray, List.set_cons_zero, List.set_cons_succ, i64_w, i32_w]
    rfl
  refine pure_ (i := 7) (N := some 128) (v := ?_) (a' := ?_) #[true, true, true, true, true, true, true, true, false, false, false, false, false] rfl rfl (by kernel_rfl) (fun _ _ _ h => h) (Or.inl ⟨by rfl, ?_⟩) ?_ ?_
  rotate_left
  · intro w'
    go_simp
    with_reducible rfl
  rotate_left
  · simp only [Act.put, List.setIfInBounds_toArray, List.set_cons_zero, List.set_cons_succ, i64_w, i32_w]
    rfl
  refine pure_ (i := 8) (N := some 129) (v := ?_) (a' := ?_) #[true, true, true, true, true, true, true, true, true, false, false, false, false] rfl rfl (by kernel_rfl) (fun _ _ _ h => h) (Or.inl ⟨by rfl, ?_⟩) ?_ ?_
  rotate_left
  · intro w'
    go_simp
    with_reducible rfl
  rotate_left
  · simp only [Act.put, List.setIfInBounds_toArray, List.set_cons_zero, List.set_cons_succ, i64_w, i32_w]
    rfl
  refine pure_ (i := 9) (N := some 130) (v := ?_) (a' := ?_) #[true, true, true, true, true, true, true, true, true, true, false, false, false] rfl rfl (by kernel_rfl) (fun _ _ _ h => h) (Or.inl ⟨by rfl, ?_⟩) ?_ ?_
  rotate_left
  · intro w'
    go_simp
    with_reducible rfl
  rotate_left
  · simp only [Act.put, List.setIfInBounds_toArray, List.set_cons_zero, List.set_cons_succ, i64_w, i32_w]
    rfl
  refine pure_ (i := 10) (N := some 19) (v := ?_) (a' := ?_) #[true, true, true, true, true, true, true, true, true, true, true, false, false] rfl rfl (by kernel_rfl) (fun _ _ _ h => h) (Or.inl ⟨by rfl, ?_⟩) ?_ ?_
  rotate_left
  · intro w'
    go_simp
    with_reducible rfl
  rotate_left
  · simp only [Act.put, List.setIfInBounds_toArray, List.set_cons_zero, List.set_cons_succ, i64_w, i32_w]
    rfl
  refine pure_ (i := 11) (N := some 20) (v := ?_) (a' := ?_) #[true, true, true, true, true, true, true, true, true, true, true, true, false] rfl rfl (by kernel_rfl) (fun _ _ _ h => h) (Or.inl ⟨by rfl, ?_⟩) ?_ ?_
  rotate_left
  · intro w'
    go_simp
    with_reducible rfl
  rotate_left
  · simp only [Act.put, List.setIfInBounds_toArray, List.set_cons_zero, List.set_cons_succ, i64_w, i32_w]
    rfl
  refine pure_ (i := 12) (N := some 21) (v := ?_) (a' := ?_) #[true, true, true, true, true, true, true, true, true, true, true, true, true] rfl rfl (by kernel_rfl) (fun _ _ _ h => h) (Or.inl ⟨by rfl, ?_⟩) ?_ ?_
  rotate_left
  · intro w'
    go_simp
    with_reducible rfl
  rotate_left
  · simp only [Act.put, List.setIfInBounds_toArray, List.set_cons_zero, List.set_cons_succ, i64_w, i32_w]
    rfl
  refine done_ (by kernel_rfl) ?_
  go_wp2_with (first | (go_at_call 23; with_reducible refine (laws_eqIntS.calls k6 _ _ y0_0 _ _ y0_0 true _ ?s28_1 ?s28_2 ?s28_3 ?s28_4 H6.out).mono ?_; (case s28_1 => exact Iv.Ob.C O27_0.out); (case s28_2 => exact (Iv.Ob.le O27_0.out)); (case s28_3 => exact Iv.Ob.C O5_0.out); (case s28_4 => exact (Iv.Ob.le O5_0.out)); rintro e w28 ⟨rfl, hb⟩; obtain ⟨nd_, hd_⟩ := hb; have hb := show Below (World.heap w27).size w27 w28 from hd_ ▸ pw_below_drewN (Below.refl _ _) nd_; clear hd_; replace O5_0 := Aside0.mk (Iv.Ob.below O5_0.out hb); replace O5_1 := Aside0.mk (Iv.Ob.below O5_1.out hb); replace O8_0 := Aside0.mk (Iv.Ob.below O8_0.out hb); replace O8_1 := Aside0.mk (Iv.Ob.below O8_1.out hb); replace O27_0 := Aside0.mk (Iv.Ob.below O27_0.out hb); replace O27_1 := Aside0.mk (Iv.Ob.below O27_1.out hb); replace bx1_ := Bx.box_later bx1_ hb; replace bx2_ := Bx.box_later bx2_ hb; replace bx3_ := Bx.box_later bx3_ hb; replace bx4_ := Bx.box_later bx4_ hb; replace HB := Aside0.mk (below_step HB.out hb); clear hb))
  go_wp2_with (first | (go_at_call 23; with_reducible refine (laws_eqIntS.calls k7 _ _ y1_0 _ _ y1_0 true _ ?s29_1 ?s29_2 ?s29_3 ?s29_4 H7.out).mono ?_; (case s29_1 => exact Iv.Ob.C O27_1.out); (case s29_2 => exact (Iv.Ob.le O27_1.out)); (case s29_3 => exact Iv.Ob.C O5_1.out); (case s29_4 => exact (Iv.Ob.le O5_1.out)); rintro e w29 ⟨rfl, hb⟩; obtain ⟨nd_, hd_⟩ := hb; have hb := show Below (World.heap w28).size w28 w29 from hd_ ▸ pw_below_drewN (Below.refl _ _) nd_; clear hd_; replace O5_0 := Aside0.mk (Iv.Ob.below O5_0.out hb); replace O5_1 := Aside0.mk (Iv.Ob.below O5_1.out hb); replace O8_0 := Aside0.mk (Iv.Ob.below O8_0.out hb); replace O8_1 := Aside0.mk (Iv.Ob.below O8_1.out hb); replace O27_0 := Aside0.mk (Iv.Ob.below O27_0.out hb); replace O27_1 := Aside0.mk (Iv.Ob.below O27_1.out hb); replace bx1_ := Bx.box_later bx1_ hb; replace bx2_ := Bx.box_later bx2_ hb; replace bx3_ := Bx.box_later bx3_ hb; replace bx4_ := Bx.box_later bx4_ hb; replace HB := Aside0.mk (below_step HB.out hb); clear hb; clear O27_0; clear O27_1))
  go_wp2_with (first | (go_at_call 26; with_reducible refine Bx.calls_at ?e30_ ((laws_heldIntS.calls k10 B8_0 e8_0 (Ax.mkIntS y0_0 1) 1 M3 _ ?s30_1 ?s30_2 H10.out).mono ?_); (case e30_ => simp only [Ax.mkIntS_length, Ax.mkOf_length]); (case s30_1 => exact Iv.Ob.C O8_0.out); (case s30_2 => exact (Iv.Ob.le O8_0.out)); rintro e w30 ⟨rfl, hb⟩; obtain ⟨nd_, hd_⟩ := hb; have hb := show Below (World.heap w29).size w29 w30 from hd_ ▸ pw_below_drewN (Below.refl _ _) nd_; clear hd_; replace O5_0 := Aside0.mk (Iv.Ob.below O5_0.out hb); replace O5_1 := Aside0.mk (Iv.Ob.below O5_1.out hb); replace O8_0 := Aside0.mk (Iv.Ob.below O8_0.out hb); replace O8_1 := Aside0.mk (Iv.Ob.below O8_1.out hb); replace bx1_ := Bx.box_later bx1_ hb; replace bx2_ := Bx.box_later bx2_ hb; replace bx3_ := Bx.box_later bx3_ hb; replace bx4_ := Bx.box_later bx4_ hb; replace HB := Aside0.mk (below_step HB.out hb); clear hb))
  go_wp2_with (first | (go_at_call 26; with_reducible refine Bx.calls_at ?e31_ ((laws_heldIntS.calls k11 B8_1 e8_1 (Ax.mkIntS y1_0 M3) M3 M4 _ ?s31_1 ?s31_2 H11.out).mono ?_); (case e31_ => simp only [Ax.mkIntS_length, Ax.mkOf_length]); (case s31_1 => exact Iv.Ob.C O8_1.out); (case s31_2 => exact (Iv.Ob.le O8_1.out)); rintro e w31 ⟨rfl, hb⟩; obtain ⟨nd_, hd_⟩ := hb; have hb := show Below (World.heap w30).size w30 w31 from hd_ ▸ pw_below_drewN (Below.refl _ _) nd_; clear hd_; replace O5_0 := Aside0.mk (Iv.Ob.below O5_0.out hb); replace O5_1 := Aside0.mk (Iv.Ob.below O5_1.out hb); replace O8_0 := Aside0.mk (Iv.Ob.below O8_0.out hb); replace O8_1 := Aside0.mk (Iv.Ob.below O8_1.out hb); replace bx1_ := Bx.box_later bx1_ hb; replace bx2_ := Bx.box_later bx2_ hb; replace bx3_ := Bx.box_later bx3_ hb; replace bx4_ := Bx.box_later bx4_ hb; replace HB := Aside0.mk (below_step HB.out hb); clear hb))
  go_ret
  exact ⟨rfl, HB.out⟩
end Go.Proofs.Ytmbfgfhncbmgpaa.L

/- The walk of the law FnExactSplitBy (LSplitBy), what its callees come to, and its pure statement (USplitBy) together. Written by lawkk.py. No condition. -/
namespace Go.Proofs.Ytmbfgfhncbmgpaa.K
open Go.RowKit Go.Proofs.Ytmbfgfhncbmgpaa Go.Proofs.Ytmbfgfhncbmgpaa.Ops Go.Proofs.Ytmbfgfhncbmgpaa.Ax Go.Proofs.Ytmbfgfhncbmgpaa.Pr Go.Proofs.Ytmbfgfhncbmgpaa.Pl Go.Proofs.YtmbfgfhncbmgpaaW.PrintWords
set_option linter.unusedVariables false
set_option maxRecDepth 100000 in
theorem SplitBy (a0 : Int) (A1 : Option Addr) (c1 : Nat) (y1 : (List Int)) (y2 : S25) (A2_0 : Option Addr) (c2_0 : Nat) (A2_1 : Option Addr) (c2_1 : Nat) (w : World) (h0 : Fii64 a0) (hl1 : y1.length ≤ c1) (hr1 : Kd.C (Kd.int .i64) w A1 y1.length y1) (h1 : FLii64 y1) (hl2_0 : y2.f0.length ≤ c2_0) (hr2_0 : Kd.C (Kd.int .i64) w A2_0 y2.f0.length y2.f0) (hl2_1 : y2.f1.length ≤ c2_1) (hr2_1 : Kd.C (Kd.int .i64) w A2_1 y2.f1.length y2.f1) (h2 : F25 y2) :
    Calls Try.prog 4 #[.int .i64 a0, .slice A1 y1.length c1, .agg #[.slice A2_0 y2.f0.length c2_0, .slice A2_1 y2.f1.length c2_1]] w fun e w' => e = .returned (.bool true) ∧ Below w.heap.size w w' := by
  by_cases g0 : (y1.length : Int) > 1048576
  · exact L.SplitBy_len0 a0 A1 c1 y1 A2_0 c2_0 y2.f0 A2_1 c2_1 y2.f1 w (Aside0.mk hr1) (Aside0.mk hl1) (Aside0.mk hr2_0) (Aside0.mk hl2_0) (Aside0.mk hr2_1) (Aside0.mk hl2_1) (decide_eq_true (by omega)) (decide_eq_true (by omega)) 
  have hB1 : BdIntS y1 := ⟨by omega, fun _ _ => trivial⟩
  obtain ⟨s1, v0, le0, b0⟩ := szDep_ev y2 1048576 h2 (by omega) (by omega)
  obtain ⟨k1, e1⟩ := Ev.rounds v0
  by_cases hr0_ : s1 < 0
  · exact L.SplitBy_sz0 a0 A1 c1 y1 A2_0 c2_0 y2.f0 A2_1 c2_1 y2.f1 s1 w (Aside0.mk hr1) (Aside0.mk hl1) (Aside0.mk hr2_0) (Aside0.mk hl2_0) (Aside0.mk hr2_1) (Aside0.mk hl2_1) (Aside0.mk e1) (decide_eq_false (by omega)) (decide_eq_false (by omega)) (decide_eq_true (by omega))
  have hB2 := b0 (by omega)
  obtain ⟨Y0_0, Y1_0, Y2, es, ei, hY0_0, hY1_0⟩ := Pu.SplitBy_both a0 y1 ((cvDep y2).f0) ((cvDep y2).f1) hB1 hB2.1 hB2.2
  have cb0 : Ax.cntIntS y1 ≤ 1125899906842624 := Nat.le_trans (Ax.cntIntS_bd hB1) (by decide)
  have cb1 : Ax.cntDep ((cvDep y2).f0) ((cvDep y2).f1) ≤ 1125899906842624 := Nat.le_trans (Ax.cntDep_bd (hB2.1) (hB2.2)) (by decide)
  have cb2 : Ax.cntIntS Y0_0 ≤ 1125899906842624 := Nat.le_trans (Ax.cntIntS_bd hY0_0) (by decide)
  have cb3 : Ax.cntIntS Y1_0 ≤ 1125899906842624 := Nat.le_trans (Ax.cntIntS_bd hY1_0) (by decide)
  obtain ⟨k2, e2⟩ := Ev.rounds (toIntS_ev y1 hB1)
  obtain ⟨k3, e3⟩ := Ev.rounds (toDep_ev y2 hB2)
  obtain ⟨k4, e4⟩ := Ev.rounds (es)
  obtain ⟨k5, e5⟩ := Ev.rounds (ei)
  obtain ⟨k6, e6⟩ := Ev.rounds (eqIntS_ev _ (ok_IntS hY0_0))
  obtain ⟨k7, e7⟩ := Ev.rounds (eqIntS_ev _ (ok_IntS hY1_0))
  obtain ⟨k8, e8⟩ := Ev.rounds (eqIntS_ev _ (ok_IntS hB1))
  obtain ⟨k9, e9⟩ := Ev.rounds (eqDep_ev (cvDep y2) (ok_Dep hB2))
  obtain ⟨k10, e10⟩ := Ev.rounds (Ax.heldIntS_ev' Y0_0 1 (by omega) (by omega))
  obtain ⟨k11, e11⟩ := Ev.rounds (Ax.heldIntS_ev' Y1_0 ((1 : Int) + (Ax.cntIntS Y0_0 : Nat)) (by omega) (by omega))
  exact L.SplitBy a0 A1 c1 y1 A2_0 c2_0 y2.f0 A2_1 c2_1 y2.f1 s1 y1 k2 (cvDep y2).f0 (cvDep y2).f1 k3 Y0_0 Y1_0 Y2 k4 k5 k6 k7 k8 k9 ((1 : Int) + (Ax.cntIntS y1 : Nat)) (((1 : Int) + (Ax.cntIntS y1 : Nat)) + (Ax.cntDep ((cvDep y2).f0) ((cvDep y2).f1) : Nat)) ((1 : Int) + (Ax.cntIntS Y0_0 : Nat)) (((1 : Int) + (Ax.cntIntS Y0_0 : Nat)) + (Ax.cntIntS Y1_0 : Nat)) k10 k11 w (Aside0.mk hr1) (Aside0.mk hl1) (Aside0.mk hr2_0) (Aside0.mk hl2_0) (Aside0.mk hr2_1) (Aside0.mk hl2_1) (Aside0.mk e1) (Aside0.mk e2) (Aside0.mk e3) (Aside0.mk e4) (Aside0.mk e5) (Aside0.mk e6) (Aside0.mk e7) (Aside0.mk e8) (Aside0.mk e9) (Aside0.mk e10) (Aside0.mk e11) (decide_eq_false (by omega)) (decide_eq_false (by omega)) (decide_eq_false (by omega)) (decide_eq_false (by omega)) (decide_eq_false (by omega)) (decide_eq_false (by omega)) (decide_eq_false (by omega)) (Aside0.mk (by omega)) (Aside0.mk ⟨rfl, by omega⟩) (Aside0.mk (by omega)) (Aside0.mk ⟨rfl, by omega⟩) (Aside0.mk (by omega)) (Aside0.mk ⟨rfl, by omega⟩) (Aside0.mk (by omega)) (Aside0.mk ⟨rfl, by omega⟩)
end Go.Proofs.Ytmbfgfhncbmgpaa.K
