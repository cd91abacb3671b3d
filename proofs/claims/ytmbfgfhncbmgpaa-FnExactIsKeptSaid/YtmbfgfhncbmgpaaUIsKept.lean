/- The law FnExactIsKept over numbers and lists alone. No condition. -/
import Derived.Test.YtmbfgfhncbmgpaaPr0
import Derived.Test.YtmbfgfhncbmgpaaPr6
import Derived.Test.YtmbfgfhncbmgpaaPr7
import Derived.Test.YtmbfgfhncbmgpaaOps
import Derived.Test.YtmbfgfhncbmgpaaA6
import Derived.Test.YtmbfgfhncbmgpaaCv
namespace Go.Proofs.Ytmbfgfhncbmgpaa.Pu
open Go.RowKit Go.Proofs.Ytmbfgfhncbmgpaa.Pr Go.Proofs.Ytmbfgfhncbmgpaa.Pl Go.Proofs.Ytmbfgfhncbmgpaa.Ax Go.Proofs.Ytmbfgfhncbmgpaa.Ops Go.Proofs.YtmbfgfhncbmgpaaW.PrintWords Go.Proofs.YtmbfgfhncbmgpaaW.PrintLast Go.Proofs.YtmbfgfhncbmgpaaW.PrintMore
set_option linter.unusedVariables false
set_option linter.unusedSimpArgs false
def vKept (a : Int) (l : List S32) (p f t : List Int) : Bool × Bool := if gdV a l = true ∧ rs 0 (wrap64 (a - 1)) none p = true ∧ okD a ⟨f, t⟩ = true ∧ sub f p = true ∧ sub t p = true then (sub t (clo l f), true) else (false, false)
theorem keptS_ev (a : Int) (l : List S32) (p f t : List Int) (hO : OkDepS l) (hp : OkIntS p) (hf : OkIntS f) (ht : OkIntS t) : Ev (fun k => spec_IsKept.f k a l p f t) (vKept a l p f t) := by
  have no : ∀ b : Bool, b = true → ¬ (gdV a l = true ∧ rs 0 (wrap64 (a - 1)) none p = true ∧ okD a ⟨f, t⟩ = true ∧ sub f p = true ∧ sub t p = true) → Ev (fun k => spec_IsKept.j0 k l b f t) (vKept a l p f t) := fun b hb h => by
    subst hb
    refine ev_succ ?_
    simp only [spec_IsKept.j0, if_true]
    exact ev_now (by unfold vKept; rw [if_neg h])
  simp only [spec_IsKept.f]
  refine Ev.bind (l6Part_ev a l p hO hp.1) (Ev_ite (fun e => ?_) (fun e => ?_))
  · rw [Bool.and_eq_true] at e
    refine Ev.bind (l5Dep_ev a ⟨f, t⟩ ⟨hf, ht⟩) (Ev_ite (fun e2 => ?_) (fun e2 => ?_))
    · obtain ⟨⟨h1, h6⟩, hl⟩ := GDs_of e.1
      have hd : GL a f ∧ GL a t := (okD_iff h1 h6 ⟨f, t⟩).1 e2
      have hpg := GL_of_rs h1 h6 e.2
      have lp := GL_len (by omega) hpg
      have lf := GL_len (by omega) hd.1
      have lt_ := GL_len (by omega) hd.2
      refine Ev.bind (l5Sub_ev f p (by omega) (by omega)) (Ev_ite (fun e3 => ?_) (fun e3 => ?_))
      · refine Ev.bind (l5Sub_ev t p (by omega) (by omega)) ?_
        cases e4 : sub t p with
        | false => exact no _ rfl (fun h => by rw [h.2.2.2.2] at e4; cases e4)
        | true =>
          refine ev_succ ?_
          simp only [spec_IsKept.j0, Bool.not_true, Bool.false_eq_true, if_false]
          refine Ev.bind (scl_ev h1 h6 hl hd.1) ?_
          have hc := GL_len (by omega) (clo_GL hl hd.1)
          refine Ev.bind (l5Sub_ev t _ (by omega) (by omega)) (ev_now ?_)
          unfold vKept
          rw [if_pos ⟨e.1, e.2, e2, e3, e4⟩]
      · exact no _ rfl (fun h => by rw [h.2.2.2.1] at e3; cases e3)
    · exact no _ rfl (fun h => by rw [h.2.2.1] at e2; cases e2)
  · exact no _ rfl (fun h => by rw [h.1, h.2.1] at e; cases e)
theorem keptI_ev (a : Int) (l : List S32) (p f t : List Int) (hO : OkDepS l) (hp : OkIntS p) (hf : OkIntS f) (ht : OkIntS t) : Ev (fun k => impl_IsKept.f k a l p f t) (vKept a l p f t) := by
  have no : ¬ (gdV a l = true ∧ rs 0 (wrap64 (a - 1)) none p = true ∧ okD a ⟨f, t⟩ = true ∧ sub f p = true ∧ sub t p = true) → (false, false) = vKept a l p f t := fun h => by unfold vKept; rw [if_neg h]
  simp only [impl_IsKept.f, impl_GoodDeps.f, Option.bind_some]
  refine Ev_ite (fun e => ?_) (fun e => ?_)
  · have e0 : gdV a l = true := e
    obtain ⟨⟨h1, h6⟩, hl⟩ := GDs_of e0
    refine Ev.bind (areCols_ev a p hp.1) (Ev_ite (fun e1 => ?_) (fun e1 => ?_))
    · have hpg := GL_of_rs h1 h6 e1
      refine Ev.bind (isPart_ev f p hf.1 hp.1) (Ev_ite (fun e3 => ?_) (fun e3 => ?_))
      · rw [pt_sub h1 h6 hpg, Bool.and_eq_true] at e3
        refine Ev.bind (isPart_ev t p ht.1 hp.1) (Ev_ite (fun e4 => ?_) (fun e4 => ?_))
        · rw [pt_sub h1 h6 hpg, Bool.and_eq_true] at e4
          have hfg := GL_of_rs h1 h6 e3.1
          refine Ev.bind (implies_ev h1 h6 hl t hfg) (ev_now ?_)
          unfold vKept
          rw [if_pos ⟨e0, e1, (okD_iff h1 h6 _).2 ⟨hfg, GL_of_rs h1 h6 e4.1⟩, e3.2, e4.2⟩]
        · refine ev_now (no fun h => ?_)
          rw [pt_sub h1 h6 hpg, h.2.2.2.2, rs_of_GL h1 h6 ((okD_iff h1 h6 _).1 h.2.2.1).2] at e4
          cases e4
      · refine ev_now (no fun h => ?_)
        rw [pt_sub h1 h6 hpg, h.2.2.2.1, rs_of_GL h1 h6 ((okD_iff h1 h6 _).1 h.2.2.1).1] at e3
        cases e3
    · exact ev_now (no fun h => by rw [h.2.1] at e1; cases e1)
  · exact ev_now (no fun h => by rw [show gdV a l = false from e] at h; cases h.1)
theorem IsKept (a0 : Int) (y1 : (List S25)) (y2 : (List Int)) (y3 : S25) (h0 : Fii64 a0) (h1 : FL25 y1) (h2 : FLii64 y2) (h3 : F25 y3) : ∃ k, laws_FnExactIsKept.f k a0 y1 y2 y3.f0 y3.f1 = some true := by
  refine Ev.rounds ?_
  simp only [laws_FnExactIsKept.f]
  by_cases hg : (y2.length : Int) > 1048576
  · simp only [if_pos hg]
    exact ev_now rfl
  simp only [if_neg hg]
  have hP : BdIntS y2 := ⟨by omega, fun _ _ => trivial⟩
  obtain ⟨r, e1, _, b⟩ := szDepS_ev y1 1048576 h1 (by omega) (by omega)
  refine Ev.bind e1 ?_
  by_cases hr : r < 0
  · simp only [if_pos hr]
    exact ev_now rfl
  · simp only [if_neg hr]
    have hB := b (by omega)
    obtain ⟨r2, e2, _, b2⟩ := szDep_ev y3 r h3 (by omega) (by omega)
    refine Ev.bind e2 ?_
    by_cases hr2 : r2 < 0
    · simp only [if_pos hr2]
      exact ev_now rfl
    · simp only [if_neg hr2]
      have hB2 := b2 (by omega)
      have hc := toDepS_ev y1 hB
      have hc2 := toDep_ev y3 hB2
      have hcp := toIntS_ev y2 hP
      have hO := ok_DepS hB
      have hO2 := ok_Dep hB2
      have hOp := ok_IntS hP
      refine Ev.bind hc (Ev.bind hcp (Ev.bind hc2 (Ev.bind (keptS_ev a0 _ _ _ _ hO hOp hO2.1 hO2.2) (Ev.bind hc (Ev.bind hcp (Ev.bind hc2 (Ev.bind (keptI_ev a0 _ _ _ _ hO hOp hO2.1 hO2.2) ?_)))))))
      simp only [bne_self_eq_false, Bool.false_eq_true, if_false]
      refine ev_succ ?_
      simp only [laws_FnExactIsKept.j0, Bool.false_eq_true, if_false]
      refine Ev.bind hc (Ev.bind (eqDepS_ev _ hO) ?_)
      simp only [if_true]
      refine Ev.bind hcp (Ev.bind (eqIntS_ev _ hOp) ?_)
      simp only [if_true]
      refine Ev.bind hc2 (Ev.bind (eqDep_ev _ hO2) ?_)
      simp only [if_true]
      exact ev_now rfl
end Go.Proofs.Ytmbfgfhncbmgpaa.Pu
