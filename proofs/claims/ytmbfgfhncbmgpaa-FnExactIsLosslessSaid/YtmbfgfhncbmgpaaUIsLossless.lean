/- The law FnExactIsLossless over numbers and lists alone. No condition. -/
import Derived.Test.YtmbfgfhncbmgpaaPr0
import Derived.Test.YtmbfgfhncbmgpaaPr3
import Derived.Test.YtmbfgfhncbmgpaaPr8
import Derived.Test.YtmbfgfhncbmgpaaOps
import Derived.Test.YtmbfgfhncbmgpaaA6
import Derived.Test.YtmbfgfhncbmgpaaCv
namespace Go.Proofs.Ytmbfgfhncbmgpaa.Pu
open Go.RowKit Go.Proofs.Ytmbfgfhncbmgpaa.Pr Go.Proofs.Ytmbfgfhncbmgpaa.Pl Go.Proofs.Ytmbfgfhncbmgpaa.Ax Go.Proofs.Ytmbfgfhncbmgpaa.Ops Go.Proofs.YtmbfgfhncbmgpaaW.PrintWords Go.Proofs.YtmbfgfhncbmgpaaW.PrintLast Go.Proofs.YtmbfgfhncbmgpaaW.PrintMore
set_option linter.unusedVariables false
set_option linter.unusedSimpArgs false
def vLl (a : Int) (l : List S32) (p q : List Int) : Bool × Bool := if gdV a l = true ∧ rs 0 (wrap64 (a - 1)) none p = true ∧ rs 0 (wrap64 (a - 1)) none q = true ∧ ((puts p q).length : Int) = a then (sub p (clo l (p.filter fun x => q.contains x)) || sub q (clo l (p.filter fun x => q.contains x)), true) else (false, false)
theorem llS_ev (a : Int) (l : List S32) (p q : List Int) (hO : OkDepS l) (hp : OkIntS p) (hq : OkIntS q) : Ev (fun k => spec_IsLossless.f k a l p q) (vLl a l p q) := by
  have no : ∀ b : Bool, b = true → ¬ (gdV a l = true ∧ rs 0 (wrap64 (a - 1)) none p = true ∧ rs 0 (wrap64 (a - 1)) none q = true ∧ ((puts p q).length : Int) = a) → Ev (fun k => spec_IsLossless.j0 k l p q b) (vLl a l p q) := fun b hb h => by
    subst hb
    refine ev_succ ?_
    simp only [spec_IsLossless.j0, if_true]
    exact ev_now (by unfold vLl; rw [if_neg h])
  simp only [spec_IsLossless.f]
  refine Ev.bind (l6Part_ev a l p hO hp.1) (Ev_ite (fun e => ?_) (fun e => ?_))
  · rw [Bool.and_eq_true] at e
    refine Ev.bind (l6Part_ev a l q hO hq.1) (Ev_ite (fun e2 => ?_) (fun e2 => ?_))
    · rw [Bool.and_eq_true] at e2
      obtain ⟨⟨h1, h6⟩, hl⟩ := GDs_of e.1
      have hpg := GL_of_rs h1 h6 e.2
      have hqg := GL_of_rs h1 h6 e2.2
      have lp := GL_len (by omega) hpg
      have lq := GL_len (by omega) hqg
      refine Ev.bind (l6Either_ev p q (by omega)) ?_
      by_cases e4 : ((puts p q).length : Int) = a
      · rw [show (((puts p q).length : Int) != a) = false by simpa using e4]
        refine ev_succ ?_
        simp only [spec_IsLossless.j0, Bool.false_eq_true, if_false]
        have hfg := filter_GL (fun x => q.contains x) hpg
        have hc := GL_len (by omega) (clo_GL hl hfg)
        refine Ev.bind (l6Both_ev p q (by omega) (by omega)) (Ev.bind (scl_ev h1 h6 hl hfg) (Ev.bind (l5Sub_ev p _ (by omega) (by omega)) (Ev_ite (fun e5 => ?_) (fun e5 => ?_))))
        · exact ev_now (by unfold vLl; rw [if_pos ⟨e.1, e.2, e2.2, e4⟩, e5]; rfl)
        · exact Ev.bind (l5Sub_ev q _ (by omega) (by omega)) (ev_now (by unfold vLl; rw [if_pos ⟨e.1, e.2, e2.2, e4⟩, e5]; rfl))
      · exact no _ (by simpa using e4) (fun h => e4 h.2.2.2)
    · exact no _ rfl (fun h => by rw [h.1, h.2.2.1] at e2; cases e2)
  · exact no _ rfl (fun h => by rw [h.1, h.2.1] at e; cases e)
theorem llI_ev (a : Int) (l : List S32) (p q : List Int) (hO : OkDepS l) (hp : OkIntS p) (hq : OkIntS q) : Ev (fun k => impl_IsLossless.f k a l p q) (vLl a l p q) := by
  have no : ∀ b : Bool, b = true → ¬ (gdV a l = true ∧ rs 0 (wrap64 (a - 1)) none p = true ∧ rs 0 (wrap64 (a - 1)) none q = true ∧ ((puts p q).length : Int) = a) → Ev (fun k => impl_IsLossless.j0 k l p q b) (vLl a l p q) := fun b hb h => by
    subst hb
    refine ev_succ ?_
    simp only [impl_IsLossless.j0, if_true]
    exact ev_now (by unfold vLl; rw [if_neg h])
  simp only [impl_IsLossless.f, impl_GoodDeps.f, Option.bind_some]
  refine Ev_ite (fun e => ?_) (fun e => ?_)
  · have e0 : gdV a l = true := e
    obtain ⟨⟨h1, h6⟩, hl⟩ := GDs_of e0
    refine Ev.bind (areCols_ev a p hp.1) (Ev_ite (fun e1 => ?_) (fun e1 => ?_))
    · refine Ev.bind (areCols_ev a q hq.1) (Ev_ite (fun e2 => ?_) (fun e2 => ?_))
      · have hpg := GL_of_rs h1 h6 e1
        have hqg := GL_of_rs h1 h6 e2
        have lp := GL_len (by omega) hpg
        have lq := GL_len (by omega) hqg
        simp only [impl_together.f, if_pos (show (p.length + q.length) * 8 ≤ 140737488351232 by omega), Option.bind_some, tog_puts hpg.1]
        by_cases e4 : ((puts p q).length : Int) = a
        · rw [show (((puts p q).length : Int) != a) = false by simpa using e4]
          refine ev_succ ?_
          simp only [impl_IsLossless.j0, Bool.false_eq_true, if_false, impl_both.f, if_pos (show p.length * 8 ≤ 140737488355328 by omega), Option.bind_some, impl_hasAll.f]
          have hfg := filter_GL (fun x => q.contains x) hpg
          refine Ev.bind (icl_ev h1 h6 hl hfg) (Ev_ite (fun e5 => ?_) (fun e5 => ?_))
          · exact ev_now (by unfold vLl; rw [if_pos ⟨e0, e1, e2, e4⟩, show sub p _ = true from e5]; rfl)
          · exact ev_now (by unfold vLl; rw [if_pos ⟨e0, e1, e2, e4⟩, show sub p _ = false from e5]; rfl)
        · exact no _ (by simpa using e4) (fun h => e4 h.2.2.2)
      · exact no _ rfl (fun h => by rw [h.2.2.1] at e2; cases e2)
    · exact no _ rfl (fun h => by rw [h.2.1] at e1; cases e1)
  · exact no _ rfl (fun h => by rw [show gdV a l = false from e] at h; cases h.1)
theorem IsLossless (a0 : Int) (y1 : (List S25)) (y2 : (List Int)) (y3 : (List Int)) (h0 : Fii64 a0) (h1 : FL25 y1) (h2 : FLii64 y2) (h3 : FLii64 y3) : ∃ k, laws_FnExactIsLossless.f k a0 y1 y2 y3 = some true := by
  refine Ev.rounds ?_
  simp only [laws_FnExactIsLossless.f]
  by_cases hg : (y2.length : Int) > 1048576
  · simp only [if_pos hg]
    exact ev_now rfl
  by_cases hg3 : (y3.length : Int) > 1048576
  · simp only [if_neg hg, if_pos hg3]
    exact ev_now rfl
  simp only [if_neg hg, if_neg hg3]
  have hP : BdIntS y2 := ⟨by omega, fun _ _ => trivial⟩
  have hQ : BdIntS y3 := ⟨by omega, fun _ _ => trivial⟩
  obtain ⟨r, e1, _, b⟩ := szDepS_ev y1 1048576 h1 (by omega) (by omega)
  refine Ev.bind e1 ?_
  by_cases hr : r < 0
  · simp only [if_pos hr]
    exact ev_now rfl
  · simp only [if_neg hr]
    have hB := b (by omega)
    have hc := toDepS_ev y1 hB
    have hcp := toIntS_ev y2 hP
    have hcq := toIntS_ev y3 hQ
    have hO := ok_DepS hB
    have hOp := ok_IntS hP
    have hOq := ok_IntS hQ
    refine Ev.bind hc (Ev.bind hcp (Ev.bind hcq (Ev.bind (llS_ev a0 _ _ _ hO hOp hOq) (Ev.bind hc (Ev.bind hcp (Ev.bind hcq (Ev.bind (llI_ev a0 _ _ _ hO hOp hOq) ?_)))))))
    simp only [bne_self_eq_false, Bool.false_eq_true, if_false]
    refine ev_succ ?_
    simp only [laws_FnExactIsLossless.j0, Bool.false_eq_true, if_false]
    refine Ev.bind hc (Ev.bind (eqDepS_ev _ hO) ?_)
    simp only [if_true]
    refine Ev.bind hcp (Ev.bind (eqIntS_ev _ hOp) ?_)
    simp only [if_true]
    refine Ev.bind hcq (Ev.bind (eqIntS_ev _ hOq) ?_)
    simp only [if_true]
    exact ev_now rfl
end Go.Proofs.Ytmbfgfhncbmgpaa.Pu
