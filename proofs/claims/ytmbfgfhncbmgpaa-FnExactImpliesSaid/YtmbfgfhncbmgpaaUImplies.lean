/- The law FnExactImplies over numbers and lists alone. No condition. -/
import Derived.Test.YtmbfgfhncbmgpaaPr0
import Derived.Test.YtmbfgfhncbmgpaaPr2
import Derived.Test.YtmbfgfhncbmgpaaPr6
import Derived.Test.YtmbfgfhncbmgpaaOps
import Derived.Test.YtmbfgfhncbmgpaaA6
import Derived.Test.YtmbfgfhncbmgpaaCv
namespace Go.Proofs.Ytmbfgfhncbmgpaa.Pu
open Go.RowKit Go.Proofs.Ytmbfgfhncbmgpaa.Pr Go.Proofs.Ytmbfgfhncbmgpaa.Pl Go.Proofs.Ytmbfgfhncbmgpaa.Ax Go.Proofs.Ytmbfgfhncbmgpaa.Ops Go.Proofs.YtmbfgfhncbmgpaaW.PrintWords Go.Proofs.YtmbfgfhncbmgpaaW.PrintLast Go.Proofs.YtmbfgfhncbmgpaaW.PrintMore
set_option linter.unusedVariables false
set_option linter.unusedSimpArgs false
def vImp (a : Int) (l : List S32) (f t : List Int) : Bool × Bool := if gdV a l = true ∧ okD a ⟨f, t⟩ = true then (sub t (clo l f), true) else (false, false)
theorem implS_ev (a : Int) (l : List S32) (f t : List Int) (hO : OkDepS l) (hf : OkIntS f) (ht : OkIntS t) : Ev (fun k => spec_Implies.f k a l f t) (vImp a l f t) := by
  simp only [spec_Implies.f]
  refine Ev.bind (sGD_ev a l hO) (Ev_ite (fun e => ?_) (fun e => ?_))
  · refine Ev.bind (l5Dep_ev a ⟨f, t⟩ ⟨hf, ht⟩) ?_
    refine ev_succ ?_
    simp only [spec_Implies.j0]
    refine Ev_ite (fun e2 => ?_) (fun e2 => ?_)
    · exact ev_now (by unfold vImp; rw [if_neg]; intro h; rw [h.2] at e2; cases e2)
    · have e3 : okD a ⟨f, t⟩ = true := by simpa using e2
      obtain ⟨⟨h1, h6⟩, hl⟩ := GDs_of e
      have hd : GL a f ∧ GL a t := (okD_iff h1 h6 ⟨f, t⟩).1 e3
      refine Ev.bind (scl_ev h1 h6 hl hd.1) ?_
      have hc := GL_len (by omega) (clo_GL hl hd.1)
      have ht2 := GL_len (by omega) hd.2
      refine Ev.bind (l5Sub_ev t _ (by omega) (by omega)) (ev_now ?_)
      unfold vImp
      rw [if_pos ⟨e, e3⟩]
  · refine ev_succ ?_
    simp only [spec_Implies.j0, if_true]
    exact ev_now (by unfold vImp; rw [if_neg]; intro h; rw [h.1] at e; cases e)
theorem implI_ev (a : Int) (l : List S32) (f t : List Int) (hO : OkDepS l) (hf : OkIntS f) (ht : OkIntS t) : Ev (fun k => impl_Implies.f k a l f t) (vImp a l f t) := by
  simp only [impl_Implies.f, impl_GoodDeps.f, Option.bind_some]
  refine Ev_ite (fun e => ?_) (fun e => ?_)
  · have e0 : gdV a l = true := e
    refine Ev.bind (isDep_ev' a f t (by have := hf.1; omega) (by have := ht.1; omega)) (Ev_ite (fun e3 => ?_) (fun e3 => ?_))
    · obtain ⟨⟨h1, h6⟩, hl⟩ := GDs_of e0
      have hd : GL a f ∧ GL a t := (okD_iff h1 h6 ⟨f, t⟩).1 e3
      refine Ev.bind (implies_ev h1 h6 hl t hd.1) (ev_now ?_)
      unfold vImp
      rw [if_pos ⟨e0, e3⟩]
    · exact ev_now (by unfold vImp; rw [if_neg]; intro h; rw [h.2] at e3; cases e3)
  · exact ev_now (by unfold vImp; rw [if_neg]; intro h; rw [show gdV a l = false from e] at h; cases h.1)
theorem Implies (a0 : Int) (y1 : (List S25)) (y2 : S25) (h0 : Fii64 a0) (h1 : FL25 y1) (h2 : F25 y2) : ∃ k, laws_FnExactImplies.f k a0 y1 y2.f0 y2.f1 = some true := by
  refine Ev.rounds ?_
  simp only [laws_FnExactImplies.f]
  obtain ⟨r, e1, _, b⟩ := szDepS_ev y1 1048576 h1 (by omega) (by omega)
  refine Ev.bind e1 ?_
  by_cases hr : r < 0
  · simp only [if_pos hr]
    exact ev_now rfl
  · simp only [if_neg hr]
    have hB := b (by omega)
    obtain ⟨r2, e2, _, b2⟩ := szDep_ev y2 r h2 (by omega) (by omega)
    refine Ev.bind e2 ?_
    by_cases hr2 : r2 < 0
    · simp only [if_pos hr2]
      exact ev_now rfl
    · simp only [if_neg hr2]
      have hB2 := b2 (by omega)
      have hc := toDepS_ev y1 hB
      have hc2 := toDep_ev y2 hB2
      have hO := ok_DepS hB
      have hO2 := ok_Dep hB2
      refine Ev.bind hc (Ev.bind hc2 (Ev.bind (implS_ev a0 _ _ _ hO hO2.1 hO2.2) (Ev.bind hc (Ev.bind hc2 (Ev.bind (implI_ev a0 _ _ _ hO hO2.1 hO2.2) ?_)))))
      simp only [bne_self_eq_false, Bool.false_eq_true, if_false]
      refine ev_succ ?_
      simp only [laws_FnExactImplies.j0, Bool.false_eq_true, if_false]
      refine Ev.bind hc (Ev.bind (eqDepS_ev _ hO) ?_)
      simp only [if_true]
      refine Ev.bind hc2 (Ev.bind (eqDep_ev _ hO2) ?_)
      simp only [if_true]
      exact ev_now rfl
end Go.Proofs.Ytmbfgfhncbmgpaa.Pu
