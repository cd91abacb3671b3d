/- Several small texts together: EqRel, Aimp. No condition but those they name. -/
import Derived.Test.YtcengijoicmldaaGreatPr9
import Derived.Test.YtcengijoicmldaaGreatMerge0
import Derived.Test.YtcengijoicmldaaGreatPr0
import Derived.Test.YtcengijoicmldaaGreatPr6
/- A relation compared with itself (a seat without laws.Relation: cv.py does not write it). Conditions: lengths that Go can hold. -/
namespace Go.Proofs.YtcengijoicmldaaGreat.Ax
open Go.RowKit Go.Proofs.YtcengijoicmldaaGreat.Pr Go.Proofs.YtcengijoicmldaaGreat.Pl Go.Proofs.YtcengijoicmldaaGreatW.PrintWords Go.Proofs.YtcengijoicmldaaGreatW.PrintLast Go.Proofs.YtcengijoicmldaaGreatW.PrintMore
set_option linter.unusedVariables false
set_option linter.unusedSimpArgs false
theorem eqRelation_ev (x : List Int × List (List Int)) (hO : OkIntS x.1 ∧ OkIntSS x.2) : Ev (fun k => laws_eqRelation.f k x.1 x.2 x.1 x.2) true := by
  simp only [laws_eqRelation.f]
  refine Ev.bind (eqIntS_ev x.1 hO.1) ?_
  simp only [if_true]
  refine Ev.bind (eqIntSS_ev x.2 hO.2) ?_
  simp only [if_true]
  exact ev_now rfl
end Go.Proofs.YtcengijoicmldaaGreat.Ax

/- What the reference's Implies comes to. Conditions: lengths that Go can hold. -/
namespace Go.Proofs.YtcengijoicmldaaGreat.Pu
open Go.RowKit Go.Proofs.YtcengijoicmldaaGreat.Pr Go.Proofs.YtcengijoicmldaaGreat.Pl Go.Proofs.YtcengijoicmldaaGreat.Ax Go.Proofs.YtcengijoicmldaaGreatW.PrintWords Go.Proofs.YtcengijoicmldaaGreatW.PrintLast Go.Proofs.YtcengijoicmldaaGreatW.PrintMore
set_option linter.unusedVariables false
set_option linter.unusedSimpArgs false
def vImp (a : Int) (l : List S35) (f t : List Int) : Bool × Bool := if gdV a l = true ∧ okD a ⟨f, t⟩ = true then (sub t (clo l f), true) else (false, false)
theorem implS_ev (a : Int) (l : List S35) (f t : List Int) (hO : OkDepS l) (hf : OkIntS f) (ht : OkIntS t) : Ev (fun k => spec_Implies.f k a l f t) (vImp a l f t) := by
  simp only [spec_Implies.f]
  refine Ev.bind (sGD_ev a l hO) (Ev_ite (fun e => ?_) (fun e => ?_))
  · refine Ev.bind (l5Dep_ev a ⟨f, t⟩ ⟨hf, ht⟩) ?_
    refine ev_succ ?_
    simp only [spec_Implies.j0]
    refine Ev_ite (fun e2 => ?_) (fun e2 => ?_)
    · exact ev_now (by unfold vImp; rw [if_neg]; intro h; rw [h.2] at e2; cases e2)
    · have e3 : okD a ⟨f, t⟩ = true := by simpa using e2
      obtain ⟨⟨h1, h6⟩, hl⟩ := GDs_of e
      have hd : GL a f ∧ GL a t := (okD_iff h1 h6 ⟨f, t⟩).1 e3
      refine Ev.bind (scl_ev h1 h6 hl hd.1) ?_
      have hc := GL_len (by omega) (clo_GL hl hd.1)
      have ht2 := GL_len (by omega) hd.2
      refine Ev.bind (l5Sub_ev t _ (by omega) (by omega)) (ev_now ?_)
      unfold vImp
      rw [if_pos ⟨e, e3⟩]
  · refine ev_succ ?_
    simp only [spec_Implies.j0, if_true]
    exact ev_now (by unfold vImp; rw [if_neg]; intro h; rw [h.1] at e; cases e)
end Go.Proofs.YtcengijoicmldaaGreat.Pu
