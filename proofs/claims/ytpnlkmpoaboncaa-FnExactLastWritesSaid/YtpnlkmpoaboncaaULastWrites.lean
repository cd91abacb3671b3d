/- The law FnExactLastWrites over numbers and lists alone. No condition. -/
import Derived.Test.YtpnlkmpoaboncaaPr0
import Derived.Test.YtpnlkmpoaboncaaPr1
import Derived.Test.YtpnlkmpoaboncaaPr2
import Derived.Test.YtpnlkmpoaboncaaOps
import Derived.Test.YtpnlkmpoaboncaaA7l
import Derived.Test.YtpnlkmpoaboncaaAm
namespace Go.Proofs.Ytpnlkmpoaboncaa.Pu
open Go.RowKit Go.Proofs.Ytpnlkmpoaboncaa.Pr Go.Proofs.Ytpnlkmpoaboncaa.Pl Go.Proofs.Ytpnlkmpoaboncaa.Ax Go.Proofs.Ytpnlkmpoaboncaa.Ops Go.Proofs.YtpnlkmpoaboncaaW.PrintWords Go.Proofs.YtpnlkmpoaboncaaW.PrintLast Go.Proofs.YtpnlkmpoaboncaaW.PrintMore
set_option linter.unusedVariables false
set_option linter.unusedSimpArgs false
theorem iLasts_l0 (l : List S44) (hb : l.length < 9223372036854775807) : ∀ (d j : Nat) (out : List Int), j + d = 4 → out.length ≤ 4 - d → Ev (fun k => impl_LastWrites.l0 k l out (j : Int)) (out ++ lasts l j d, true)
  | 0, j, out, h, ho => by
    refine ev_succ ?_
    simp only [impl_LastWrites.l0]
    simp only [if_neg (show ¬ ((j : Int) < 4) by omega)]
    exact ev_now (by simp [lasts])
  | d + 1, j, out, h, ho => by
    have ih := iLasts_l0 l hb d (j + 1) (out ++ [lw l (j : Int)]) (by omega) (by simp; omega)
    refine ev_succ ?_
    simp only [impl_LastWrites.l0]
    simp only [if_pos (show (j : Int) < 4 by omega), wrap_succ (show j < 9223372036854775807 by omega), lastWrite_eq l _ hb, Option.bind_some, if_pos (show out.length < 17592186044416 by omega)]
    rw [lasts_succ]
    simpa using ih
theorem LastWrites_both (l : List S44) (hb : l.length < 9223372036854775807) : ∃ out ok, Ev (fun k => spec_LastWrites.f k l) (out, ok) ∧ Ev (fun k => impl_LastWrites.f k l) (out, ok) ∧ out.length ≤ 16 := by
  simp only [spec_LastWrites.f, impl_LastWrites.f]
  cases e : gp l
  · exact ⟨[], false, Ev.bind (sGoodPlay_ev l hb) (by simp only [e, Bool.false_eq_true, if_false]; exact ev_now rfl), Ev.bind (iGoodPlay_ev l) (by simp only [e, Bool.false_eq_true, if_false]; exact ev_now rfl), by simp⟩
  · refine ⟨lasts l 0 4, true, Ev.bind (sGoodPlay_ev l hb) ?_, Ev.bind (iGoodPlay_ev l) ?_, by rw [lasts_length]; omega⟩
    · simp only [e, if_true]
      exact Ev.bind (lasts_ev l hb) (ev_now rfl)
    · simp only [e, if_true]
      simpa using iLasts_l0 l hb 4 0 [] rfl (by simp)
theorem LastWrites (y0 : (List S46)) (h0 : FL46 y0) : ∃ k, laws_FnExactLastWrites.f k y0 = some true := by
  refine Ev.rounds ?_
  simp only [laws_FnExactLastWrites.f]
  obtain ⟨r, e1, _, b⟩ := szActS_ev y0 1048576 h0 (by omega) (by omega)
  refine Ev.bind e1 ?_
  by_cases hr : r < 0
  · simp only [if_pos hr]
    exact ev_now rfl
  · simp only [if_neg hr]
    have hB := b (by omega)
    have hc := toActS_ev y0 hB
    have hl := hB.1
    obtain ⟨out, ok, es, ei, hlo⟩ := LastWrites_both (y0.map cvAct) (by simp; omega)
    have ho : OkIntS out := ⟨by omega, fun _ _ => trivial⟩
    refine Ev.bind hc (Ev.bind es (Ev.bind hc (Ev.bind ei (Ev.bind (eqIntS_ev out ho) ?_))))
    simp only [if_true, bne_self_eq_false]
    refine ev_succ ?_
    simp only [laws_FnExactLastWrites.j0, Bool.false_eq_true, if_false]
    refine Ev.bind hc (Ev.bind (eqActS_ev _ (ok_ActS hB)) ?_)
    simp only [if_true]
    refine Ev.bind (markActS_ev _ 1 (by omega) (by simp; omega)) ?_
    simp only [if_neg (show ¬ (1 + 3 * ((y0.map cvAct).length : Int) < 0) by omega)]
    refine Ev.bind (eqIntS_ev out ho) ?_
    simp only [if_true, bne_self_eq_false]
    refine ev_succ ?_
    simp only [laws_FnExactLastWrites.j1, Bool.false_eq_true, if_false]
    refine Ev.bind (markIntS_ev out 1 (by omega) (by omega)) (Ev.bind (heldIntS_ev _ 1 (by omega) (by omega)) ?_)
    simp only [if_neg (show ¬ (1 + (out.length : Int) < 0) by omega), if_true]
    refine Ev.bind hc (Ev.bind ei (Ev.bind (eqIntS_ev out ho) ?_))
    simp only [if_true, bne_self_eq_false]
    refine ev_succ ?_
    simp only [laws_FnExactLastWrites.j2, Bool.false_eq_true, if_false]
    refine Ev.bind (heldIntS_ev _ 1 (by omega) (by omega)) ?_
    simp only [if_neg (show ¬ (1 + (out.length : Int) < 0) by omega), if_true]
    exact ev_now rfl
end Go.Proofs.Ytpnlkmpoaboncaa.Pu
