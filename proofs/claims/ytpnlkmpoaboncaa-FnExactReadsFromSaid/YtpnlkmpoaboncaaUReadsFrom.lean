/- The law FnExactReadsFrom over numbers and lists alone. No condition. -/
import Derived.Test.YtpnlkmpoaboncaaPr0
import Derived.Test.YtpnlkmpoaboncaaPr2
import Derived.Test.YtpnlkmpoaboncaaPr3
import Derived.Test.YtpnlkmpoaboncaaOps
import Derived.Test.YtpnlkmpoaboncaaA7l
import Derived.Test.YtpnlkmpoaboncaaAm
namespace Go.Proofs.Ytpnlkmpoaboncaa.Pu
open Go.RowKit Go.Proofs.Ytpnlkmpoaboncaa.Pr Go.Proofs.Ytpnlkmpoaboncaa.Pl Go.Proofs.Ytpnlkmpoaboncaa.Ax Go.Proofs.Ytpnlkmpoaboncaa.Ops Go.Proofs.YtpnlkmpoaboncaaW.PrintWords Go.Proofs.YtpnlkmpoaboncaaW.PrintLast Go.Proofs.YtpnlkmpoaboncaaW.PrintMore
set_option linter.unusedVariables false
set_option linter.unusedSimpArgs false
theorem iReads_l0 (l : List S44) (hb : l.length < 17592186044416) : ∀ (ys : List S44) (j : Nat) (out : List Int), l.drop j = ys → out.length ≤ j → j ≤ l.length → Ev (fun k => impl_ReadsFrom.l0 k l out l (l.length : Int) (j : Int)) (out ++ rdF l ys j, true)
  | [], j, out, h, ho, hj => by
    have h1 := drop_nil h
    refine ev_succ ?_
    simp only [impl_ReadsFrom.l0]
    simp only [if_neg (show ¬ ((j : Int) < (l.length : Int)) by omega)]
    exact ev_now (by simp [rdF])
  | y :: ys, j, out, h, ho, hj => by
    obtain ⟨h1, h2, h3⟩ := drop_cons h
    refine ev_succ ?_
    simp only [impl_ReadsFrom.l0]
    simp only [if_pos (show (j : Int) < (l.length : Int) by omega), if_pos (show (0 : Int) ≤ (j : Int) by omega), rd_T44_drop h, wrap_succ (show j < 9223372036854775807 by omega), if_pos (show out.length < 17592186044416 by omega), if_pos (show (j : Int) ≤ (l.length : Int) by omega), Int.toNat_natCast, lastWrite_eq (l.take j) _ (by rw [List.length_take]; omega), Option.bind_some]
    cases e : y.f2
    · simp only [Bool.false_eq_true, if_false]
      have ih := iReads_l0 l hb ys (j + 1) (out ++ [lw (l.take j) y.f1]) h3 (by simp; omega) h1
      simpa [rdF, e] using ih
    · simp only [if_true]
      have ih := iReads_l0 l hb ys (j + 1) (out ++ [-2]) h3 (by simp; omega) h1
      simpa [rdF, e] using ih
theorem ReadsFrom_both (l : List S44) (hb : l.length < 9223372036854775807) : ∃ out ok, Ev (fun k => spec_ReadsFrom.f k l) (out, ok) ∧ Ev (fun k => impl_ReadsFrom.f k l) (out, ok) ∧ out.length ≤ 16 := by
  simp only [spec_ReadsFrom.f, impl_ReadsFrom.f]
  cases e : gp l
  · exact ⟨[], false, Ev.bind (sGoodPlay_ev l hb) (by simp only [e, Bool.false_eq_true, if_false]; exact ev_now rfl), Ev.bind (iGoodPlay_ev l) (by simp only [e, Bool.false_eq_true, if_false]; exact ev_now rfl), by simp⟩
  · have hl := gp_len e
    refine ⟨rdF l l 0, true, Ev.bind (sGoodPlay_ev l hb) ?_, Ev.bind (iGoodPlay_ev l) ?_, by rw [rdF_length]; omega⟩
    · simp only [e, if_true]
      exact Ev.bind (reads_ev l (by omega)) (ev_now rfl)
    · simp only [e, if_true]
      simpa using iReads_l0 l (by omega) l 0 [] rfl (Nat.zero_le _) (Nat.zero_le _)
theorem ReadsFrom (y0 : (List S46)) (h0 : FL46 y0) : ∃ k, laws_FnExactReadsFrom.f k y0 = some true := by
  refine Ev.rounds ?_
  simp only [laws_FnExactReadsFrom.f]
  obtain ⟨r, e1, _, b⟩ := szActS_ev y0 1048576 h0 (by omega) (by omega)
  refine Ev.bind e1 ?_
  by_cases hr : r < 0
  · simp only [if_pos hr]
    exact ev_now rfl
  · simp only [if_neg hr]
    have hB := b (by omega)
    have hc := toActS_ev y0 hB
    have hl := hB.1
    obtain ⟨out, ok, es, ei, hlo⟩ := ReadsFrom_both (y0.map cvAct) (by simp; omega)
    have ho : OkIntS out := ⟨by omega, fun _ _ => trivial⟩
    refine Ev.bind hc (Ev.bind es (Ev.bind hc (Ev.bind ei (Ev.bind (eqIntS_ev out ho) ?_))))
    simp only [if_true, bne_self_eq_false]
    refine ev_succ ?_
    simp only [laws_FnExactReadsFrom.j0, Bool.false_eq_true, if_false]
    refine Ev.bind hc (Ev.bind (eqActS_ev _ (ok_ActS hB)) ?_)
    simp only [if_true]
    refine Ev.bind (markActS_ev _ 1 (by omega) (by simp; omega)) ?_
    simp only [if_neg (show ¬ (1 + 3 * ((y0.map cvAct).length : Int) < 0) by omega)]
    refine Ev.bind (eqIntS_ev out ho) ?_
    simp only [if_true, bne_self_eq_false]
    refine ev_succ ?_
    simp only [laws_FnExactReadsFrom.j1, Bool.false_eq_true, if_false]
    refine Ev.bind (markIntS_ev out 1 (by omega) (by omega)) (Ev.bind (heldIntS_ev _ 1 (by omega) (by omega)) ?_)
    simp only [if_neg (show ¬ (1 + (out.length : Int) < 0) by omega), if_true]
    refine Ev.bind hc (Ev.bind ei (Ev.bind (eqIntS_ev out ho) ?_))
    simp only [if_true, bne_self_eq_false]
    refine ev_succ ?_
    simp only [laws_FnExactReadsFrom.j2, Bool.false_eq_true, if_false]
    refine Ev.bind (heldIntS_ev _ 1 (by omega) (by omega)) ?_
    simp only [if_neg (show ¬ (1 + (out.length : Int) < 0) by omega), if_true]
    exact ev_now rfl
end Go.Proofs.Ytpnlkmpoaboncaa.Pu
