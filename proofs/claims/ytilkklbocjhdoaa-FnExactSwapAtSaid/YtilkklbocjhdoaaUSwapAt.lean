/- The law FnExactSwapAt over numbers and lists alone. No condition. -/
import Derived.Test.YtilkklbocjhdoaaPr0
import Derived.Test.YtilkklbocjhdoaaPr3
import Derived.Test.YtilkklbocjhdoaaPr4
import Derived.Test.YtilkklbocjhdoaaPr5
import Derived.Test.YtilkklbocjhdoaaPr7
import Derived.Test.YtilkklbocjhdoaaPr9
import Derived.Test.YtilkklbocjhdoaaECloneAct
import Derived.Test.YtilkklbocjhdoaaOps
import Derived.Test.YtilkklbocjhdoaaA7
import Derived.Test.YtilkklbocjhdoaaCv
namespace Go.Proofs.Ytilkklbocjhdoaa.Pu
open Go.RowKit Go.Proofs.Ytilkklbocjhdoaa.Pr Go.Proofs.Ytilkklbocjhdoaa.Pl Go.Proofs.Ytilkklbocjhdoaa.Ax Go.Proofs.Ytilkklbocjhdoaa.Ops Go.Proofs.YtilkklbocjhdoaaW.PrintWords Go.Proofs.YtilkklbocjhdoaaW.PrintLast Go.Proofs.YtilkklbocjhdoaaW.PrintMore
set_option linter.unusedVariables false
set_option linter.unusedSimpArgs false
theorem clash_eq (a b : Int) (c : Bool) (d e : Int) (f : Bool) : impl_clash.f a b c d e f = spec_l7Clash.f a b c d e f := rfl
theorem SwapAt_both (l : List S47) (a : Int) (hb : l.length < 9223372036854775807) : ∃ out ok, Ev (fun k => spec_SwapAt.f k l a) (out, ok) ∧ Ev (fun k => impl_SwapAt.f k l a) (out, ok) ∧ out.length ≤ 16 := by
  simp only [spec_SwapAt.f, impl_SwapAt.f, l1In_eq, within_eq, Option.bind_some, clash_eq]
  cases e : gp l
  · exact ⟨[], false, Ev.bind (sGoodPlay_ev l hb) (by simp only [e, Bool.false_eq_true, if_false]; exact ev_now rfl), Ev.bind (iGoodPlay_ev l) (by simp only [e, Bool.false_eq_true, if_false]; exact ev_now rfl), by simp⟩
  · have hl := gp_len e
    rw [wrap_in (show -9223372036854775808 ≤ (l.length : Int) - 2 by omega) (show (l.length : Int) - 2 < 9223372036854775808 by omega)]
    cases ew : win a 0 ((l.length : Int) - 2)
    · exact ⟨[], false, Ev.bind (sGoodPlay_ev l hb) (by simp only [e, if_true, Bool.false_eq_true, if_false]; exact ev_now rfl), Ev.bind (iGoodPlay_ev l) (by simp only [e, if_true, Bool.false_eq_true, if_false]; exact ev_now rfl), by simp⟩
    · rw [win_iff] at ew
      rw [wrap_in (show -9223372036854775808 ≤ a + 1 by omega) (show a + 1 < 9223372036854775808 by omega)]
      simp only [if_true, if_pos (show 0 ≤ a by omega), if_pos (show a < (l.length : Int) by omega), if_pos (show 0 ≤ a + 1 by omega), if_pos (show a + 1 < (l.length : Int) by omega)]
      by_cases h1 : (rd_T47 l a).f0 = (rd_T47 l (a + 1)).f0
      · exact ⟨[], false, Ev.bind (sGoodPlay_ev l hb) (by simp only [e, if_true, if_pos h1]; exact ev_now rfl), Ev.bind (iGoodPlay_ev l) (by simp only [e, if_true, if_pos h1]; exact ev_now rfl), by simp⟩
      · obtain ⟨bb, hbb⟩ : ∃ bb, spec_l7Clash.f (rd_T47 l a).f0 (rd_T47 l a).f1 (rd_T47 l a).f2 (rd_T47 l (a + 1)).f0 (rd_T47 l (a + 1)).f1 (rd_T47 l (a + 1)).f2 = some bb := by
          unfold spec_l7Clash.f
          split <;> (try split) <;> (try split) <;> exact ⟨_, rfl⟩
        simp only [if_neg h1, hbb, Option.bind_some]
        cases bb
        · refine ⟨(l.set a.toNat ⟨(rd_T47 l (a + 1)).f0, (rd_T47 l (a + 1)).f1, (rd_T47 l (a + 1)).f2⟩).set (a + 1).toNat ⟨(rd_T47 l a).f0, (rd_T47 l a).f1, (rd_T47 l a).f2⟩, true, Ev.bind (sGoodPlay_ev l hb) ?_, Ev.bind (iGoodPlay_ev l) ?_, by simpa using hl⟩
          · simp only [e, if_true, Bool.false_eq_true, if_false, List.nil_append, List.length_nil, Nat.zero_add, if_pos (show l.length < 5864062014805 by omega), if_pos (show a < (l.length : Int) by omega), if_pos (show a + 1 < (l.length : Int) by omega)]
            exact ev_now rfl
          · simp only [e, if_true, Bool.false_eq_true, if_false, impl_Act_56.f, if_pos (show l.length * 24 ≤ 140737488355328 by omega), Option.bind_some, if_pos (show a < (l.length : Int) by omega), if_pos (show a + 1 < (l.length : Int) by omega)]
            exact ev_now rfl
        · exact ⟨[], false, Ev.bind (sGoodPlay_ev l hb) (by simp only [e, if_true]; exact ev_now rfl), Ev.bind (iGoodPlay_ev l) (by simp only [e, if_true]; exact ev_now rfl), by simp⟩
theorem SwapAt (y0 : (List S50)) (a1 : Int) (h0 : FL50 y0) (h1 : Fii64 a1) : ∃ k, laws_FnExactSwapAt.f k y0 a1 = some true := by
  refine Ev.rounds ?_
  simp only [laws_FnExactSwapAt.f]
  obtain ⟨r, e1, _, b⟩ := szActS_ev y0 1048576 h0 (by omega) (by omega)
  refine Ev.bind e1 ?_
  by_cases hr : r < 0
  · simp only [if_pos hr]
    exact ev_now rfl
  · simp only [if_neg hr]
    have hB := b (by omega)
    have hc := toActS_ev y0 hB
    have hl := hB.1
    obtain ⟨out, ok, es, ei, hlo⟩ := SwapAt_both (y0.map cvAct) a1 (by simp; omega)
    have ho : OkActS out := ⟨by omega, fun _ _ => trivial⟩
    refine Ev.bind hc (Ev.bind es (Ev.bind hc (Ev.bind ei (Ev.bind (eqActS_ev out ho) ?_))))
    simp only [if_true, bne_self_eq_false]
    refine ev_succ ?_
    simp only [laws_FnExactSwapAt.j0, Bool.false_eq_true, if_false]
    refine Ev.bind hc (Ev.bind (eqActS_ev _ (ok_ActS hB)) ?_)
    simp only [if_true]
    refine Ev.bind (markActS_ev _ 1 (by omega) (by simp; omega)) ?_
    simp only [if_neg (show ¬ (1 + 3 * ((y0.map cvAct).length : Int) < 0) by omega)]
    refine Ev.bind (eqActS_ev out ho) ?_
    simp only [if_true, bne_self_eq_false]
    refine ev_succ ?_
    simp only [laws_FnExactSwapAt.j1, Bool.false_eq_true, if_false]
    refine Ev.bind (markActS_ev out 1 (by omega) (by omega)) (Ev.bind (heldActS_ev _ 1 (by omega) (by omega)) ?_)
    simp only [if_neg (show ¬ (1 + 3 * (out.length : Int) < 0) by omega), if_true]
    refine Ev.bind hc (Ev.bind ei (Ev.bind (eqActS_ev out ho) ?_))
    simp only [if_true, bne_self_eq_false]
    refine ev_succ ?_
    simp only [laws_FnExactSwapAt.j2, Bool.false_eq_true, if_false]
    refine Ev.bind (heldActS_ev _ 1 (by omega) (by omega)) ?_
    simp only [if_neg (show ¬ (1 + 3 * (out.length : Int) < 0) by omega), if_true]
    exact ev_now rfl
end Go.Proofs.Ytilkklbocjhdoaa.Pu
