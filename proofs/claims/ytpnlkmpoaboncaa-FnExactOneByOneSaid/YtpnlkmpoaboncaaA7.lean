/- What GoodPlay and conflicts tell. Conditions: lengths that Go can hold. -/
import Derived.Test.YtpnlkmpoaboncaaPr0
import Derived.Test.YtpnlkmpoaboncaaPr1
import Derived.Test.YtpnlkmpoaboncaaAw
import Derived.Test.YtpnlkmpoaboncaaCv
namespace Go.Proofs.Ytpnlkmpoaboncaa.Ax
open Go.RowKit Go.Proofs.Ytpnlkmpoaboncaa.Pr Go.Proofs.Ytpnlkmpoaboncaa.Pl Go.Proofs.YtpnlkmpoaboncaaW.PrintWords Go.Proofs.YtpnlkmpoaboncaaW.PrintLast Go.Proofs.YtpnlkmpoaboncaaW.PrintMore
set_option linter.unusedVariables false
set_option linter.unusedSimpArgs false
/-- A good act; a good play. -/
def okA (x : S44) : Bool := win x.f0 0 3 && win x.f1 0 3
def gp (l : List S44) : Bool := l.all okA && decide (l.length ≤ 16)
theorem sGoodPlay_l0 (zs xs : List S44) (hb : xs.length < 9223372036854775807) : ∀ (ys : List S44) (j : Nat), xs.drop j = ys →
    Ev (fun k => spec_GoodPlay.l0 k zs xs (xs.length : Int) (j : Int)) (ys.all okA && decide (zs.length ≤ 16))
  | [], j, h => by
    have h1 := drop_nil h
    refine ev_succ ?_
    simp only [spec_GoodPlay.l0]
    simp only [if_neg (show ¬ ((j : Int) < (xs.length : Int)) by omega)]
    refine ev_now ?_
    simp
    omega
  | y :: ys, j, h => by
    obtain ⟨h1, h2, h3⟩ := drop_cons h
    refine ev_succ ?_
    simp only [spec_GoodPlay.l0]
    simp only [if_pos (show (j : Int) < (xs.length : Int) by omega), if_pos (show (0 : Int) ≤ (j : Int) by omega), rd_T44_drop h, l1In_eq, Option.bind_some, wrap_succ (show j < 9223372036854775807 by omega)]
    have ih := sGoodPlay_l0 zs xs hb ys (j + 1) h3
    cases e1 : win y.f0 0 3
    · simp only [Bool.false_eq_true, if_false]
      exact ev_now (by simp [okA, e1])
    · cases e2 : win y.f1 0 3
      · simp only [Bool.false_eq_true, if_false, if_true]
        exact ev_now (by simp [okA, e1, e2])
      · simp only [if_true]
        simpa [okA, e1, e2] using ih
theorem sGoodPlay_ev (l : List S44) (hb : l.length < 9223372036854775807) : Ev (fun k => spec_GoodPlay.f k l) (gp l) := sGoodPlay_l0 l l hb l 0 rfl
theorem goodPlay1_eq (x : S44) : impl_GoodPlay_1.f x.f0 x.f1 x.f2 = some (!okA x) := by
  simp only [impl_GoodPlay_1.f, impl_isDealer.f, impl_isItem.f, within_eq, Option.bind_some, okA]
  cases win x.f0 0 3 <;> cases win x.f1 0 3 <;> rfl
theorem idxAct_l0 (xs : List S44) (hb : xs.length < 9223372036854775807) : ∀ (ys : List S44) (j : Nat), xs.drop j = ys →
    ∃ r : Int, Ev (fun k => impl_Act_57.l0 k xs (xs.length : Int) (j : Int)) r ∧ decide (r ≥ 0) = !ys.all okA
  | [], j, h => by
    have h1 := drop_nil h
    refine ⟨-1, ev_succ ?_, by simp⟩
    simp only [impl_Act_57.l0]
    simp only [if_neg (show ¬ ((j : Int) < (xs.length : Int)) by omega)]
    exact ev_now rfl
  | y :: ys, j, h => by
    obtain ⟨h1, h2, h3⟩ := drop_cons h
    cases e : okA y
    · refine ⟨(j : Int), ev_succ ?_, by simp [e]⟩
      simp only [impl_Act_57.l0]
      simp only [if_pos (show (j : Int) < (xs.length : Int) by omega), if_pos (show (0 : Int) ≤ (j : Int) by omega), rd_T44_drop h, goodPlay1_eq, e, Option.bind_some, Bool.not_false, if_true]
      exact ev_now rfl
    · obtain ⟨r, h4, h5⟩ := idxAct_l0 xs hb ys (j + 1) h3
      refine ⟨r, ev_succ ?_, by simp [e, h5]⟩
      simp only [impl_Act_57.l0]
      simp only [if_pos (show (j : Int) < (xs.length : Int) by omega), if_pos (show (0 : Int) ≤ (j : Int) by omega), rd_T44_drop h, goodPlay1_eq, e, Option.bind_some, Bool.not_true, Bool.false_eq_true, if_false, wrap_succ (show j < 9223372036854775807 by omega)]
      exact h4
theorem iGoodPlay_ev (l : List S44) : Ev (fun k => impl_GoodPlay.f k l) (gp l) := by
  simp only [impl_GoodPlay.f, impl_Act_43.f, impl_Act_57.f]
  by_cases hl : (l.length : Int) ≤ 16
  · simp only [if_pos hl]
    obtain ⟨r, h4, h5⟩ := idxAct_l0 l (by omega) l 0 rfl
    refine Ev.bind (Ev.bind h4 (ev_now rfl)) ?_
    exact ev_now (by simp [h5, gp, show l.length ≤ 16 by omega])
  · simp only [if_neg hl]
    exact ev_now (by simp [gp]; omega)
theorem gp_len {l : List S44} (h : gp l = true) : l.length ≤ 16 := by
  simp [gp] at h
  exact h.2
theorem gp_all {l : List S44} (h : gp l = true) : ∀ x ∈ l, (0 ≤ x.f0 ∧ x.f0 ≤ 3) ∧ (0 ≤ x.f1 ∧ x.f1 ≤ 3) := by
  simp only [gp, Bool.and_eq_true, List.all_eq_true] at h
  intro x hx
  have := h.1 x hx
  simpa [okA, Bool.and_eq_true, win_iff] using this
end Go.Proofs.Ytpnlkmpoaboncaa.Ax
