/- What looking for a number in a list tells. Conditions: lengths that Go can hold. -/
import Derived.Test.YtpnlkmpoaboncaaPr1
import Derived.Test.YtpnlkmpoaboncaaPl
namespace Go.Proofs.Ytpnlkmpoaboncaa.Ax
open Go.RowKit Go.Proofs.Ytpnlkmpoaboncaa.Pr Go.Proofs.Ytpnlkmpoaboncaa.Pl Go.Proofs.YtpnlkmpoaboncaaW.PrintWords Go.Proofs.YtpnlkmpoaboncaaW.PrintLast Go.Proofs.YtpnlkmpoaboncaaW.PrintMore
set_option linter.unusedVariables false
set_option linter.unusedSimpArgs false
theorem l1Has_l0 (a : Int) (xs : List Int) (hb : xs.length ≤ 9223372036854775807) : ∀ (ys : List Int) (j : Nat), xs.drop j = ys → Ev (fun k => spec_l1Has.l0 k a xs (xs.length : Int) (j : Int)) (ys.contains a)
  | [], j, h => by
    have h1 := drop_nil h
    refine ev_succ ?_
    simp only [spec_l1Has.l0]
    simp only [if_neg (show ¬ ((j : Int) < (xs.length : Int)) by omega)]
    exact ev_now rfl
  | y :: ys, j, h => by
    obtain ⟨h1, h2, h3⟩ := drop_cons h
    refine ev_succ ?_
    simp only [spec_l1Has.l0]
    simp only [if_pos (show (j : Int) < (xs.length : Int) by omega), if_pos (show (0 : Int) ≤ (j : Int) by omega), rd_drop h, wrap_succ (show j < 9223372036854775807 by omega)]
    by_cases e : y = a
    · simp only [if_pos e]
      exact ev_now (by simp [e])
    · simp only [if_neg e]
      have := l1Has_l0 a xs hb ys (j + 1) h3
      have e2 : (y :: ys).contains a = ys.contains a := by simp [List.contains_cons, show ¬ a = y from fun h => e h.symm]
      rw [e2]
      exact this
theorem l1Has_ev (xs : List Int) (a : Int) (hb : xs.length ≤ 9223372036854775807) : Ev (fun k => spec_l1Has.f k xs a) (xs.contains a) := l1Has_l0 a xs hb xs 0 rfl
end Go.Proofs.Ytpnlkmpoaboncaa.Ax
