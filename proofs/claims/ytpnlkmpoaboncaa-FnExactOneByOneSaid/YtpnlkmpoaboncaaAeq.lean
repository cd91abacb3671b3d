/- What slices.Equal over numbers tells. Conditions: lengths that Go can hold. -/
import Derived.Test.YtpnlkmpoaboncaaPr1
import Derived.Test.YtpnlkmpoaboncaaPl
import Derived.Test.YtpnlkmpoaboncaaPr1
namespace Go.Proofs.Ytpnlkmpoaboncaa.Ax
open Go.RowKit Go.Proofs.Ytpnlkmpoaboncaa.Pr Go.Proofs.Ytpnlkmpoaboncaa.Pl Go.Proofs.YtpnlkmpoaboncaaW.PrintWords Go.Proofs.YtpnlkmpoaboncaaW.PrintLast Go.Proofs.YtpnlkmpoaboncaaW.PrintMore
set_option linter.unusedVariables false
set_option linter.unusedSimpArgs false
theorem seq_l0 (xs zs : List Int) (hl : xs.length = zs.length) (hb : xs.length ≤ 9223372036854775807) : ∀ (ys us : List Int) (j : Nat), xs.drop j = ys → zs.drop j = us →
    Ev (fun k => slices_Equal_int_int.l0 k xs zs (xs.length : Int) (j : Int)) (decide (ys = us))
  | [], us, j, h, hu => by
    have h1 := drop_nil h
    have h2 : us = [] := by rw [← hu]; exact List.drop_of_length_le (by omega)
    refine ev_succ ?_
    simp only [slices_Equal_int_int.l0]
    simp only [if_neg (show ¬ ((j : Int) < (xs.length : Int)) by omega)]
    exact ev_now (by simp [h2])
  | y :: ys, [], j, h, hu => by
    have h1 := drop_nil hu
    have := (drop_cons h).1
    omega
  | y :: ys, u :: us, j, h, hu => by
    obtain ⟨h1, h2, h3⟩ := drop_cons h
    obtain ⟨g1, g2, g3⟩ := drop_cons hu
    refine ev_succ ?_
    simp only [slices_Equal_int_int.l0]
    simp only [if_pos (show (j : Int) < (xs.length : Int) by omega), if_pos (show (j : Int) < (zs.length : Int) by omega), if_pos (show (0 : Int) ≤ (j : Int) by omega), rd_drop h, rd_drop hu, wrap_succ (show j < 9223372036854775807 by omega)]
    by_cases e : y = u
    · simp only [if_pos e]
      have := seq_l0 xs zs hl hb ys us (j + 1) h3 g3
      simpa [e] using this
    · simp only [if_neg e]
      exact ev_now (by simp [e])
theorem seq_ev (xs zs : List Int) (hb : xs.length ≤ 9223372036854775807) : Ev (fun k => slices_Equal_int_int.f k xs zs) (decide (xs = zs)) := by
  simp only [slices_Equal_int_int.f]
  by_cases hl : xs.length = zs.length
  · simp only [if_pos (show (xs.length : Int) = (zs.length : Int) by omega)]
    exact seq_l0 xs zs hl hb xs zs 0 rfl rfl
  · simp only [if_neg (show ¬ (xs.length : Int) = (zs.length : Int) by omega)]
    exact ev_now (by rw [eq_comm, decide_eq_false_iff_not]; exact fun e => hl (by rw [e]))
end Go.Proofs.Ytpnlkmpoaboncaa.Ax
