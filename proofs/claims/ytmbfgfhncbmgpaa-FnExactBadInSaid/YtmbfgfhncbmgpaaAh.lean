/- What looking for a number in a list tells. Conditions: lengths that Go can hold. -/
import Derived.Test.YtmbfgfhncbmgpaaPr1
import Derived.Test.YtmbfgfhncbmgpaaPl
namespace Go.Proofs.Ytmbfgfhncbmgpaa.Ax
open Go.RowKit Go.Proofs.Ytmbfgfhncbmgpaa.Pr Go.Proofs.Ytmbfgfhncbmgpaa.Pl Go.Proofs.YtmbfgfhncbmgpaaW.PrintWords Go.Proofs.YtmbfgfhncbmgpaaW.PrintLast Go.Proofs.YtmbfgfhncbmgpaaW.PrintMore
set_option linter.unusedVariables false
set_option linter.unusedSimpArgs false
theorem idxInt_l0 (a : Int) (xs : List Int) (hb : xs.length ≤ 9223372036854775807) : ∀ (ys : List Int) (j : Nat), xs.drop j = ys → ∃ r : Int, Ev (fun k => slices_Index_int_int.l0 k xs a (xs.length : Int) (j : Int)) r ∧ decide (r ≥ 0) = ys.contains a
  | [], j, h => by
    have h1 := drop_nil h
    refine ⟨-1, ev_succ ?_, by simp⟩
    simp only [slices_Index_int_int.l0]
    simp only [if_neg (show ¬ ((j : Int) < (xs.length : Int)) by omega)]
    exact ev_now rfl
  | y :: ys, j, h => by
    obtain ⟨h1, h2, h3⟩ := drop_cons h
    by_cases e : a = y
    · refine ⟨(j : Int), ev_succ ?_, by simp [e]⟩
      simp only [slices_Index_int_int.l0]
      simp only [if_pos (show (j : Int) < (xs.length : Int) by omega), if_pos (show (0 : Int) ≤ (j : Int) by omega), rd_drop h, if_pos e]
      exact ev_now rfl
    · obtain ⟨r, h4, h5⟩ := idxInt_l0 a xs hb ys (j + 1) h3
      refine ⟨r, ev_succ ?_, by rw [h5]; simp [List.contains_cons, e]⟩
      simp only [slices_Index_int_int.l0]
      simp only [if_pos (show (j : Int) < (xs.length : Int) by omega), if_pos (show (0 : Int) ≤ (j : Int) by omega), rd_drop h, if_neg e, wrap_succ (show j < 9223372036854775807 by omega)]
      exact h4
theorem contains_ev (xs : List Int) (a : Int) (hb : xs.length ≤ 9223372036854775807) : Ev (fun k => slices_Contains_int_int.f k xs a) (xs.contains a) := by
  simp only [slices_Contains_int_int.f, slices_Index_int_int.f]
  obtain ⟨r, h4, h5⟩ := idxInt_l0 a xs hb xs 0 rfl
  exact Ev.bind h4 (ev_now (by rw [h5]))
end Go.Proofs.Ytmbfgfhncbmgpaa.Ax
