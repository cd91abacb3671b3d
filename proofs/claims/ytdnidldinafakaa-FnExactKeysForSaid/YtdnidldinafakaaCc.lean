/- What slices.Concat comes to at two lists of numbers. Condition: a length that Go can make room for. -/
import Derived.Test.YtdnidldinafakaaPr0
import Derived.Test.YtdnidldinafakaaPr2
import Derived.Test.YtdnidldinafakaaMx2
import Derived.Test.YtdnidldinafakaaEGrowInt
namespace Go.Proofs.Ytdnidldinafakaa.Ax
open Go.RowKit Go.Proofs.Ytdnidldinafakaa.Pr Go.Proofs.Ytdnidldinafakaa.Pl Go.Proofs.YtdnidldinafakaaW.PrintWords Go.Proofs.YtdnidldinafakaaW.PrintLast Go.Proofs.YtdnidldinafakaaW.PrintMore
set_option linter.unusedVariables false
set_option linter.unusedSimpArgs false
theorem concat_ev (a b : List Int) (h : a.length + b.length ≤ 17592186043904) : Ev (fun k => slices_Concat_int_int.f k [a, b]) (a ++ b) := by
  have r0 : rd_L1 [a, b] 0 = a := rfl
  have r1 : rd_L1 [a, b] 1 = b := rfl
  have w1 : wrap64 (0 + (a.length : Int)) = (a.length : Int) := by rw [wrap_in (by omega) (by omega)]; omega
  have w2 : wrap64 ((a.length : Int) + (b.length : Int)) = ((a.length + b.length : Nat) : Int) := by rw [wrap_in (by omega) (by omega)]; omega
  have w3 : wrap64 (0 + 1) = 1 := by rw [wrap_in (by omega) (by omega)]; rfl
  have w4 : wrap64 (1 + 1) = 2 := by rw [wrap_in (by omega) (by omega)]; rfl
  have hl : (([a, b] : List (List Int)).length : Int) = 2 := rfl
  simp only [slices_Concat_int_int.f, hl]
  refine ev_succ ?_
  simp only [slices_Concat_int_int.l0, hl, r0, w1, w3, if_pos (show (0 : Int) < 2 by omega), if_pos (show (0 : Int) ≤ 0 by omega), if_neg (show ¬ ((a.length : Int) < 0) by omega)]
  refine ev_succ ?_
  simp only [slices_Concat_int_int.l0, hl, r1, w2, w4, if_pos (show (1 : Int) < 2 by omega), if_pos (show (0 : Int) ≤ 1 by omega), if_neg (show ¬ (((a.length + b.length : Nat) : Int) < 0) by omega)]
  refine ev_succ ?_
  simp only [slices_Concat_int_int.l0, hl, if_neg (show ¬ ((2 : Int) < 2) by omega)]
  refine Ev.bind (ev_eq (r := []) ?_) ?_
  · unfold slices_Grow_int_int.f
    rw [if_pos ⟨rfl, by omega, by omega⟩]
  refine ev_succ ?_
  simp only [slices_Concat_int_int.l1, hl, r0, w3, if_pos (show (0 : Int) < 2 by omega), if_pos (show (0 : Int) ≤ 0 by omega), List.length_nil, if_pos (show 0 + a.length < 17592186044416 by omega), List.nil_append]
  refine ev_succ ?_
  simp only [slices_Concat_int_int.l1, hl, r1, w4, if_pos (show (1 : Int) < 2 by omega), if_pos (show (0 : Int) ≤ 1 by omega), if_pos (show a.length + b.length < 17592186044416 by omega)]
  refine ev_succ ?_
  simp only [slices_Concat_int_int.l1, hl, if_neg (show ¬ ((2 : Int) < 2) by omega)]
  exact ev_now rfl
end Go.Proofs.Ytdnidldinafakaa.Ax
