/- Several small texts together: Cc, Ae. No condition but those they name. -/
import Derived.Test.YtcengijoicmldaaPr0
import Derived.Test.YtcengijoicmldaaPr2
import Derived.Test.YtcengijoicmldaaMx3
import Derived.Test.YtcengijoicmldaaMx6
import Derived.Test.YtcengijoicmldaaPr1
/- What slices.Concat comes to at two lists of numbers. Condition: a length that Go can make room for. -/
namespace Go.Proofs.Ytcengijoicmldaa.Ax
open Go.RowKit Go.Proofs.Ytcengijoicmldaa.Pr Go.Proofs.Ytcengijoicmldaa.Pl Go.Proofs.YtcengijoicmldaaW.PrintWords Go.Proofs.YtcengijoicmldaaW.PrintLast Go.Proofs.YtcengijoicmldaaW.PrintMore
set_option linter.unusedVariables false
set_option linter.unusedSimpArgs false
theorem concat_ev (a b : List Int) (h : a.length + b.length ≤ 17592186043904) : Ev (fun k => slices_Concat_int_int.f k [a, b]) (a ++ b) := by
 have r0 : rd_L1 [a, b] 0 = a := rfl
 have r1 : rd_L1 [a, b] 1 = b := rfl
 have w1 : wrap64 (0 + (a.length : Int)) = (a.length : Int) := by rw [wrap_in (by omega) (by omega)]; omega
 have w2 : wrap64 ((a.length : Int) + (b.length : Int)) = ((a.length + b.length : Nat) : Int) := by rw [wrap_in (by omega) (by omega)]; omega
 have w3 : wrap64 (0 + 1) = 1 := by rw [wrap_in (by omega) (by omega)]; rfl
 have w4 : wrap64 (1 + 1) = 2 := by rw [wrap_in (by omega) (by omega)]; rfl
 have hl : (([a, b] : List (List Int)).length : Int) = 2 := rfl
 simp only [slices_Concat_int_int.f, hl]
 refine ev_succ ?_
 simp only [slices_Concat_int_int.l0, hl, r0, w1, w3, if_pos (show (0 : Int) < 2 by omega), if_pos (show (0 : Int) ≤ 0 by omega), if_neg (show ¬ ((a.length : Int) < 0) by omega)]
 refine ev_succ ?_
 simp only [slices_Concat_int_int.l0, hl, r1, w2, w4, if_pos (show (1 : Int) < 2 by omega), if_pos (show (0 : Int) ≤ 1 by omega), if_neg (show ¬ (((a.length + b.length : Nat) : Int) < 0) by omega)]
 refine ev_succ ?_
 simp only [slices_Concat_int_int.l0, hl, if_neg (show ¬ ((2 : Int) < 2) by omega)]
 refine Ev.bind (ev_eq (r := []) ?_) ?_
 ·unfold slices_Grow_int_int.f
  rw [if_pos ⟨rfl, by omega, by omega⟩]
 refine ev_succ ?_
 simp only [slices_Concat_int_int.l1, hl, r0, w3, if_pos (show (0 : Int) < 2 by omega), if_pos (show (0 : Int) ≤ 0 by omega), List.length_nil, if_pos (show 0 + a.length < 17592186044416 by omega), List.nil_append]
 refine ev_succ ?_
 simp only [slices_Concat_int_int.l1, hl, r1, w4, if_pos (show (1 : Int) < 2 by omega), if_pos (show (0 : Int) ≤ 1 by omega), if_pos (show a.length + b.length < 17592186044416 by omega)]
 refine ev_succ ?_
 simp only [slices_Concat_int_int.l1, hl, if_neg (show ¬ ((2 : Int) < 2) by omega)]
 exact ev_now rfl
end Go.Proofs.Ytcengijoicmldaa.Ax

/- What comparing two lists of numbers tells. Conditions: lengths that Go can hold. -/
namespace Go.Proofs.Ytcengijoicmldaa.Ax
open Go.RowKit Go.Proofs.Ytcengijoicmldaa.Pr Go.Proofs.Ytcengijoicmldaa.Pl Go.Proofs.YtcengijoicmldaaW.PrintWords Go.Proofs.YtcengijoicmldaaW.PrintLast Go.Proofs.YtcengijoicmldaaW.PrintMore
set_option linter.unusedVariables false
set_option linter.unusedSimpArgs false
theorem same_l0 (xs zs : List Int) (hl : xs.length = zs.length) (hb : xs.length ≤ 9223372036854775807) : ∀ (ys us : List Int) (j : Nat), xs.drop j = ys → zs.drop j = us →
  Ev (fun k => spec_l1Same.l0 k xs zs (xs.length : Int) (j : Int)) (decide (ys = us))
 | [], us, j, h, hu => by
  have h1 := drop_nil h
  have h2 : us = [] := by rw [← hu]; exact List.drop_of_length_le (by omega)
  refine ev_succ ?_
  simp only [spec_l1Same.l0]
  simp only [if_neg (show ¬ ((j : Int) < (xs.length : Int)) by omega)]
  exact ev_now (by simp [h2])
 | y :: ys, [], j, h, hu => by
  have h1 := drop_nil hu
  have := (drop_cons h).1
  omega
 | y :: ys, u :: us, j, h, hu => by
  obtain ⟨h1, h2, h3⟩ := drop_cons h
  obtain ⟨g1, g2, g3⟩ := drop_cons hu
  refine ev_succ ?_
  simp only [spec_l1Same.l0]
  simp only [if_pos (show (j : Int) < (xs.length : Int) by omega), if_pos (show (j : Int) < (zs.length : Int) by omega), if_pos (show (0 : Int) ≤ (j : Int) by omega), rd_drop h, rd_drop hu, wrap_succ (show j < 9223372036854775807 by omega)]
  by_cases e : y = u
  ·simp only [if_pos e]
   have := same_l0 xs zs hl hb ys us (j + 1) h3 g3
   simpa [e] using this
  ·simp only [if_neg e]
   exact ev_now (by simp [e])
theorem same_ev' (xs zs : List Int) (hb : xs.length ≤ 9223372036854775807) : Ev (fun k => spec_l1Same.f k xs zs) (decide (xs = zs)) := by
 simp only [spec_l1Same.f]
 by_cases hl : xs.length = zs.length
 ·simp only [if_pos (show (xs.length : Int) = (zs.length : Int) by omega)]
  exact same_l0 xs zs hl hb xs zs 0 rfl rfl
 ·simp only [if_neg (show ¬ (xs.length : Int) = (zs.length : Int) by omega)]
  exact ev_now (by rw [eq_comm, decide_eq_false_iff_not]; exact fun e => hl (by rw [e]))
theorem same_ev (xs zs : List Int) (hb : xs.length < 9223372036854775807) : Ev (fun k => spec_l1Same.f k xs zs) (decide (xs = zs)) := same_ev' xs zs (by omega)
theorem equal_eq : ∀ k a b c d, slices_Equal_int_int.l0 k a b c d = spec_l1Same.l0 k a b c d
 | 0, _, _, _, _ => by simp only [slices_Equal_int_int.l0, spec_l1Same.l0]
 | k + 1, _, _, _, _ => by simp only [slices_Equal_int_int.l0, spec_l1Same.l0, equal_eq k]
theorem equal_ev' (xs zs : List Int) (hb : xs.length ≤ 9223372036854775807) : Ev (fun k => slices_Equal_int_int.f k xs zs) (decide (xs = zs)) := by
 have := same_ev' xs zs hb
 simp only [spec_l1Same.f] at this
 simpa only [slices_Equal_int_int.f, equal_eq] using this
theorem equal_ev (xs zs : List Int) (hb : xs.length < 9223372036854775807) : Ev (fun k => slices_Equal_int_int.f k xs zs) (decide (xs = zs)) := equal_ev' xs zs (by omega)
end Go.Proofs.Ytcengijoicmldaa.Ax
