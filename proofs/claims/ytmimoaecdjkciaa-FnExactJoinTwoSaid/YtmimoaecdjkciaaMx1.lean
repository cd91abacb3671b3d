/- Several small texts together: Ah, Mx0. No condition but those they name. -/
import Derived.Test.YtmimoaecdjkciaaPr1
import Derived.Test.YtmimoaecdjkciaaMx3
import Derived.Test.YtmimoaecdjkciaaPr2
import Derived.Test.YtmimoaecdjkciaaPr0
import Derived.Test.YtmimoaecdjkciaaOpen
import Derived.KernelRfl
/- What looking for a number in a list tells. Conditions: lengths that Go can hold. -/
namespace Go.Proofs.Ytmimoaecdjkciaa.Ax
open Go.RowKit Go.Proofs.Ytmimoaecdjkciaa.Pr Go.Proofs.Ytmimoaecdjkciaa.Pl Go.Proofs.YtmimoaecdjkciaaW.PrintWords Go.Proofs.YtmimoaecdjkciaaW.PrintLast Go.Proofs.YtmimoaecdjkciaaW.PrintMore
set_option linter.unusedVariables false
set_option linter.unusedSimpArgs false
theorem idxInt_l0 (a : Int) (xs : List Int) (hb : xs.length ≤ 9223372036854775807) : ∀ (ys : List Int) (j : Nat), xs.drop j = ys → ∃ r : Int, Ev (fun k => slices_Index_int_int.l0 k xs a (xs.length : Int) (j : Int)) r ∧ decide (r ≥ 0) = ys.contains a
  | [], j, h => by
    have h1 := drop_nil h
    refine ⟨-1, ev_succ ?_, by simp⟩
    simp only [slices_Index_int_int.l0]
    simp only [if_neg (show ¬ ((j : Int) < (xs.length : Int)) by omega)]
    exact ev_now rfl
  | y :: ys, j, h => by
    obtain ⟨h1, h2, h3⟩ := drop_cons h
    by_cases e : a = y
    · refine ⟨(j : Int), ev_succ ?_, by simp [e]⟩
      simp only [slices_Index_int_int.l0]
      simp only [if_pos (show (j : Int) < (xs.length : Int) by omega), if_pos (show (0 : Int) ≤ (j : Int) by omega), rd_drop h, if_pos e]
      exact ev_now rfl
    · obtain ⟨r, h4, h5⟩ := idxInt_l0 a xs hb ys (j + 1) h3
      refine ⟨r, ev_succ ?_, by rw [h5]; simp [List.contains_cons, e]⟩
      simp only [slices_Index_int_int.l0]
      simp only [if_pos (show (j : Int) < (xs.length : Int) by omega), if_pos (show (0 : Int) ≤ (j : Int) by omega), rd_drop h, if_neg e, wrap_succ (show j < 9223372036854775807 by omega)]
      exact h4
theorem contains_ev (xs : List Int) (a : Int) (hb : xs.length ≤ 9223372036854775807) : Ev (fun k => slices_Contains_int_int.f k xs a) (xs.contains a) := by
  simp only [slices_Contains_int_int.f, slices_Index_int_int.f]
  obtain ⟨r, h4, h5⟩ := idxInt_l0 a xs hb xs 0 rfl
  exact Ev.bind h4 (ev_now (by rw [h5]))
end Go.Proofs.Ytmimoaecdjkciaa.Ax

/- Several small texts together: Aw, Ops. No condition but those they name. -/
/- Numbers between two others. No condition. -/
namespace Go.Proofs.Ytmimoaecdjkciaa.Ax
open Go.RowKit Go.Proofs.Ytmimoaecdjkciaa.Pr Go.Proofs.Ytmimoaecdjkciaa.Pl Go.Proofs.YtmimoaecdjkciaaW.PrintWords Go.Proofs.YtmimoaecdjkciaaW.PrintLast Go.Proofs.YtmimoaecdjkciaaW.PrintMore
set_option linter.unusedVariables false
set_option linter.unusedSimpArgs false
/-- Is a number between two others? -/
def win (n lo hi : Int) : Bool := decide (lo ≤ n ∧ n ≤ hi)
theorem win_iff (a lo hi : Int) : win a lo hi = true ↔ lo ≤ a ∧ a ≤ hi := by unfold win; simp
theorem l1In_eq (a b c : Int) : spec_l1In.f a b c = some (win a b c) := by
  unfold spec_l1In.f win
  split <;> simp <;> omega
theorem within_eq (a b c : Int) : impl_within.f a b c = some (win a b c) := by
  unfold impl_within.f win
  split <;> simp <;> omega
end Go.Proofs.Ytmimoaecdjkciaa.Ax

/- Each struct type among the laws' parameters: what it reads as. No condition. -/
namespace Go.Proofs.Ytmimoaecdjkciaa.Ops
open Go.RowKit Go.Proofs.YtmimoaecdjkciaaW.PrintWords Go.Proofs.Ytmimoaecdjkciaa.Open Go.Proofs.Ytmimoaecdjkciaa.Pr
set_option linter.unusedVariables false
def Fii64 (x : Int) : Prop := (Lit.int .i64 x).wf = true
def FLii64 (x : (List Int)) : Prop := x.length < 9223372036854775808 ∧ ∀ e_ ∈ x, Fii64 e_
def FLLii64 (x : (List (List Int))) : Prop := x.length < 9223372036854775808 ∧ ∀ e_ ∈ x, FLii64 e_
def F25 (x : S25) : Prop := FLii64 x.f0 ∧ FLLii64 x.f1
theorem op25 : Opn Try.prog k25 F25 25 := op_struct _ (fun x => ⟨x.1, x.2⟩) (fun x => rfl) Try.underlying25 (by kernel_rfl) (sg_cons rfl (by kernel_rfl) (op_slice Try.underlying22 (by kernel_rfl) (op_int Try.underlying3)) (sg_one rfl (by kernel_rfl) (op_slice Try.underlying23 (by kernel_rfl) (op_slice Try.underlying22 (by kernel_rfl) (op_int Try.underlying3)))))
end Go.Proofs.Ytmimoaecdjkciaa.Ops
