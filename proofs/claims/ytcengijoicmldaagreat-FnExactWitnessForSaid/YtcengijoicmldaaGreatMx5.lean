/- Several small texts together: Ae, Mx2. No condition but those they name. -/
import Derived.Test.YtcengijoicmldaaGreatPr1
import Derived.Test.YtcengijoicmldaaGreatPr6
import Derived.Test.YtcengijoicmldaaGreatMx10
import Derived.Test.YtcengijoicmldaaGreatPr5
import Derived.Test.YtcengijoicmldaaGreatPr0
import Derived.KernelRfl
/- What comparing two lists of numbers tells. Conditions: lengths that Go can hold. -/
namespace Go.Proofs.YtcengijoicmldaaGreat.Ax
open Go.RowKit Go.Proofs.YtcengijoicmldaaGreat.Pr Go.Proofs.YtcengijoicmldaaGreat.Pl Go.Proofs.YtcengijoicmldaaGreatW.PrintWords Go.Proofs.YtcengijoicmldaaGreatW.PrintLast Go.Proofs.YtcengijoicmldaaGreatW.PrintMore
set_option linter.unusedVariables false
set_option linter.unusedSimpArgs false
theorem same_l0 (xs zs : List Int) (hl : xs.length = zs.length) (hb : xs.length ≤ 9223372036854775807) : ∀ (ys us : List Int) (j : Nat), xs.drop j = ys → zs.drop j = us →
    Ev (fun k => spec_l1Same.l0 k xs zs (xs.length : Int) (j : Int)) (decide (ys = us))
  | [], us, j, h, hu => by
    have h1 := drop_nil h
    have h2 : us = [] := by rw [← hu]; exact List.drop_of_length_le (by omega)
    refine ev_succ ?_
    simp only [spec_l1Same.l0]
    simp only [if_neg (show ¬ ((j : Int) < (xs.length : Int)) by omega)]
    exact ev_now (by simp [h2])
  | y :: ys, [], j, h, hu => by
    have h1 := drop_nil hu
    have := (drop_cons h).1
    omega
  | y :: ys, u :: us, j, h, hu => by
    obtain ⟨h1, h2, h3⟩ := drop_cons h
    obtain ⟨g1, g2, g3⟩ := drop_cons hu
    refine ev_succ ?_
    simp only [spec_l1Same.l0]
    simp only [if_pos (show (j : Int) < (xs.length : Int) by omega), if_pos (show (j : Int) < (zs.length : Int) by omega), if_pos (show (0 : Int) ≤ (j : Int) by omega), rd_drop h, rd_drop hu, wrap_succ (show j < 9223372036854775807 by omega)]
    by_cases e : y = u
    · simp only [if_pos e]
      have := same_l0 xs zs hl hb ys us (j + 1) h3 g3
      simpa [e] using this
    · simp only [if_neg e]
      exact ev_now (by simp [e])
theorem same_ev' (xs zs : List Int) (hb : xs.length ≤ 9223372036854775807) : Ev (fun k => spec_l1Same.f k xs zs) (decide (xs = zs)) := by
  simp only [spec_l1Same.f]
  by_cases hl : xs.length = zs.length
  · simp only [if_pos (show (xs.length : Int) = (zs.length : Int) by omega)]
    exact same_l0 xs zs hl hb xs zs 0 rfl rfl
  · simp only [if_neg (show ¬ (xs.length : Int) = (zs.length : Int) by omega)]
    exact ev_now (by rw [eq_comm, decide_eq_false_iff_not]; exact fun e => hl (by rw [e]))
theorem same_ev (xs zs : List Int) (hb : xs.length < 9223372036854775807) : Ev (fun k => spec_l1Same.f k xs zs) (decide (xs = zs)) := same_ev' xs zs (by omega)
theorem equal_eq : ∀ k a b c d, slices_Equal_int_int.l0 k a b c d = spec_l1Same.l0 k a b c d
  | 0, _, _, _, _ => by simp only [slices_Equal_int_int.l0, spec_l1Same.l0]
  | k + 1, _, _, _, _ => by simp only [slices_Equal_int_int.l0, spec_l1Same.l0, equal_eq k]
theorem equal_ev' (xs zs : List Int) (hb : xs.length ≤ 9223372036854775807) : Ev (fun k => slices_Equal_int_int.f k xs zs) (decide (xs = zs)) := by
  have := same_ev' xs zs hb
  simp only [spec_l1Same.f] at this
  simpa only [slices_Equal_int_int.f, equal_eq] using this
end Go.Proofs.YtcengijoicmldaaGreat.Ax

/- Several small texts together: Ahs, Mx0. No condition but those they name. -/
/- What looking for a number in a list tells. Conditions: lengths that Go can hold. -/
namespace Go.Proofs.YtcengijoicmldaaGreat.Ax
open Go.RowKit Go.Proofs.YtcengijoicmldaaGreat.Pr Go.Proofs.YtcengijoicmldaaGreat.Pl Go.Proofs.YtcengijoicmldaaGreatW.PrintWords Go.Proofs.YtcengijoicmldaaGreatW.PrintLast Go.Proofs.YtcengijoicmldaaGreatW.PrintMore
set_option linter.unusedVariables false
set_option linter.unusedSimpArgs false
theorem l1Has_l0 (a : Int) (xs : List Int) (hb : xs.length ≤ 9223372036854775807) : ∀ (ys : List Int) (j : Nat), xs.drop j = ys → Ev (fun k => spec_l1Has.l0 k a xs (xs.length : Int) (j : Int)) (ys.contains a)
  | [], j, h => by
    have h1 := drop_nil h
    refine ev_succ ?_
    simp only [spec_l1Has.l0]
    simp only [if_neg (show ¬ ((j : Int) < (xs.length : Int)) by omega)]
    exact ev_now rfl
  | y :: ys, j, h => by
    obtain ⟨h1, h2, h3⟩ := drop_cons h
    refine ev_succ ?_
    simp only [spec_l1Has.l0]
    simp only [if_pos (show (j : Int) < (xs.length : Int) by omega), if_pos (show (0 : Int) ≤ (j : Int) by omega), rd_drop h, wrap_succ (show j < 9223372036854775807 by omega)]
    by_cases e : y = a
    · simp only [if_pos e]
      exact ev_now (by simp [e])
    · simp only [if_neg e]
      have := l1Has_l0 a xs hb ys (j + 1) h3
      have e2 : (y :: ys).contains a = ys.contains a := by simp [List.contains_cons, show ¬ a = y from fun h => e h.symm]
      rw [e2]
      exact this
theorem l1Has_ev (xs : List Int) (a : Int) (hb : xs.length ≤ 9223372036854775807) : Ev (fun k => spec_l1Has.f k xs a) (xs.contains a) := l1Has_l0 a xs hb xs 0 rfl
end Go.Proofs.YtcengijoicmldaaGreat.Ax

/- Several small texts together: Aw, Ops. No condition but those they name. -/
/- Numbers between two others. No condition. -/
namespace Go.Proofs.YtcengijoicmldaaGreat.Ax
open Go.RowKit Go.Proofs.YtcengijoicmldaaGreat.Pr Go.Proofs.YtcengijoicmldaaGreat.Pl Go.Proofs.YtcengijoicmldaaGreatW.PrintWords Go.Proofs.YtcengijoicmldaaGreatW.PrintLast Go.Proofs.YtcengijoicmldaaGreatW.PrintMore
set_option linter.unusedVariables false
set_option linter.unusedSimpArgs false
def win (n lo hi : Int) : Bool := decide (lo ≤ n ∧ n ≤ hi)
theorem win_iff (a lo hi : Int) : win a lo hi = true ↔ lo ≤ a ∧ a ≤ hi := by unfold win; simp
theorem l1In_eq (a b c : Int) : spec_l1In.f a b c = some (win a b c) := by
  unfold spec_l1In.f win
  split <;> simp <;> omega
theorem within_eq (a b c : Int) : impl_within.f a b c = some (win a b c) := by
  unfold impl_within.f win
  split <;> simp <;> omega
end Go.Proofs.YtcengijoicmldaaGreat.Ax

/- Each struct type among the laws' parameters: what it reads as. No condition. -/
namespace Go.Proofs.YtcengijoicmldaaGreat.Ops
open Go.RowKit Go.Proofs.YtcengijoicmldaaGreatW.PrintWords Go.Proofs.YtcengijoicmldaaGreat.Open Go.Proofs.YtcengijoicmldaaGreat.Pr
set_option linter.unusedVariables false
def Fii64 (x : Int) : Prop := (Lit.int .i64 x).wf = true
def FLii64 (x : (List Int)) : Prop := x.length < 9223372036854775808 ∧ ∀ e_ ∈ x, Fii64 e_
def F25 (x : S25) : Prop := FLii64 x.f0 ∧ FLii64 x.f1
def FL25 (x : (List S25)) : Prop := x.length < 9223372036854775808 ∧ ∀ e_ ∈ x, F25 e_
theorem op25 : Opn Tryz.prog k25 F25 25 := op_struct _ (fun x => ⟨x.1, x.2⟩) (fun x => rfl) Tryz.underlying25 (by kernel_rfl) (sg_cons rfl (by kernel_rfl) (op_slice Tryz.underlying23 (by kernel_rfl) (op_int Tryz.underlying3)) (sg_one rfl (by kernel_rfl) (op_slice Tryz.underlying23 (by kernel_rfl) (op_int Tryz.underlying3))))
end Go.Proofs.YtcengijoicmldaaGreat.Ops
