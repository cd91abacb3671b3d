/- Several small texts together: Mx1, Ar. No condition but those they name. -/
import Derived.Test.YtdnidldinafakaaPr7
import Derived.Test.YtdnidldinafakaaMx3
import Derived.Test.YtdnidldinafakaaPr1
import Derived.Test.YtdnidldinafakaaPr0
import Derived.Test.YtdnidldinafakaaOpen
import Derived.KernelRfl
/- Several small texts together: Ahs, Mx0. No condition but those they name. -/
/- What looking for a number in a list tells. Conditions: lengths that Go can hold. -/
namespace Go.Proofs.Ytdnidldinafakaa.Ax
open Go.RowKit Go.Proofs.Ytdnidldinafakaa.Pr Go.Proofs.Ytdnidldinafakaa.Pl Go.Proofs.YtdnidldinafakaaW.PrintWords Go.Proofs.YtdnidldinafakaaW.PrintLast Go.Proofs.YtdnidldinafakaaW.PrintMore
set_option linter.unusedVariables false
set_option linter.unusedSimpArgs false
theorem l1Has_l0 (a : Int) (xs : List Int) (hb : xs.length ≤ 9223372036854775807) : ∀ (ys : List Int) (j : Nat), xs.drop j = ys → Ev (fun k => spec_l1Has.l0 k a xs (xs.length : Int) (j : Int)) (ys.contains a)
  | [], j, h => by
    have h1 := drop_nil h
    refine ev_succ ?_
    simp only [spec_l1Has.l0]
    simp only [if_neg (show ¬ ((j : Int) < (xs.length : Int)) by omega)]
    exact ev_now rfl
  | y :: ys, j, h => by
    obtain ⟨h1, h2, h3⟩ := drop_cons h
    refine ev_succ ?_
    simp only [spec_l1Has.l0]
    simp only [if_pos (show (j : Int) < (xs.length : Int) by omega), if_pos (show (0 : Int) ≤ (j : Int) by omega), rd_drop h, wrap_succ (show j < 9223372036854775807 by omega)]
    by_cases e : y = a
    · simp only [if_pos e]
      exact ev_now (by simp [e])
    · simp only [if_neg e]
      have := l1Has_l0 a xs hb ys (j + 1) h3
      have e2 : (y :: ys).contains a = ys.contains a := by simp [List.contains_cons, show ¬ a = y from fun h => e h.symm]
      rw [e2]
      exact this
theorem l1Has_ev (xs : List Int) (a : Int) (hb : xs.length ≤ 9223372036854775807) : Ev (fun k => spec_l1Has.f k xs a) (xs.contains a) := l1Has_l0 a xs hb xs 0 rfl
end Go.Proofs.Ytdnidldinafakaa.Ax

/- Several small texts together: Aw, Ops. No condition but those they name. -/
/- Numbers between two others. No condition. -/
namespace Go.Proofs.Ytdnidldinafakaa.Ax
open Go.RowKit Go.Proofs.Ytdnidldinafakaa.Pr Go.Proofs.Ytdnidldinafakaa.Pl Go.Proofs.YtdnidldinafakaaW.PrintWords Go.Proofs.YtdnidldinafakaaW.PrintLast Go.Proofs.YtdnidldinafakaaW.PrintMore
set_option linter.unusedVariables false
set_option linter.unusedSimpArgs false
def win (n lo hi : Int) : Bool := decide (lo ≤ n ∧ n ≤ hi)
theorem win_iff (a lo hi : Int) : win a lo hi = true ↔ lo ≤ a ∧ a ≤ hi := by unfold win; simp
theorem l1In_eq (a b c : Int) : spec_l1In.f a b c = some (win a b c) := by
  unfold spec_l1In.f win
  split <;> simp <;> omega
theorem within_eq (a b c : Int) : impl_within.f a b c = some (win a b c) := by
  unfold impl_within.f win
  split <;> simp <;> omega
end Go.Proofs.Ytdnidldinafakaa.Ax

/- Each struct type among the laws' parameters: what it reads as. No condition. -/
namespace Go.Proofs.Ytdnidldinafakaa.Ops
open Go.RowKit Go.Proofs.YtdnidldinafakaaW.PrintWords Go.Proofs.Ytdnidldinafakaa.Open Go.Proofs.Ytdnidldinafakaa.Pr
set_option linter.unusedVariables false
def Fii64 (x : Int) : Prop := (Lit.int .i64 x).wf = true
def FLii64 (x : (List Int)) : Prop := x.length < 9223372036854775808 ∧ ∀ e_ ∈ x, Fii64 e_
def F39 (x : S39) : Prop := FLii64 x.f0 ∧ FLii64 x.f1
def FL39 (x : (List S39)) : Prop := x.length < 9223372036854775808 ∧ ∀ e_ ∈ x, F39 e_
theorem op39 : Opn Try.prog k39 F39 39 := op_struct _ (fun x => ⟨x.1, x.2⟩) (fun x => rfl) Try.underlying39 (by kernel_rfl) (sg_cons rfl (by kernel_rfl) (op_slice Try.underlying37 (by kernel_rfl) (op_int Try.underlying3)) (sg_one rfl (by kernel_rfl) (op_slice Try.underlying37 (by kernel_rfl) (op_int Try.underlying3))))
end Go.Proofs.Ytdnidldinafakaa.Ops

/- What rising numbers tell. Conditions: lengths that Go can hold. -/
namespace Go.Proofs.Ytdnidldinafakaa.Ax
open Go.RowKit Go.Proofs.Ytdnidldinafakaa.Pr Go.Proofs.Ytdnidldinafakaa.Pl Go.Proofs.YtdnidldinafakaaW.PrintWords Go.Proofs.YtdnidldinafakaaW.PrintLast Go.Proofs.YtdnidldinafakaaW.PrintMore
set_option linter.unusedVariables false
set_option linter.unusedSimpArgs false
def rs (lo hi : Int) : Option Int → List Int → Bool
  | _, [] => true
  | p, x :: xs => win x lo hi && (match p with | none => true | some q => decide (q < x)) && rs lo hi (some x) xs
theorem rs_nil (lo hi : Int) (p : Option Int) : rs lo hi p [] = true := by cases p <;> rfl
theorem rs_cons (lo hi : Int) (p : Option Int) (x : Int) (xs : List Int) : rs lo hi p (x :: xs) = (win x lo hi && (match p with | none => true | some q => decide (q < x)) && rs lo hi (some x) xs) := by cases p <;> rfl
theorem isRising_l0 (lo hi : Int) (xs : List Int) (hb : xs.length ≤ 9223372036854775807) : ∀ (ys : List Int) (j : Nat), xs.drop j = ys →
    Ev (fun k => impl_isRising.l0 k xs lo hi xs (xs.length : Int) (j : Int)) (rs lo hi (if j = 0 then none else some (rd xs ((j : Int) - 1))) ys)
  | [], j, h => by
    have h1 := drop_nil h
    refine ev_succ ?_
    simp only [impl_isRising.l0]
    simp only [if_neg (show ¬ ((j : Int) < (xs.length : Int)) by omega)]
    exact ev_now (rs_nil _ _ _).symm
  | y :: ys, j, h => by
    obtain ⟨h1, h2, h3⟩ := drop_cons h
    have ih := isRising_l0 lo hi xs hb ys (j + 1) h3
    have ep : rd xs (((j + 1 : Nat) : Int) - 1) = y := by rw [show ((j + 1 : Nat) : Int) - 1 = (j : Int) by omega]; exact rd_drop h
    rw [if_neg (by omega), ep] at ih
    refine ev_succ ?_
    simp only [impl_isRising.l0]
    simp only [if_pos (show (j : Int) < (xs.length : Int) by omega), if_pos (show (0 : Int) ≤ (j : Int) by omega), rd_drop h, within_eq, Option.bind_some, wrap_succ (show j < 9223372036854775807 by omega)]
    rw [rs_cons]
    cases e : win y lo hi
    · simp only [Bool.false_eq_true, if_false]
      exact ev_now (by simp)
    · simp only [if_true]
      by_cases hj : j = 0
      · subst hj
        simp only [if_neg (show ¬ (((0 : Nat) : Int) > 0) by omega)]
        simpa using ih
      · simp only [if_pos (show (j : Int) > 0 by omega), wrap_in (show -9223372036854775808 ≤ (j : Int) - 1 by omega) (show (j : Int) - 1 < 9223372036854775808 by omega), if_pos (show 0 ≤ (j : Int) - 1 by omega), if_pos (show (j : Int) - 1 < (xs.length : Int) by omega), if_neg hj]
        by_cases hk : rd xs ((j : Int) - 1) ≥ y
        · simp only [if_pos hk]
          exact ev_now (by simp; intro h; omega)
        · simp only [if_neg hk]
          simpa [show rd xs ((j : Int) - 1) < y by omega] using ih
theorem isRising_ev' (xs : List Int) (lo hi : Int) (hb : xs.length ≤ 9223372036854775807) : Ev (fun k => impl_isRising.f k xs lo hi) (rs lo hi none xs) := isRising_l0 lo hi xs hb xs 0 rfl
theorem rising_eq : ∀ k xs lo hi ys n j, spec_l1Rising.l0 k xs lo hi ys n j = impl_isRising.l0 k xs lo hi ys n j
  | 0, _, _, _, _, _, _ => by simp only [spec_l1Rising.l0, impl_isRising.l0]
  | k + 1, _, _, _, _, _, _ => by simp only [spec_l1Rising.l0, impl_isRising.l0, rising_eq k, l1In_eq, within_eq]
theorem l1Rising_ev (xs : List Int) (lo hi : Int) (hb : xs.length < 9223372036854775807) : Ev (fun k => spec_l1Rising.f k xs lo hi) (rs lo hi none xs) := by
  simp only [spec_l1Rising.f, rising_eq]
  exact isRising_l0 lo hi xs (by omega) xs 0 rfl
end Go.Proofs.Ytdnidldinafakaa.Ax
