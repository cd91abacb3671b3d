/- Several small texts together: Mx7, Ar. No condition but those they name. -/
import Derived.Test.YtdnidldinafakaaMx17
import Derived.Test.YtdnidldinafakaaMx13
import Derived.Test.YtdnidldinafakaaPr0
import Derived.Test.YtdnidldinafakaaOpen
import Derived.KernelRfl
import Derived.Test.YtdnidldinafakaaPr1
import Derived.Test.YtdnidldinafakaaPr5
import Derived.Test.YtdnidldinafakaaPr6
/- Several small texts together: MkA, Mx2. No condition but those they name. -/
/- What the marks in lists of lists tell: plain words. Conditions: marks that Go can hold. -/

namespace Go.Proofs.Ytdnidldinafakaa.Ax
open Go.RowKit Go.Proofs.Ytdnidldinafakaa.Pr Go.Proofs.Ytdnidldinafakaa.Pl Go.Proofs.YtdnidldinafakaaW.PrintWords Go.Proofs.YtdnidldinafakaaW.PrintLast Go.Proofs.YtdnidldinafakaaW.PrintMore
set_option linter.unusedVariables false
set_option linter.unusedSimpArgs false
def cntIntS (l : List Int) : Nat := l.length
def mkIntS (l : List Int) (m : Int) : List Int := mkL l.length m
theorem mkIntS_length (l : List Int) (m : Int) : (mkIntS l m).length = l.length := mkL_length _ _
def cntOf {α : Type} (c : α → Nat) : List α → Nat
  | [] => 0
  | x :: xs => c x + cntOf c xs
def mkOf {α : Type} (c : α → Nat) (f : α → Int → α) : List α → Int → List α
  | [], _ => []
  | x :: xs, m => f x m :: mkOf c f xs (m + (c x : Nat))
section
variable {α : Type} {c : α → Nat} {f : α → Int → α}
theorem cntOf_snoc : ∀ (xs : List α) (y : α), cntOf c (xs ++ [y]) = cntOf c xs + c y
  | [], y => by simp [cntOf]
  | x :: xs, y => by simp only [List.cons_append, cntOf, cntOf_snoc xs y]; omega
theorem cntOf_append : ∀ (xs ys : List α), cntOf c (xs ++ ys) = cntOf c xs + cntOf c ys
  | [], y => by simp [cntOf]
  | x :: xs, y => by simp only [List.cons_append, cntOf, cntOf_append xs y]; omega
theorem mkOf_length : ∀ (xs : List α) (m : Int), (mkOf c f xs m).length = xs.length
  | [], _ => rfl
  | x :: xs, m => by rw [mkOf, List.length_cons, List.length_cons, mkOf_length xs]
theorem mkOf_snoc : ∀ (xs : List α) (y : α) (m : Int), mkOf c f (xs ++ [y]) m = mkOf c f xs m ++ [f y (m + (cntOf c xs : Nat))]
  | [], y, m => by simp [mkOf, cntOf]
  | x :: xs, y, m => by
    have := mkOf_snoc xs y (m + (c x : Nat))
    simp only [List.cons_append, mkOf, this, cntOf]
    rw [show m + ((c x : Nat) : Int) + ((cntOf c xs : Nat) : Int) = m + ((c x + cntOf c xs : Nat) : Int) by omega]
theorem mkOf_set (pre post : List α) (y : α) (m : Int) : (mkOf c f pre m ++ y :: post).set pre.length (f y (m + (cntOf c pre : Nat))) = mkOf c f (pre ++ [y]) m ++ post := by
  rw [mkOf_snoc, List.set_append_right _ _ (by rw [mkOf_length]; exact Nat.le_refl _), mkOf_length, Nat.sub_self, List.append_assoc]
  rfl
theorem mkOf_at (pre post : List α) (y z : α) (m : Int) : (mkOf c f pre m ++ y :: post).getD pre.length z = y := by
  rw [List.getD_eq_getElem?_getD, List.getElem?_append_right (by rw [mkOf_length]; exact Nat.le_refl _), mkOf_length, Nat.sub_self]
  rfl
end
theorem cnt_le {α : Type} {c : α → Nat} (b : Nat) : ∀ (xs : List α), (∀ x ∈ xs, c x ≤ b) → cntOf c xs ≤ xs.length * b
  | [], _ => by simp [cntOf]
  | x :: xs, h => by
    have h1 := h x (by simp)
    have h2 := cnt_le b xs (fun y hy => h y (by simp [hy]))
    simp only [cntOf, List.length_cons, Nat.succ_mul]
    omega
end Go.Proofs.Ytdnidldinafakaa.Ax

/- Several small texts together: Ops, Aw. No condition but those they name. -/
/- Each struct type among the laws' parameters: what it reads as. No condition. -/
namespace Go.Proofs.Ytdnidldinafakaa.Ops
open Go.RowKit Go.Proofs.YtdnidldinafakaaW.PrintWords Go.Proofs.Ytdnidldinafakaa.Open Go.Proofs.Ytdnidldinafakaa.Pr
set_option linter.unusedVariables false
def Fii64 (x : Int) : Prop := (Lit.int .i64 x).wf = true
def FLii64 (x : (List Int)) : Prop := x.length < 9223372036854775808 ∧ ∀ e_ ∈ x, Fii64 e_
def F39 (x : S39) : Prop := FLii64 x.f0 ∧ FLii64 x.f1
def FL39 (x : (List S39)) : Prop := x.length < 9223372036854775808 ∧ ∀ e_ ∈ x, F39 e_
theorem op39 : Opn Try.prog k39 F39 39 := op_struct _ (fun x => ⟨x.1, x.2⟩) (fun x => rfl) Try.underlying39 (by kernel_rfl) (sg_cons rfl (by kernel_rfl) (op_slice Try.underlying37 (by kernel_rfl) (op_int Try.underlying3)) (sg_one rfl (by kernel_rfl) (op_slice Try.underlying37 (by kernel_rfl) (op_int Try.underlying3))))
end Go.Proofs.Ytdnidldinafakaa.Ops

/- Numbers between two others. No condition. -/
namespace Go.Proofs.Ytdnidldinafakaa.Ax
open Go.RowKit Go.Proofs.Ytdnidldinafakaa.Pr Go.Proofs.Ytdnidldinafakaa.Pl Go.Proofs.YtdnidldinafakaaW.PrintWords Go.Proofs.YtdnidldinafakaaW.PrintLast Go.Proofs.YtdnidldinafakaaW.PrintMore
set_option linter.unusedVariables false
set_option linter.unusedSimpArgs false
def win (n lo hi : Int) : Bool := decide (lo ≤ n ∧ n ≤ hi)
theorem win_iff (a lo hi : Int) : win a lo hi = true ↔ lo ≤ a ∧ a ≤ hi := by unfold win; simp
theorem l1In_eq (a b c : Int) : spec_l1In.f a b c = some (win a b c) := by
  unfold spec_l1In.f win
  split <;> simp <;> omega
theorem within_eq (a b c : Int) : impl_within.f a b c = some (win a b c) := by
  unfold impl_within.f win
  split <;> simp <;> omega
end Go.Proofs.Ytdnidldinafakaa.Ax

/- What rising numbers tell. Conditions: lengths that Go can hold. -/
namespace Go.Proofs.Ytdnidldinafakaa.Ax
open Go.RowKit Go.Proofs.Ytdnidldinafakaa.Pr Go.Proofs.Ytdnidldinafakaa.Pl Go.Proofs.YtdnidldinafakaaW.PrintWords Go.Proofs.YtdnidldinafakaaW.PrintLast Go.Proofs.YtdnidldinafakaaW.PrintMore
set_option linter.unusedVariables false
set_option linter.unusedSimpArgs false
def rs (lo hi : Int) : Option Int → List Int → Bool
  | _, [] => true
  | p, x :: xs => win x lo hi && (match p with | none => true | some q => decide (q < x)) && rs lo hi (some x) xs
theorem rs_nil (lo hi : Int) (p : Option Int) : rs lo hi p [] = true := by cases p <;> rfl
theorem rs_cons (lo hi : Int) (p : Option Int) (x : Int) (xs : List Int) : rs lo hi p (x :: xs) = (win x lo hi && (match p with | none => true | some q => decide (q < x)) && rs lo hi (some x) xs) := by cases p <;> rfl
theorem isRising_l0 (lo hi : Int) (xs : List Int) (hb : xs.length ≤ 9223372036854775807) : ∀ (ys : List Int) (j : Nat), xs.drop j = ys →
    Ev (fun k => impl_isRising.l0 k xs lo hi xs (xs.length : Int) (j : Int)) (rs lo hi (if j = 0 then none else some (rd xs ((j : Int) - 1))) ys)
  | [], j, h => by
    have h1 := drop_nil h
    refine ev_succ ?_
    simp only [impl_isRising.l0]
    simp only [if_neg (show ¬ ((j : Int) < (xs.length : Int)) by omega)]
    exact ev_now (rs_nil _ _ _).symm
  | y :: ys, j, h => by
    obtain ⟨h1, h2, h3⟩ := drop_cons h
    have ih := isRising_l0 lo hi xs hb ys (j + 1) h3
    have ep : rd xs (((j + 1 : Nat) : Int) - 1) = y := by rw [show ((j + 1 : Nat) : Int) - 1 = (j : Int) by omega]; exact rd_drop h
    rw [if_neg (by omega), ep] at ih
    refine ev_succ ?_
    simp only [impl_isRising.l0]
    simp only [if_pos (show (j : Int) < (xs.length : Int) by omega), if_pos (show (0 : Int) ≤ (j : Int) by omega), rd_drop h, within_eq, Option.bind_some, wrap_succ (show j < 9223372036854775807 by omega)]
    rw [rs_cons]
    cases e : win y lo hi
    · simp only [Bool.false_eq_true, if_false]
      exact ev_now (by simp)
    · simp only [if_true]
      by_cases hj : j = 0
      · subst hj
        simp only [if_neg (show ¬ (((0 : Nat) : Int) > 0) by omega)]
        simpa using ih
      · simp only [if_pos (show (j : Int) > 0 by omega), wrap_in (show -9223372036854775808 ≤ (j : Int) - 1 by omega) (show (j : Int) - 1 < 9223372036854775808 by omega), if_pos (show 0 ≤ (j : Int) - 1 by omega), if_pos (show (j : Int) - 1 < (xs.length : Int) by omega), if_neg hj]
        by_cases hk : rd xs ((j : Int) - 1) ≥ y
        · simp only [if_pos hk]
          exact ev_now (by simp; intro h; omega)
        · simp only [if_neg hk]
          simpa [show rd xs ((j : Int) - 1) < y by omega] using ih
theorem isRising_ev' (xs : List Int) (lo hi : Int) (hb : xs.length ≤ 9223372036854775807) : Ev (fun k => impl_isRising.f k xs lo hi) (rs lo hi none xs) := isRising_l0 lo hi xs hb xs 0 rfl
theorem rising_eq : ∀ k xs lo hi ys n j, spec_l1Rising.l0 k xs lo hi ys n j = impl_isRising.l0 k xs lo hi ys n j
  | 0, _, _, _, _, _, _ => by simp only [spec_l1Rising.l0, impl_isRising.l0]
  | k + 1, _, _, _, _, _, _ => by simp only [spec_l1Rising.l0, impl_isRising.l0, rising_eq k, l1In_eq, within_eq]
theorem l1Rising_ev (xs : List Int) (lo hi : Int) (hb : xs.length < 9223372036854775807) : Ev (fun k => spec_l1Rising.f k xs lo hi) (rs lo hi none xs) := by
  simp only [spec_l1Rising.f, rising_eq]
  exact isRising_l0 lo hi xs (by omega) xs 0 rfl
end Go.Proofs.Ytdnidldinafakaa.Ax
