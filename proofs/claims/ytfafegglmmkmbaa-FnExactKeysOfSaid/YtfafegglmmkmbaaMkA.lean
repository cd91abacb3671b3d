/- What the marks in lists of lists tell: plain words. Conditions: marks that Go can hold. -/

import Derived.Test.YtfafegglmmkmbaaPl
import Derived.Test.YtfafegglmmkmbaaAm
namespace Go.Proofs.Ytfafegglmmkmbaa.Ax
open Go.RowKit Go.Proofs.Ytfafegglmmkmbaa.Pr Go.Proofs.Ytfafegglmmkmbaa.Pl Go.Proofs.YtfafegglmmkmbaaW.PrintWords Go.Proofs.YtfafegglmmkmbaaW.PrintLast Go.Proofs.YtfafegglmmkmbaaW.PrintMore
set_option linter.unusedVariables false
set_option linter.unusedSimpArgs false
def cntIntS (l : List Int) : Nat := l.length
def mkIntS (l : List Int) (m : Int) : List Int := mkL l.length m
theorem mkIntS_length (l : List Int) (m : Int) : (mkIntS l m).length = l.length := mkL_length _ _
/-- Things marked one after the other. -/
def cntOf {α : Type} (c : α → Nat) : List α → Nat
  | [] => 0
  | x :: xs => c x + cntOf c xs
def mkOf {α : Type} (c : α → Nat) (f : α → Int → α) : List α → Int → List α
  | [], _ => []
  | x :: xs, m => f x m :: mkOf c f xs (m + (c x : Nat))
section
variable {α : Type} {c : α → Nat} {f : α → Int → α}
theorem cntOf_snoc : ∀ (xs : List α) (y : α), cntOf c (xs ++ [y]) = cntOf c xs + c y
  | [], y => by simp [cntOf]
  | x :: xs, y => by simp only [List.cons_append, cntOf, cntOf_snoc xs y]; omega
theorem cntOf_append : ∀ (xs ys : List α), cntOf c (xs ++ ys) = cntOf c xs + cntOf c ys
  | [], y => by simp [cntOf]
  | x :: xs, y => by simp only [List.cons_append, cntOf, cntOf_append xs y]; omega
theorem mkOf_length : ∀ (xs : List α) (m : Int), (mkOf c f xs m).length = xs.length
  | [], _ => rfl
  | x :: xs, m => by rw [mkOf, List.length_cons, List.length_cons, mkOf_length xs]
theorem mkOf_snoc : ∀ (xs : List α) (y : α) (m : Int), mkOf c f (xs ++ [y]) m = mkOf c f xs m ++ [f y (m + (cntOf c xs : Nat))]
  | [], y, m => by simp [mkOf, cntOf]
  | x :: xs, y, m => by
    have := mkOf_snoc xs y (m + (c x : Nat))
    simp only [List.cons_append, mkOf, this, cntOf]
    rw [show m + ((c x : Nat) : Int) + ((cntOf c xs : Nat) : Int) = m + ((c x + cntOf c xs : Nat) : Int) by omega]
theorem mkOf_set (pre post : List α) (y : α) (m : Int) : (mkOf c f pre m ++ y :: post).set pre.length (f y (m + (cntOf c pre : Nat))) = mkOf c f (pre ++ [y]) m ++ post := by
  rw [mkOf_snoc, List.set_append_right _ _ (by rw [mkOf_length]; exact Nat.le_refl _), mkOf_length, Nat.sub_self, List.append_assoc]
  rfl
theorem mkOf_at (pre post : List α) (y z : α) (m : Int) : (mkOf c f pre m ++ y :: post).getD pre.length z = y := by
  rw [List.getD_eq_getElem?_getD, List.getElem?_append_right (by rw [mkOf_length]; exact Nat.le_refl _), mkOf_length, Nat.sub_self]
  rfl
end
abbrev cntIntSS : List (List Int) → Nat := cntOf cntIntS
abbrev mkIntSS : List (List Int) → Int → List (List Int) := mkOf cntIntS mkIntS
theorem cnt_le {α : Type} {c : α → Nat} (b : Nat) : ∀ (xs : List α), (∀ x ∈ xs, c x ≤ b) → cntOf c xs ≤ xs.length * b
  | [], _ => by simp [cntOf]
  | x :: xs, h => by
    have h1 := h x (by simp)
    have h2 := cnt_le b xs (fun y hy => h y (by simp [hy]))
    simp only [cntOf, List.length_cons, Nat.succ_mul]
    omega
theorem cntIntS_le {l : List Int} (h : l.length ≤ 1048576) : cntIntS l ≤ 1048576 := h
theorem cntIntSS_le {l : List (List Int)} (h : l.length ≤ 1048576 ∧ ∀ e ∈ l, e.length ≤ 1048576) : cntIntSS l ≤ 1099511627776 := by
  have h1 := cnt_le (c := cntIntS) 1048576 l h.2
  exact Nat.le_trans h1 (Nat.mul_le_mul_right 1048576 h.1)
end Go.Proofs.Ytfafegglmmkmbaa.Ax
