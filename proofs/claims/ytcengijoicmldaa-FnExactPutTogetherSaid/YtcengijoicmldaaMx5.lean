/- Several small texts together: Aput, Ar. No condition but those they name. -/
import Derived.Test.YtcengijoicmldaaPr2
import Derived.Test.YtcengijoicmldaaAc
import Derived.Test.YtcengijoicmldaaMx3
import Derived.Test.YtcengijoicmldaaPr1
import Derived.Test.YtcengijoicmldaaMx7
/- A number put to its place in a rising list, by the reference's code. Condition: a length that Go can hold. -/
namespace Go.Proofs.Ytcengijoicmldaa.Ax
open Go.RowKit Go.Proofs.Ytcengijoicmldaa.Pr Go.Proofs.Ytcengijoicmldaa.Pl Go.Proofs.YtcengijoicmldaaW.PrintWords Go.Proofs.YtcengijoicmldaaW.PrintLast Go.Proofs.YtcengijoicmldaaW.PrintMore
set_option linter.unusedVariables false
set_option linter.unusedSimpArgs false
theorem ins_split (n : Int) : ∀ (pre ys : List Int), (∀ x ∈ pre, x < n) → ins (pre ++ ys) n = pre ++ ins ys n
 | [], ys, _ => rfl
 | x :: pre, ys, h => by
  rw [List.cons_append, ins, if_pos (h x (by simp)), ins_split n pre ys (fun z hz => h z (by simp [hz]))]
  rfl
theorem l1Put_l0 (n : Int) (l : List Int) (hb : l.length < 1000000) : ∀ (ys : List Int) (j : Nat), l.drop j = ys → j ≤ l.length → (∀ x ∈ l.take j, x < n) → Ev (fun k => spec_l1Put.l0 k l n (j : Int)) (ins l n)
 | [], j, h, hjl, hp => by
  have hj := drop_nil h
  refine ev_succ ?_
  simp only [spec_l1Put.l0]
  have ht : l.take j = l := List.take_of_length_le hj
  rw [ht] at hp
  have e : ins l n = l ++ [n] := by
   have := ins_split n l [] hp
   simpa [ins] using this
  by_cases hje : j = l.length
  ·subst hje
   simp only [if_neg (show ¬ ((l.length : Int) < (l.length : Int)) by omega), Option.bind_some, if_pos (show (0 : Int) ≤ (l.length : Int) by omega), if_pos (show (l.length : Int) ≤ (l.length : Int) by omega), Int.toNat_natCast, List.take_length, List.drop_length, List.length_nil, List.nil_append, List.append_nil, if_pos (show 0 + l.length < 17592186044416 by omega), if_pos (show l.length < 17592186044416 by omega), List.length_append, List.length_singleton, List.length_nil]
   rw [if_pos]
   ·exact ev_now e.symm
   ·omega
  ·omega
 | y :: ys, j, h, hjl, hp => by
  obtain ⟨i1, i2, i3⟩ := drop_cons h
  have hsplit : l = l.take j ++ (y :: ys) := by rw [← h, List.take_append_drop]
  have hi : ins l n = l.take j ++ ins (y :: ys) n := by
   have := ins_split n (l.take j) (y :: ys) hp
   rwa [← hsplit] at this
  have htl : (l.take j).length = j := by rw [List.length_take]; omega
  have hdl : (l.drop j).length = l.length - j := List.length_drop
  refine ev_succ ?_
  simp only [spec_l1Put.l0]
  simp only [if_pos (show (j : Int) < (l.length : Int) by omega), if_pos (show (0 : Int) ≤ (j : Int) by omega), rd_drop h, wrap_succ (show j < 9223372036854775807 by omega)]
  by_cases c1 : y < n
  ·simp only [if_pos c1]
   refine l1Put_l0 n l hb ys (j + 1) i3 i1 (fun x hx => ?_)
   rw [List.take_add_one, i2] at hx
   rcases List.mem_append.1 hx with hx | hx
   ·exact hp x hx
   ·have : x = y := by simpa using hx
    omega
  ·simp only [if_neg c1]
   by_cases c2 : y = n
   ·simp only [if_pos c2]
    refine ev_now ?_
    rw [hi, ins, if_neg c1, if_pos c2, ← hsplit]
   ·simp only [if_neg c2, Option.bind_some, if_pos (show (j : Int) ≤ (l.length : Int) by omega), Int.toNat_natCast, List.nil_append, List.length_nil, List.length_append, List.length_singleton, htl, hdl]
    simp only [if_pos (show 0 + j < 17592186044416 by omega), if_pos (show j < 17592186044416 by omega), if_pos (show 0 + j + 1 + (l.length - j) < 17592186044416 by omega), if_pos (show j + 1 + (l.length - j) < 17592186044416 by omega)]
    refine ev_now ?_
    rw [hi, ins, if_neg c1, if_neg c2, h]
    simp
theorem l1Put_ev (n : Int) (l : List Int) (hb : l.length < 1000000) : Ev (fun k => spec_l1Put.f k l n) (ins l n) := l1Put_l0 n l hb l 0 rfl (Nat.zero_le _) (by simp)
end Go.Proofs.Ytcengijoicmldaa.Ax

/- What rising numbers tell. Conditions: lengths that Go can hold. -/
namespace Go.Proofs.Ytcengijoicmldaa.Ax
open Go.RowKit Go.Proofs.Ytcengijoicmldaa.Pr Go.Proofs.Ytcengijoicmldaa.Pl Go.Proofs.YtcengijoicmldaaW.PrintWords Go.Proofs.YtcengijoicmldaaW.PrintLast Go.Proofs.YtcengijoicmldaaW.PrintMore
set_option linter.unusedVariables false
set_option linter.unusedSimpArgs false
def rs (lo hi : Int) : Option Int → List Int → Bool
 | _, [] => true
 | p, x :: xs => win x lo hi && (match p with | none => true | some q => decide (q < x)) && rs lo hi (some x) xs
theorem rs_nil (lo hi : Int) (p : Option Int) : rs lo hi p [] = true := by cases p <;> rfl
theorem rs_cons (lo hi : Int) (p : Option Int) (x : Int) (xs : List Int) : rs lo hi p (x :: xs) = (win x lo hi && (match p with | none => true | some q => decide (q < x)) && rs lo hi (some x) xs) := by cases p <;> rfl
theorem isRising_l0 (lo hi : Int) (xs : List Int) (hb : xs.length ≤ 9223372036854775807) : ∀ (ys : List Int) (j : Nat), xs.drop j = ys →
  Ev (fun k => impl_isRising.l0 k xs lo hi xs (xs.length : Int) (j : Int)) (rs lo hi (if j = 0 then none else some (rd xs ((j : Int) - 1))) ys)
 | [], j, h => by
  have h1 := drop_nil h
  refine ev_succ ?_
  simp only [impl_isRising.l0]
  simp only [if_neg (show ¬ ((j : Int) < (xs.length : Int)) by omega)]
  exact ev_now (rs_nil _ _ _).symm
 | y :: ys, j, h => by
  obtain ⟨h1, h2, h3⟩ := drop_cons h
  have ih := isRising_l0 lo hi xs hb ys (j + 1) h3
  have ep : rd xs (((j + 1 : Nat) : Int) - 1) = y := by rw [show ((j + 1 : Nat) : Int) - 1 = (j : Int) by omega]; exact rd_drop h
  rw [if_neg (by omega), ep] at ih
  refine ev_succ ?_
  simp only [impl_isRising.l0]
  simp only [if_pos (show (j : Int) < (xs.length : Int) by omega), if_pos (show (0 : Int) ≤ (j : Int) by omega), rd_drop h, within_eq, Option.bind_some, wrap_succ (show j < 9223372036854775807 by omega)]
  rw [rs_cons]
  cases e : win y lo hi
  ·simp only [Bool.false_eq_true, if_false]
   exact ev_now (by simp)
  ·simp only [if_true]
   by_cases hj : j = 0
   ·subst hj
    simp only [if_neg (show ¬ (((0 : Nat) : Int) > 0) by omega)]
    simpa using ih
   ·simp only [if_pos (show (j : Int) > 0 by omega), wrap_in (show -9223372036854775808 ≤ (j : Int) - 1 by omega) (show (j : Int) - 1 < 9223372036854775808 by omega), if_pos (show 0 ≤ (j : Int) - 1 by omega), if_pos (show (j : Int) - 1 < (xs.length : Int) by omega), if_neg hj]
    by_cases hk : rd xs ((j : Int) - 1) ≥ y
    ·simp only [if_pos hk]
     exact ev_now (by simp; intro h; omega)
    ·simp only [if_neg hk]
     simpa [show rd xs ((j : Int) - 1) < y by omega] using ih
theorem isRising_ev (xs : List Int) (lo hi : Int) (hb : xs.length < 9223372036854775807) : Ev (fun k => impl_isRising.f k xs lo hi) (rs lo hi none xs) := isRising_l0 lo hi xs (by omega) xs 0 rfl
theorem rising_eq : ∀ k xs lo hi ys n j, spec_l1Rising.l0 k xs lo hi ys n j = impl_isRising.l0 k xs lo hi ys n j
 | 0, _, _, _, _, _, _ => by simp only [spec_l1Rising.l0, impl_isRising.l0]
 | k + 1, _, _, _, _, _, _ => by simp only [spec_l1Rising.l0, impl_isRising.l0, rising_eq k, l1In_eq, within_eq]
theorem l1Rising_ev (xs : List Int) (lo hi : Int) (hb : xs.length < 9223372036854775807) : Ev (fun k => spec_l1Rising.f k xs lo hi) (rs lo hi none xs) := by
 simp only [spec_l1Rising.f, rising_eq]
 exact isRising_l0 lo hi xs (by omega) xs 0 rfl
end Go.Proofs.Ytcengijoicmldaa.Ax
