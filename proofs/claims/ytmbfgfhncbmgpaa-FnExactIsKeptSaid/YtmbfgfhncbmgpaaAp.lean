/- What impl.isPart tells. Conditions: lengths that Go can hold. -/
import Derived.Test.YtmbfgfhncbmgpaaPr1
import Derived.Test.YtmbfgfhncbmgpaaPr6
import Derived.Test.YtmbfgfhncbmgpaaAr
import Derived.Test.YtmbfgfhncbmgpaaAh
namespace Go.Proofs.Ytmbfgfhncbmgpaa.Ax
open Go.RowKit Go.Proofs.Ytmbfgfhncbmgpaa.Pr Go.Proofs.Ytmbfgfhncbmgpaa.Pl Go.Proofs.YtmbfgfhncbmgpaaW.PrintWords Go.Proofs.YtmbfgfhncbmgpaaW.PrintLast Go.Proofs.YtmbfgfhncbmgpaaW.PrintMore
set_option linter.unusedVariables false
set_option linter.unusedSimpArgs false
theorem has_ev (ns : List Int) (n : Int) (hb : ns.length < 9223372036854775807) : Ev (fun k => slices_Contains_int_int.f k ns n) (decide (n ∈ ns)) := by
  have := contains_ev ns n (by omega)
  rwa [show ns.contains n = decide (n ∈ ns) by simp] at this
/-- Do numbers rise, and are all among others? -/
def pt (ns : List Int) : Option Int → List Int → Bool
  | _, [] => true
  | p, x :: xs => decide (x ∈ ns) && (match p with | none => true | some q => decide (q < x)) && pt ns (some x) xs
theorem pt_nil (ns : List Int) (p : Option Int) : pt ns p [] = true := by cases p <;> rfl
theorem pt_cons (ns : List Int) (p : Option Int) (x : Int) (xs : List Int) : pt ns p (x :: xs) = (decide (x ∈ ns) && (match p with | none => true | some q => decide (q < x)) && pt ns (some x) xs) := by cases p <;> rfl
theorem pt_mem {ns : List Int} : ∀ {l : List Int} {p : Option Int}, pt ns p l = true → ∀ x ∈ l, x ∈ ns
  | [], p, h, x, hx => by simp at hx
  | y :: ys, p, h, x, hx => by
    rw [pt_cons] at h
    simp only [Bool.and_eq_true, decide_eq_true_eq] at h
    rcases List.mem_cons.1 hx with rfl | hx
    · exact h.1.1
    · exact pt_mem h.2 x hx
theorem isPart_l0 (ns : List Int) (hn : ns.length < 9223372036854775807) (xs : List Int) (hb : xs.length < 9223372036854775807) : ∀ (ys : List Int) (j : Nat), xs.drop j = ys →
    Ev (fun k => impl_isPart.l0 k xs ns xs (xs.length : Int) (j : Int)) (pt ns (if j = 0 then none else some (rd xs ((j : Int) - 1))) ys)
  | [], j, h => by
    have h1 := drop_nil h
    refine ev_succ ?_
    simp only [impl_isPart.l0]
    simp only [if_neg (show ¬ ((j : Int) < (xs.length : Int)) by omega)]
    exact ev_now (pt_nil _ _).symm
  | y :: ys, j, h => by
    obtain ⟨h1, h2, h3⟩ := drop_cons h
    have ih := isPart_l0 ns hn xs hb ys (j + 1) h3
    have ep : rd xs (((j + 1 : Nat) : Int) - 1) = y := by rw [show ((j + 1 : Nat) : Int) - 1 = (j : Int) by omega]; exact rd_drop h
    rw [if_neg (by omega), ep] at ih
    refine ev_succ ?_
    simp only [impl_isPart.l0]
    simp only [if_pos (show (j : Int) < (xs.length : Int) by omega), if_pos (show (0 : Int) ≤ (j : Int) by omega), rd_drop h, wrap_succ (show j < 9223372036854775807 by omega)]
    refine Ev.bind (has_ev ns y hn) ?_
    rw [pt_cons]
    by_cases e : y ∈ ns
    · simp only [decide_eq_true e, if_true]
      by_cases hj : j = 0
      · subst hj
        simp only [if_neg (show ¬ (((0 : Nat) : Int) > 0) by omega)]
        simpa using ih
      · simp only [if_pos (show (j : Int) > 0 by omega), wrap_in (show -9223372036854775808 ≤ (j : Int) - 1 by omega) (show (j : Int) - 1 < 9223372036854775808 by omega), if_pos (show 0 ≤ (j : Int) - 1 by omega), if_pos (show (j : Int) - 1 < (xs.length : Int) by omega), if_neg hj]
        by_cases hk : rd xs ((j : Int) - 1) ≥ y
        · simp only [if_pos hk]
          exact ev_now (by simp; intro h; omega)
        · simp only [if_neg hk]
          simpa [show rd xs ((j : Int) - 1) < y by omega] using ih
    · simp only [decide_eq_false e, Bool.false_eq_true, if_false]
      exact ev_now (by simp)
theorem isPart_ev (xs ns : List Int) (hb : xs.length < 9223372036854775807) (hn : ns.length < 9223372036854775807) : Ev (fun k => impl_isPart.f k xs ns) (pt ns none xs) := isPart_l0 ns hn xs hb xs 0 rfl
theorem pt_from {ns : List Int} : ∀ {l : List Int} {p : Option Int}, pt ns p l = true → l.Pairwise (· < ·) ∧ (∀ x ∈ l, x ∈ ns) ∧ ∀ q, p = some q → ∀ x ∈ l, q < x
  | [], p, _ => by simp
  | x :: xs, p, h => by
    rw [pt_cons, Bool.and_eq_true, Bool.and_eq_true] at h
    obtain ⟨⟨h1, h2⟩, h3⟩ := h
    obtain ⟨i1, i2, i3⟩ := pt_from h3
    refine ⟨List.pairwise_cons.2 ⟨i3 x rfl, i1⟩, fun y hy => ?_, fun q hq y hy => ?_⟩
    · rcases List.mem_cons.1 hy with e | e
      · rw [e]; simpa using h1
      · exact i2 y e
    · subst hq
      have h2' : q < x := by simpa using h2
      rcases List.mem_cons.1 hy with e | e
      · omega
      · have := i3 x rfl y e; omega
theorem pt_to {ns : List Int} : ∀ {l : List Int} {p : Option Int}, l.Pairwise (· < ·) → (∀ x ∈ l, x ∈ ns) → (∀ q, p = some q → ∀ x ∈ l, q < x) → pt ns p l = true
  | [], p, _, _, _ => pt_nil _ _
  | x :: xs, p, h1, h2, h3 => by
    obtain ⟨j1, j2⟩ := List.pairwise_cons.1 h1
    rw [pt_cons, Bool.and_eq_true, Bool.and_eq_true]
    refine ⟨⟨decide_eq_true (h2 x (by simp)), ?_⟩, pt_to j2 (fun y hy => h2 y (by simp [hy])) (fun q hq y hy => by injection hq with hq; rw [← hq]; exact j1 y hy)⟩
    cases p with
    | none => rfl
    | some q => simpa using h3 q rfl x (by simp)
theorem pt_iff {ns l : List Int} : pt ns none l = true ↔ l.Pairwise (· < ·) ∧ ∀ x ∈ l, x ∈ ns :=
  ⟨fun h => ⟨(pt_from h).1, (pt_from h).2.1⟩, fun h => pt_to h.1 h.2 (fun q hq => by cases hq)⟩
end Go.Proofs.Ytmbfgfhncbmgpaa.Ax
