/- Several small texts together: Pl, Ah. No condition but those they name. -/
import Derived.Test.YtdnidldinafakaaWWords
import Derived.Test.YtdnidldinafakaaWMore
import Derived.Test.YtdnidldinafakaaPr1
/- Small plain words for the pure side: lists read by an index, rounds of loops. No condition. -/
namespace Go.Proofs.Ytdnidldinafakaa.Pl
open Go.RowKit Go.Proofs.YtdnidldinafakaaW.PrintWords Go.Proofs.YtdnidldinafakaaW.PrintLast Go.Proofs.YtdnidldinafakaaW.PrintMore
set_option linter.unusedVariables false
set_option linter.unusedSimpArgs false
theorem drop_cons {α : Type} {xs ys : List α} {j : Nat} {y : α} (h : xs.drop j = y :: ys) : j < xs.length ∧ xs[j]? = some y ∧ xs.drop (j + 1) = ys := by
  have h1 : j < xs.length := by
    rcases Nat.lt_or_ge j xs.length with h1 | h1
    · exact h1
    · rw [List.drop_of_length_le h1] at h
      cases h
  refine ⟨h1, ?_, ?_⟩
  · have := List.getElem?_drop (xs := xs) (i := j) (j := 0)
    rw [h] at this
    simpa using this.symm
  · have := List.drop_drop (l := xs) (i := 1) (j := j)
    rw [h] at this
    simpa using this.symm
theorem drop_nil {α : Type} {xs : List α} {j : Nat} (h : xs.drop j = []) : xs.length ≤ j := by
  simpa using h
theorem rd_drop {xs ys : List Int} {j : Nat} {y : Int} (h : xs.drop j = y :: ys) : rd xs (j : Int) = y := by
  have := (drop_cons h).2.1
  simp [rd, List.getD_eq_getElem?_getD, this]
theorem wrap_succ {j : Nat} (h : j < 9223372036854775807) : wrap64 ((j : Int) + 1) = ((j + 1 : Nat) : Int) := by
  unfold wrap64
  omega
theorem wrap_in {x : Int} (h1 : -9223372036854775808 ≤ x) (h2 : x < 9223372036854775808) : wrap64 x = x := by
  unfold wrap64
  omega
theorem ev_succ {α : Type} {g : Nat → Option α} {r : α} (h : Ev (fun k => g (k + 1)) r) : Ev g r := by
  obtain ⟨K, h⟩ := h
  refine ⟨K + 1, fun n hn => ?_⟩
  obtain ⟨m, rfl⟩ : ∃ m, n = m + 1 := ⟨n - 1, by omega⟩
  exact h m (by omega)
theorem ev_now {α : Type} {r s : α} (h : r = s) : Ev (fun _ => some r) s := h ▸ Ev.now r
theorem ev_eq {α : Type} {g : Option α} {r : α} (h : g = some r) : Ev (fun _ => g) r := ⟨0, fun _ _ => h⟩
theorem set_end {α : Type} {xs ys out : List α} {j : Nat} {y : α} (h : xs.drop j = y :: ys) (ho : out.length = xs.length) (hp : out.take j = xs.take j) : (out.set j y).length = xs.length ∧ (out.set j y).take (j + 1) = xs.take (j + 1) := by
  obtain ⟨h1, h2, _⟩ := drop_cons h
  refine ⟨by rw [List.length_set, ho], ?_⟩
  rw [List.take_add_one, List.take_add_one, h2, List.getElem?_set_self (by omega)]
  rw [List.take_set_of_le (Nat.le_refl _), hp]
end Go.Proofs.Ytdnidldinafakaa.Pl

/- What looking for a number in a list tells. Conditions: lengths that Go can hold. -/
namespace Go.Proofs.Ytdnidldinafakaa.Ax
open Go.RowKit Go.Proofs.Ytdnidldinafakaa.Pr Go.Proofs.Ytdnidldinafakaa.Pl Go.Proofs.YtdnidldinafakaaW.PrintWords Go.Proofs.YtdnidldinafakaaW.PrintLast Go.Proofs.YtdnidldinafakaaW.PrintMore
set_option linter.unusedVariables false
set_option linter.unusedSimpArgs false
theorem idxInt_l0 (a : Int) (xs : List Int) (hb : xs.length ≤ 9223372036854775807) : ∀ (ys : List Int) (j : Nat), xs.drop j = ys → ∃ r : Int, Ev (fun k => slices_Index_int_int.l0 k xs a (xs.length : Int) (j : Int)) r ∧ decide (r ≥ 0) = ys.contains a
  | [], j, h => by
    have h1 := drop_nil h
    refine ⟨-1, ev_succ ?_, by simp⟩
    simp only [slices_Index_int_int.l0]
    simp only [if_neg (show ¬ ((j : Int) < (xs.length : Int)) by omega)]
    exact ev_now rfl
  | y :: ys, j, h => by
    obtain ⟨h1, h2, h3⟩ := drop_cons h
    by_cases e : a = y
    · refine ⟨(j : Int), ev_succ ?_, by simp [e]⟩
      simp only [slices_Index_int_int.l0]
      simp only [if_pos (show (j : Int) < (xs.length : Int) by omega), if_pos (show (0 : Int) ≤ (j : Int) by omega), rd_drop h, if_pos e]
      exact ev_now rfl
    · obtain ⟨r, h4, h5⟩ := idxInt_l0 a xs hb ys (j + 1) h3
      refine ⟨r, ev_succ ?_, by rw [h5]; simp [List.contains_cons, e]⟩
      simp only [slices_Index_int_int.l0]
      simp only [if_pos (show (j : Int) < (xs.length : Int) by omega), if_pos (show (0 : Int) ≤ (j : Int) by omega), rd_drop h, if_neg e, wrap_succ (show j < 9223372036854775807 by omega)]
      exact h4
theorem contains_ev (xs : List Int) (a : Int) (hb : xs.length ≤ 9223372036854775807) : Ev (fun k => slices_Contains_int_int.f k xs a) (xs.contains a) := by
  simp only [slices_Contains_int_int.f, slices_Index_int_int.f]
  obtain ⟨r, h4, h5⟩ := idxInt_l0 a xs hb xs 0 rfl
  exact Ev.bind h4 (ev_now (by rw [h5]))
end Go.Proofs.Ytdnidldinafakaa.Ax
