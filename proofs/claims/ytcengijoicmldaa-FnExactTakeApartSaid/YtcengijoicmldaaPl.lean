/- Small plain words for the pure side: lists read by an index, rounds of loops. No condition. -/
import Derived.Test.YtcengijoicmldaaWWords
import Derived.Test.YtcengijoicmldaaWMore
namespace Go.Proofs.Ytcengijoicmldaa.Pl
open Go.RowKit Go.Proofs.YtcengijoicmldaaW.PrintWords Go.Proofs.YtcengijoicmldaaW.PrintLast Go.Proofs.YtcengijoicmldaaW.PrintMore
set_option linter.unusedVariables false
set_option linter.unusedSimpArgs false
theorem drop_cons {α : Type} {xs ys : List α} {j : Nat} {y : α} (h : xs.drop j = y :: ys) : j < xs.length ∧ xs[j]? = some y ∧ xs.drop (j + 1) = ys := by
  have h1 : j < xs.length := by
    rcases Nat.lt_or_ge j xs.length with h1 | h1
    · exact h1
    · rw [List.drop_of_length_le h1] at h
      cases h
  refine ⟨h1, ?_, ?_⟩
  · have := List.getElem?_drop (xs := xs) (i := j) (j := 0)
    rw [h] at this
    simpa using this.symm
  · have := List.drop_drop (l := xs) (i := 1) (j := j)
    rw [h] at this
    simpa using this.symm
theorem drop_nil {α : Type} {xs : List α} {j : Nat} (h : xs.drop j = []) : xs.length ≤ j := by
  simpa using h
theorem rd_drop {xs ys : List Int} {j : Nat} {y : Int} (h : xs.drop j = y :: ys) : rd xs (j : Int) = y := by
  have := (drop_cons h).2.1
  simp [rd, List.getD_eq_getElem?_getD, this]
theorem wrap_succ {j : Nat} (h : j < 9223372036854775807) : wrap64 ((j : Int) + 1) = ((j + 1 : Nat) : Int) := by
  unfold wrap64
  omega
theorem wrap_in {x : Int} (h1 : -9223372036854775808 ≤ x) (h2 : x < 9223372036854775808) : wrap64 x = x := by
  unfold wrap64
  omega
theorem ev_succ {α : Type} {g : Nat → Option α} {r : α} (h : Ev (fun k => g (k + 1)) r) : Ev g r := by
  obtain ⟨K, h⟩ := h
  refine ⟨K + 1, fun n hn => ?_⟩
  obtain ⟨m, rfl⟩ : ∃ m, n = m + 1 := ⟨n - 1, by omega⟩
  exact h m (by omega)
theorem ev_now {α : Type} {r s : α} (h : r = s) : Ev (fun _ => some r) s := h ▸ Ev.now r
theorem set_end {α : Type} {xs ys out : List α} {j : Nat} {y : α} (h : xs.drop j = y :: ys) (ho : out.length = xs.length) (hp : out.take j = xs.take j) : (out.set j y).length = xs.length ∧ (out.set j y).take (j + 1) = xs.take (j + 1) := by
  obtain ⟨h1, h2, _⟩ := drop_cons h
  refine ⟨by rw [List.length_set, ho], ?_⟩
  rw [List.take_add_one, List.take_add_one, h2, List.getElem?_set_self (by omega)]
  rw [List.take_set_of_le (Nat.le_refl _), hp]
end Go.Proofs.Ytcengijoicmldaa.Pl
