/- Looking for the first element of which something holds, and leaving out all of them: plain words. No condition. -/
import Derived.Test.YtdnidldinafakaaMx3
import Derived.Shelf.Abstract
namespace Go.Proofs.Ytdnidldinafakaa.Pr
open Go.RowKit Go.Proofs.YtdnidldinafakaaW.PrintWords Go.Proofs.YtdnidldinafakaaW.PrintLast Go.Proofs.YtdnidldinafakaaW.PrintMore
set_option linter.unusedVariables false
set_option linter.unusedSimpArgs false
def IsIdx {α : Type} (p : α → Bool) (l : List α) (i : Int) : Prop :=
  (i = -1 ∧ ∀ x ∈ l, p x = false) ∨ ∃ pre x post, l = pre ++ x :: post ∧ i = pre.length ∧ p x = true ∧ ∀ y ∈ pre, p y = false
def IdxPost {α : Type} (p : α → Bool) (l : List α) (w : World) (e : Ending) (w' : World) : Prop := ∃ i : Int, e = .returned (.int .i64 i) ∧ IsIdx p l i ∧ Below w.heap.size w w'
theorem IsIdx_hit {α : Type} {p : α → Bool} {l : List α} {kk : Nat} {x : α} (h : kk < l.length) (hx : l[kk]? = some x) (hq : p x = true) (hf : ∀ y ∈ l.take kk, p y = false) : IsIdx p l (kk : Int) := by
  rw [List.getElem?_eq_getElem h] at hx
  have hx := Option.some.inj hx
  refine .inr ⟨l.take kk, x, l.drop (kk + 1), ?_, ?_, hq, hf⟩
  · rw [← hx, List.getElem_cons_drop, List.take_append_drop]
  · rw [List.length_take, Nat.min_eq_left (Nat.le_of_lt h)]
theorem IsIdx_step {α : Type} {p : α → Bool} {l : List α} {kk : Nat} {x : α} (h : kk < l.length) (hx : l[kk]? = some x) (hq : p x = false) (hf : ∀ y ∈ l.take kk, p y = false) : ∀ y ∈ l.take (kk + 1), p y = false := by
  intro y hy
  rw [List.take_add_one, hx] at hy
  rcases List.mem_append.1 hy with hy | hy
  · exact hf y hy
  · have : y = x := by simpa using hy
    rw [this]
    exact hq
theorem IsIdx_miss {α : Type} {p : α → Bool} {l : List α} {kk : Nat} (h : l.length ≤ kk) (hf : ∀ y ∈ l.take kk, p y = false) : IsIdx p l (-1) := .inl ⟨rfl, by rwa [List.take_of_length_le h] at hf⟩
theorem IsIdx_any {α : Type} {p : α → Bool} {l : List α} {i : Int} (h : IsIdx p l i) : decide (i ≥ 0) = l.any p := by
  rcases h with ⟨rfl, h⟩ | ⟨pre, x, post, rfl, rfl, hx, _⟩
  · have : l.any p = false := List.any_eq_false.2 (fun x hx => by simp [h x hx])
    rw [this]
    rfl
  · have : (pre ++ x :: post).any p = true := List.any_eq_true.2 ⟨x, by simp, hx⟩
    rw [this]
    exact decide_eq_true (by omega)
theorem first_hit {α : Type} (p : α → Bool) : ∀ (l : List α), (¬ ∀ x ∈ l, p x = false) → ∃ pre x post, l = pre ++ x :: post ∧ p x = true ∧ ∀ y ∈ pre, p y = false
  | [], h => absurd (by simp) h
  | x :: l, h => by
    cases hq : p x with
    | true => exact ⟨[], x, l, rfl, hq, by simp⟩
    | false =>
      obtain ⟨pre, y, post, e, hy, hp⟩ := first_hit p l (fun h2 => h (fun z hz => by
        rcases List.mem_cons.1 hz with rfl | hz
        · exact hq
        · exact h2 z hz))
      exact ⟨x :: pre, y, post, by rw [e]; rfl, hy, fun z hz => by
        rcases List.mem_cons.1 hz with rfl | hz
        · exact hq
        · exact hp z hz⟩
theorem IsIdx_uniq {α : Type} {p : α → Bool} {l : List α} {i : Int} (h : IsIdx p l i) {pre post : List α} {x : α} (hl : l = pre ++ x :: post) (hx : p x = true) (hp : ∀ y ∈ pre, p y = false) : i = pre.length := by
  rcases h with ⟨_, h⟩ | ⟨pre2, x2, post2, h1, h2, h3, h4⟩
  · rw [h x (by rw [hl]; simp)] at hx
    cases hx
  · rw [h2]
    have h5 : pre2.length = pre.length := by
      rcases Nat.lt_trichotomy pre2.length pre.length with h | h | h
      · have : x2 ∈ pre := by
          have e : l[pre2.length]? = some x2 := by rw [h1]; simp
          rw [hl, List.getElem?_append_left h] at e
          exact List.mem_of_getElem? e
        rw [hp x2 this] at h3
        cases h3
      · exact h
      · have : x ∈ pre2 := by
          have e : l[pre.length]? = some x := by rw [hl]; simp
          rw [h1, List.getElem?_append_left h] at e
          exact List.mem_of_getElem? e
        rw [h4 x this] at hx
        cases hx
    rw [h5]
def DelPost {α : Type} (d : Kd α) (e0 : Nat) (r : List α) (w0 : World) (e : Ending) (w' : World) : Prop := ∃ v, e = .returned v ∧ d.R e0 w' w0.heap.size (fun _ => True) v r ∧ Below w0.heap.size w0 w'
def DelInv {α : Type} (p : α → Bool) (l : List α) (i j : Nat) (xs : List α) : Prop := i < j ∧ j ≤ l.length ∧ xs.length = l.length ∧ xs.take i = (l.take j).filter (fun x => !p x) ∧ xs.drop j = l.drop j
theorem DelInv_start {α : Type} {p : α → Bool} {l pre post : List α} {x : α} (hl : l = pre ++ x :: post) (hx : p x = true) (hp : ∀ y ∈ pre, p y = false) : DelInv p l pre.length (pre.length + 1) l := by
  refine ⟨by omega, by rw [hl]; simp, rfl, ?_, rfl⟩
  subst hl
  rw [List.take_left, show pre ++ x :: post = (pre ++ [x]) ++ post by simp, show pre.length + 1 = (pre ++ [x]).length by simp, List.take_left, List.filter_append, List.filter_eq_self.2 (fun y hy => by simp [hp y hy])]
  simp [hx]
theorem DelInv_at {α : Type} {p : α → Bool} {l xs : List α} {i j : Nat} {z : α} (h : DelInv p l i j xs) (hj : j < l.length) : xs.getD (j : Int).toNat z = l[j] := by
  obtain ⟨_, _, _, _, h5⟩ := h
  have e : xs[j]? = l[j]? := by
    have e1 := List.getElem?_drop (xs := xs) (i := j) (j := 0)
    have e2 := List.getElem?_drop (xs := l) (i := j) (j := 0)
    rw [h5, e2] at e1
    simpa using e1.symm
  rw [Int.toNat_natCast, List.getD_eq_getElem?_getD, e, List.getElem?_eq_getElem hj]
  rfl
theorem DelInv_skip {α : Type} {p : α → Bool} {l xs : List α} {i j : Nat} {y : α} (h : DelInv p l i j xs) (hj : j < l.length) (hy : l[j] = y) (hq : p y = true) : DelInv p l i (j + 1) xs := by
  obtain ⟨h1, h2, h3, h4, h5⟩ := h
  refine ⟨by omega, hj, h3, ?_, ?_⟩
  · rw [h4, List.take_add_one, List.getElem?_eq_getElem hj, hy, List.filter_append]
    simp [hq]
  · rw [← List.drop_drop, ← List.drop_drop, h5]
theorem DelInv_keep {α : Type} {p : α → Bool} {l xs : List α} {i j : Nat} {y : α} (h : DelInv p l i j xs) (hj : j < l.length) (hy : l[j] = y) (hq : p y = false) : DelInv p l (i + 1) (j + 1) (xs.set i y) := by
  obtain ⟨h1, h2, h3, h4, h5⟩ := h
  refine ⟨by omega, hj, by rw [List.length_set, h3], ?_, ?_⟩
  · rw [List.take_add_one (l := l), List.getElem?_eq_getElem hj, hy, List.filter_append, ← h4, List.take_add_one, List.getElem?_set_self (by omega), List.take_set_of_le (Nat.le_refl _)]
    simp [hq]
  · rw [List.drop_set_of_lt (by omega), ← List.drop_drop, ← List.drop_drop, h5]
theorem DelInv_end {α : Type} {p : α → Bool} {l xs : List α} {i j : Nat} (h : DelInv p l i j xs) (hj : l.length ≤ j) : xs.take i = l.filter (fun x => !p x) := by
  obtain ⟨h1, h2, h3, h4, h5⟩ := h
  rw [h4, List.take_of_length_le hj]
theorem boxed_cell (w : World) (u : Value) (t : TypeId) : (w.alloc (.cells #[u] t)).cell? ⟨w.heap.size, 0, none⟩ = some u := by
  have h := blk_new w (.cells #[u] t)
  simp only [World.cell?]
  rw [h]
  rfl
theorem boxed_size (w : World) (o : Obj) : (w.alloc o).heap.size = w.heap.size + 1 := by simp
end Go.Proofs.Ytdnidldinafakaa.Pr
