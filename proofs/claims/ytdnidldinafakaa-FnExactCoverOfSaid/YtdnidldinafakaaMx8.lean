/- Several small texts together: Cc, Fd. No condition but those they name. -/
import Derived.Test.YtdnidldinafakaaPr0
import Derived.Test.YtdnidldinafakaaPr2
import Derived.Test.YtdnidldinafakaaMx17
import Derived.Test.YtdnidldinafakaaMx13
import Derived.Shelf.Abstract
/- What slices.Concat comes to at two lists of numbers. Condition: a length that Go can make room for. -/
namespace Go.Proofs.Ytdnidldinafakaa.Ax
open Go.RowKit Go.Proofs.Ytdnidldinafakaa.Pr Go.Proofs.Ytdnidldinafakaa.Pl Go.Proofs.YtdnidldinafakaaW.PrintWords Go.Proofs.YtdnidldinafakaaW.PrintLast Go.Proofs.YtdnidldinafakaaW.PrintMore
set_option linter.unusedVariables false
set_option linter.unusedSimpArgs false
theorem concat_ev (a b : List Int) (h : a.length + b.length ≤ 17592186043904) : Ev (fun k => slices_Concat_int_int.f k [a, b]) (a ++ b) := by
  have r0 : rd_L1 [a, b] 0 = a := rfl
  have r1 : rd_L1 [a, b] 1 = b := rfl
  have w1 : wrap64 (0 + (a.length : Int)) = (a.length : Int) := by rw [wrap_in (by omega) (by omega)]; omega
  have w2 : wrap64 ((a.length : Int) + (b.length : Int)) = ((a.length + b.length : Nat) : Int) := by rw [wrap_in (by omega) (by omega)]; omega
  have w3 : wrap64 (0 + 1) = 1 := by rw [wrap_in (by omega) (by omega)]; rfl
  have w4 : wrap64 (1 + 1) = 2 := by rw [wrap_in (by omega) (by omega)]; rfl
  have hl : (([a, b] : List (List Int)).length : Int) = 2 := rfl
  simp only [slices_Concat_int_int.f, hl]
  refine ev_succ ?_
  simp only [slices_Concat_int_int.l0, hl, r0, w1, w3, if_pos (show (0 : Int) < 2 by omega), if_pos (show (0 : Int) ≤ 0 by omega), if_neg (show ¬ ((a.length : Int) < 0) by omega)]
  refine ev_succ ?_
  simp only [slices_Concat_int_int.l0, hl, r1, w2, w4, if_pos (show (1 : Int) < 2 by omega), if_pos (show (0 : Int) ≤ 1 by omega), if_neg (show ¬ (((a.length + b.length : Nat) : Int) < 0) by omega)]
  refine ev_succ ?_
  simp only [slices_Concat_int_int.l0, hl, if_neg (show ¬ ((2 : Int) < 2) by omega)]
  refine Ev.bind (ev_eq (r := []) ?_) ?_
  · unfold slices_Grow_int_int.f
    rw [if_pos ⟨rfl, by omega, by omega⟩]
  refine ev_succ ?_
  simp only [slices_Concat_int_int.l1, hl, r0, w3, if_pos (show (0 : Int) < 2 by omega), if_pos (show (0 : Int) ≤ 0 by omega), List.length_nil, if_pos (show 0 + a.length < 17592186044416 by omega), List.nil_append]
  refine ev_succ ?_
  simp only [slices_Concat_int_int.l1, hl, r1, w4, if_pos (show (1 : Int) < 2 by omega), if_pos (show (0 : Int) ≤ 1 by omega), if_pos (show a.length + b.length < 17592186044416 by omega)]
  refine ev_succ ?_
  simp only [slices_Concat_int_int.l1, hl, if_neg (show ¬ ((2 : Int) < 2) by omega)]
  exact ev_now rfl
end Go.Proofs.Ytdnidldinafakaa.Ax

/- Looking for the first element of which something holds, and leaving out all of them: plain words. No condition. -/
namespace Go.Proofs.Ytdnidldinafakaa.Pr
open Go.RowKit Go.Proofs.YtdnidldinafakaaW.PrintWords Go.Proofs.YtdnidldinafakaaW.PrintLast Go.Proofs.YtdnidldinafakaaW.PrintMore
set_option linter.unusedVariables false
set_option linter.unusedSimpArgs false
def IsIdx {α : Type} (p : α → Bool) (l : List α) (i : Int) : Prop :=
  (i = -1 ∧ ∀ x ∈ l, p x = false) ∨ ∃ pre x post, l = pre ++ x :: post ∧ i = pre.length ∧ p x = true ∧ ∀ y ∈ pre, p y = false
def IdxPost {α : Type} (p : α → Bool) (l : List α) (w : World) (e : Ending) (w' : World) : Prop := ∃ i : Int, e = .returned (.int .i64 i) ∧ IsIdx p l i ∧ Below w.heap.size w w'
theorem IsIdx_hit {α : Type} {p : α → Bool} {l : List α} {kk : Nat} {x : α} (h : kk < l.length) (hx : l[kk]? = some x) (hq : p x = true) (hf : ∀ y ∈ l.take kk, p y = false) : IsIdx p l (kk : Int) := by
  rw [List.getElem?_eq_getElem h] at hx
  have hx := Option.some.inj hx
  refine .inr ⟨l.take kk, x, l.drop (kk + 1), ?_, ?_, hq, hf⟩
  · rw [← hx, List.getElem_cons_drop, List.take_append_drop]
  · rw [List.length_take, Nat.min_eq_left (Nat.le_of_lt h)]
theorem IsIdx_step {α : Type} {p : α → Bool} {l : List α} {kk : Nat} {x : α} (h : kk < l.length) (hx : l[kk]? = some x) (hq : p x = false) (hf : ∀ y ∈ l.take kk, p y = false) : ∀ y ∈ l.take (kk + 1), p y = false := by
  intro y hy
  rw [List.take_add_one, hx] at hy
  rcases List.mem_append.1 hy with hy | hy
  · exact hf y hy
  · have : y = x := by simpa using hy
    rw [this]
    exact hq
theorem IsIdx_miss {α : Type} {p : α → Bool} {l : List α} {kk : Nat} (h : l.length ≤ kk) (hf : ∀ y ∈ l.take kk, p y = false) : IsIdx p l (-1) := .inl ⟨rfl, by rwa [List.take_of_length_le h] at hf⟩
theorem IsIdx_any {α : Type} {p : α → Bool} {l : List α} {i : Int} (h : IsIdx p l i) : decide (i ≥ 0) = l.any p := by
  rcases h with ⟨rfl, h⟩ | ⟨pre, x, post, rfl, rfl, hx, _⟩
  · have : l.any p = false := List.any_eq_false.2 (fun x hx => by simp [h x hx])
    rw [this]
    rfl
  · have : (pre ++ x :: post).any p = true := List.any_eq_true.2 ⟨x, by simp, hx⟩
    rw [this]
    exact decide_eq_true (by omega)
theorem boxed_cell (w : World) (u : Value) (t : TypeId) : (w.alloc (.cells #[u] t)).cell? ⟨w.heap.size, 0, none⟩ = some u := by
  have h := blk_new w (.cells #[u] t)
  simp only [World.cell?]
  rw [h]
  rfl
theorem boxed_size (w : World) (o : Obj) : (w.alloc o).heap.size = w.heap.size + 1 := by simp
end Go.Proofs.Ytdnidldinafakaa.Pr
