/- Several small texts together: Mx1, Ac. No condition but those they name. -/
import Derived.Test.YtmlbihhaikknnaaPr2
import Derived.Test.YtmlbihhaikknnaaMx3
import Derived.Test.YtmlbihhaikknnaaShelf
import Derived.Test.YtmlbihhaikknnaaMx6
import Derived.Test.YtmlbihhaikknnaaWWords
import Derived.Test.YtmlbihhaikknnaaWMore
/- Several small texts together: ECmpVal, Pl. No condition but those they name. -/
/- impl.distinct's comparer over two values: what it answers, and that it lays two boxes and nothing else. No condition. -/
namespace Go.Proofs.Ytmlbihhaikknnaa.Sp
open Go.RowKit Go.Sort Go.Lib Go.Proofs Go.Proofs.Ytmlbihhaikknnaa Go.Proofs.Ytmlbihhaikknnaa.Pr Go.Proofs.YtmlbihhaikknnaaW.PrintWords Go.Proofs.YtmlbihhaikknnaaW.PrintLast Go.Proofs.YtmlbihhaikknnaaW.PrintMore
set_option linter.unusedVariables false
set_option linter.unusedSimpArgs false
theorem push2 (h : Array Obj) (o1 o2 : Obj) : (h.push o1).push o2 = h ++ #[o1, o2] := by
  apply Array.ext'
  simp
theorem two_boxes {w w3 : World} {o1 o2 : Obj} {q : Nat} (h : ((w.alloc o1).alloc o2).drewN q = w3) : ∃ q os', w3 = grow (w.drewN q) os' := by
  refine ⟨q, #[o1, o2], ?_⟩
  rw [← h]
  have e : ((w.alloc o1).alloc o2).heap = w.heap ++ #[o1, o2] := push2 w.heap o1 o2
  unfold grow World.drewN
  rw [← e]
  rfl
set_option maxHeartbeats 1000000 in
set_option maxRecDepth 100000 in
theorem cmpV (a0 : Bool) (a1 : Int) (b0 : Bool) (b1 : Int) (r : Int) (w : World) (h : impl_distinct_1.f a0 a1 b0 b1 = some r) :
    Calls Try.prog 45 #[.agg #[.bool a0, .int .i64 a1], .agg #[.bool b0, .int .i64 b1]] w fun e w' => e = .returned (.int .i64 r) ∧ ∃ q os', w' = grow (w.drewN q) os' := by
  have x0 : ((w.alloc (.cells #[.bool a0, .int .i64 a1] 43)).alloc (.cells #[.bool b0, .int .i64 b1] 43)).cell? ⟨w.heap.size, 0, none⟩ = some (.bool a0) := Bx.box_alloc _ (Bx.box_new _ _ _ _ _ rfl)
  have x1 : ((w.alloc (.cells #[.bool a0, .int .i64 a1] 43)).alloc (.cells #[.bool b0, .int .i64 b1] 43)).cell? ⟨w.heap.size, 1, none⟩ = some (.int .i64 a1) := Bx.box_alloc _ (Bx.box_new _ _ _ _ _ rfl)
  have y0 : ((w.alloc (.cells #[.bool a0, .int .i64 a1] 43)).alloc (.cells #[.bool b0, .int .i64 b1] 43)).cell? ⟨w.heap.size + 1, 0, none⟩ = some (.bool b0) := Bx.box_new' _ _ _ _ _ _ (by simp) rfl
  have y1 : ((w.alloc (.cells #[.bool a0, .int .i64 a1] 43)).alloc (.cells #[.bool b0, .int .i64 b1] 43)).cell? ⟨w.heap.size + 1, 1, none⟩ = some (.int .i64 b1) := Bx.box_new' _ _ _ _ _ _ (by simp) rfl
  have hu := Try.underlying43
  unfold impl_distinct_1.f at h
  by_cases c : (a0 == b0) = true
  · rw [if_pos c] at h
    obtain ⟨t, ht, h⟩ := Option.bind_eq_some_iff.mp h
    obtain rfl := Option.some.inj h
    go_enter Try.func45, Try.ntmps45
    go_wp2_with (first | (go_at_call 46; refine (cmp_Compare_int.calls a1 b1 t _ ht).mono ?_; rintro e w3 ⟨rfl, q, hq⟩))
    go_ret
    exact ⟨rfl, two_boxes rfl⟩
  · have cf : (a0 == b0) = false := by simpa using c
    rw [if_neg c] at h
    cases a0
    · simp only [Bool.false_eq_true, if_false] at h
      obtain rfl := Option.some.inj h
      go_enter Try.func45, Try.ntmps45
      go_wp2
      go_ret
      exact ⟨rfl, two_boxes (q := 0) rfl⟩
    · simp only [if_true] at h
      obtain rfl := Option.some.inj h
      go_enter Try.func45, Try.ntmps45
      go_wp2
      go_ret
      exact ⟨rfl, two_boxes (q := 0) rfl⟩
end Go.Proofs.Ytmlbihhaikknnaa.Sp

/- Small plain words for the pure side: lists read by an index, rounds of loops. No condition. -/
namespace Go.Proofs.Ytmlbihhaikknnaa.Pl
open Go.RowKit Go.Proofs.YtmlbihhaikknnaaW.PrintWords Go.Proofs.YtmlbihhaikknnaaW.PrintLast Go.Proofs.YtmlbihhaikknnaaW.PrintMore
set_option linter.unusedVariables false
set_option linter.unusedSimpArgs false
theorem drop_cons {α : Type} {xs ys : List α} {j : Nat} {y : α} (h : xs.drop j = y :: ys) : j < xs.length ∧ xs[j]? = some y ∧ xs.drop (j + 1) = ys := by
  have h1 : j < xs.length := by
    rcases Nat.lt_or_ge j xs.length with h1 | h1
    · exact h1
    · rw [List.drop_of_length_le h1] at h
      cases h
  refine ⟨h1, ?_, ?_⟩
  · have := List.getElem?_drop (xs := xs) (i := j) (j := 0)
    rw [h] at this
    simpa using this.symm
  · have := List.drop_drop (l := xs) (i := 1) (j := j)
    rw [h] at this
    simpa using this.symm
theorem drop_nil {α : Type} {xs : List α} {j : Nat} (h : xs.drop j = []) : xs.length ≤ j := by
  simpa using h
theorem wrap_succ {j : Nat} (h : j < 9223372036854775807) : wrap64 ((j : Int) + 1) = ((j + 1 : Nat) : Int) := by
  unfold wrap64
  omega
theorem wrap_in {x : Int} (h1 : -9223372036854775808 ≤ x) (h2 : x < 9223372036854775808) : wrap64 x = x := by
  unfold wrap64
  omega
theorem ev_succ {α : Type} {g : Nat → Option α} {r : α} (h : Ev (fun k => g (k + 1)) r) : Ev g r := by
  obtain ⟨K, h⟩ := h
  refine ⟨K + 1, fun n hn => ?_⟩
  obtain ⟨m, rfl⟩ : ∃ m, n = m + 1 := ⟨n - 1, by omega⟩
  exact h m (by omega)
theorem ev_now {α : Type} {r s : α} (h : r = s) : Ev (fun _ => some r) s := h ▸ Ev.now r
theorem set_end {α : Type} {xs ys out : List α} {j : Nat} {y : α} (h : xs.drop j = y :: ys) (ho : out.length = xs.length) (hp : out.take j = xs.take j) : (out.set j y).length = xs.length ∧ (out.set j y).take (j + 1) = xs.take (j + 1) := by
  obtain ⟨h1, h2, _⟩ := drop_cons h
  refine ⟨by rw [List.length_set, ho], ?_⟩
  rw [List.take_add_one, List.take_add_one, h2, List.getElem?_set_self (by omega)]
  rw [List.take_set_of_le (Nat.le_refl _), hp]
end Go.Proofs.Ytmlbihhaikknnaa.Pl

/- Rising lists, numbers put to their places, alike neighbours once: plain words. No condition. -/
namespace Go.Proofs.Ytmlbihhaikknnaa.Ax
open Go.Proofs.Ytmlbihhaikknnaa.Pl
set_option linter.unusedVariables false
set_option linter.unusedSimpArgs false
def cptN {α : Type} (eq : α → α → Bool) (z : α) (l : List α) : Nat → List α
  | 0 => []
  | 1 => l.take 1
  | j + 2 => cptN eq z l (j + 1) ++ (if eq (l.getD (j + 1) z) (l.getD j z) then [] else [l.getD (j + 1) z])
section
variable {α : Type} {eq : α → α → Bool} {z : α} {l xs : List α} {i j k : Nat}
theorem cptN_step (hj : 1 ≤ j) : cptN eq z l (j + 1) = cptN eq z l j ++ (if eq (l.getD j z) (l.getD (j - 1) z) then [] else [l.getD j z]) := by
  obtain ⟨j, rfl⟩ : ∃ m, j = m + 1 := ⟨j - 1, by omega⟩
  rfl
def Fresh (eq : α → α → Bool) (z : α) (l : List α) (k : Nat) : Prop := cptN eq z l k = l.take k
theorem Fresh_one : Fresh eq z l 1 := rfl
theorem getD_take (h : k < l.length) : l.take (k + 1) = l.take k ++ [l.getD k z] := by
  rw [List.take_add_one, List.getElem?_eq_getElem h, List.getD_eq_getElem?_getD, List.getElem?_eq_getElem h]
  rfl
theorem Fresh_step (hk : 1 ≤ k) (h : Fresh eq z l k) (hl : k < l.length) (hne : eq (l.getD k z) (l.getD (k - 1) z) = false) : Fresh eq z l (k + 1) := by
  unfold Fresh at *
  rw [cptN_step hk, h, hne, getD_take (z := z) hl]
  simp
def CptInv (eq : α → α → Bool) (z : α) (l : List α) (i j : Nat) (xs : List α) : Prop := 1 ≤ i ∧ i < j ∧ j ≤ l.length ∧ xs.length = l.length ∧ xs.take i = cptN eq z l j ∧ xs.drop i = l.drop i
theorem CptInv_start (hk : 1 ≤ k) (h : Fresh eq z l k) (hl : k < l.length) (he : eq (l.getD k z) (l.getD (k - 1) z) = true) : CptInv eq z l k (k + 1) l := by
  refine ⟨hk, by omega, by omega, rfl, ?_, rfl⟩
  rw [cptN_step hk, h, he]
  simp
theorem CptInv_at (h : CptInv eq z l i j xs) {m : Nat} (hm : i ≤ m) : xs.getD m z = l.getD m z := by
  have e1 := List.getElem?_drop (xs := xs) (i := i) (j := m - i)
  have e2 := List.getElem?_drop (xs := l) (i := i) (j := m - i)
  rw [h.2.2.2.2.2, e2, show i + (m - i) = m by omega] at e1
  simp [List.getD_eq_getElem?_getD, e1]
theorem CptInv_skip (h : CptInv eq z l i j xs) (hj : j < l.length) (he : eq (l.getD j z) (l.getD (j - 1) z) = true) : CptInv eq z l i (j + 1) xs := by
  obtain ⟨h1, h2, h3, h4, h5, h6⟩ := h
  refine ⟨h1, by omega, hj, h4, ?_, h6⟩
  rw [cptN_step (by omega), he, h5]
  simp
theorem CptInv_keep (h : CptInv eq z l i j xs) (hj : j < l.length) (he : eq (l.getD j z) (l.getD (j - 1) z) = false) : CptInv eq z l (i + 1) (j + 1) (xs.set i (l.getD j z)) := by
  obtain ⟨h1, h2, h3, h4, h5, h6⟩ := h
  refine ⟨by omega, by omega, hj, by rw [List.length_set, h4], ?_, ?_⟩
  · rw [cptN_step (by omega), he, ← h5, List.take_add_one, List.getElem?_set_self (by omega), List.take_set_of_le (Nat.le_refl _)]
    rfl
  · rw [List.drop_set_of_lt (by omega), ← List.drop_drop, ← List.drop_drop, h6]
theorem CptInv_end (h : CptInv eq z l i j xs) (hj : l.length ≤ j) : xs.take i = cptN eq z l l.length := by
  have : j = l.length := by have := h.2.2.1; omega
  rw [h.2.2.2.2.1, this]
theorem Fresh_end (h : Fresh eq z l k) (hk : l.length ≤ k) (hk2 : k ≤ l.length) : cptN eq z l l.length = l := by
  have : k = l.length := by omega
  subst this
  rw [h, List.take_length]
theorem cptN_small (h : l.length < 2) : cptN eq z l l.length = l := by
  match l, h with
  | [], _ => rfl
  | [x], _ => rfl
theorem cptN_sorts {lt : α → α → Prop} (htr : ∀ a b c, lt a b → lt b c → lt a c) (heq : ∀ a b, eq a b = true → a = b) (hs : ∀ m, 1 ≤ m → m < l.length → eq (l.getD m z) (l.getD (m - 1) z) = false → lt (l.getD (m - 1) z) (l.getD m z)) :
    ∀ j, 1 ≤ j → j ≤ l.length → (cptN eq z l j).Pairwise lt ∧ (∀ x, x ∈ cptN eq z l j ↔ x ∈ l.take j) ∧ ∃ p, cptN eq z l j = p ++ [l.getD (j - 1) z] := by
  intro j
  induction j with
  | zero => intro h; omega
  | succ j ih =>
    intro _ hj
    rcases Nat.eq_zero_or_pos j with h0 | h0
    · subst h0
      have e := getD_take (l := l) (z := z) (k := 0) (by omega)
      simp only [Nat.zero_add, List.take_zero, List.nil_append] at e
      have e2 : cptN eq z l 1 = [l.getD 0 z] := e
      refine ⟨?_, fun x => ?_, [], ?_⟩
      · show (cptN eq z l 1).Pairwise lt
        rw [e2]; simp
      · show x ∈ l.take 1 ↔ x ∈ l.take 1
        exact Iff.rfl
      · show cptN eq z l 1 = _
        rw [e2]; rfl
    · obtain ⟨h1, h2, p, h3⟩ := ih h0 (by omega)
      rw [cptN_step h0, getD_take (z := z) (show j < l.length by omega)]
      cases he : eq (l.getD j z) (l.getD (j - 1) z) with
      | true =>
        have := heq _ _ he
        refine ⟨by simpa using h1, fun x => ?_, p, ?_⟩
        · simp only [if_true, List.append_nil, List.mem_append, List.mem_singleton, h2]
          constructor
          · exact Or.inl
          · rintro (h | h)
            · exact h
            · rw [h, this]
              exact (h2 _).1 (by rw [h3]; simp)
        · simp only [if_true, List.append_nil, h3, Nat.add_sub_cancel, this]
      | false =>
        have hlt := hs j h0 (by omega) he
        refine ⟨?_, fun x => ?_, cptN eq z l j, by simp⟩
        · simp only [Bool.false_eq_true, if_false]
          refine List.pairwise_append.2 ⟨h1, by simp, fun a ha b hb => ?_⟩
          obtain rfl := List.mem_singleton.1 hb
          rw [h3] at ha h1
          rcases List.mem_append.1 ha with ha | ha
          · exact htr _ _ _ ((List.pairwise_append.1 h1).2.2 a ha _ (by simp)) hlt
          · obtain rfl := List.mem_singleton.1 ha
            exact hlt
        · simp only [Bool.false_eq_true, if_false, List.mem_append, h2]
end
end Go.Proofs.Ytmlbihhaikknnaa.Ax
