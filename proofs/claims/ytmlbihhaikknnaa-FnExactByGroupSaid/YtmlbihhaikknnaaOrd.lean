/- Elements of an order put to their places, once; a sorted row made tight comes to the same. No condition. -/
import Derived.Test.YtmlbihhaikknnaaMx5
namespace Go.Proofs.Ytmlbihhaikknnaa.Ax
open Go.Proofs.Ytmlbihhaikknnaa.Pl
set_option linter.unusedVariables false
set_option linter.unusedSimpArgs false
structure IsOrd {α : Type} (lt : α → α → Bool) : Prop where
  irr : ∀ a, lt a a = false
  tr : ∀ a b c, lt a b = true → lt b c = true → lt a c = true
  tot : ∀ a b, lt a b = false → a ≠ b → lt b a = true
section
variable {α : Type} {lt : α → α → Bool}
theorem IsOrd.asym (o : IsOrd lt) {a b : α} (h : lt a b = true) : lt b a = false := by
  cases e : lt b a with
  | false => rfl
  | true =>
    have := o.tr a b a h e
    rw [o.irr] at this
    cases this
theorem ord_uniq (o : IsOrd lt) : ∀ {a b : List α}, a.Pairwise (fun x y => lt x y = true) → b.Pairwise (fun x y => lt x y = true) → (∀ x, x ∈ a ↔ x ∈ b) → a = b
  | [], [], _, _, _ => rfl
  | [], y :: b, _, _, h => absurd ((h y).2 (by simp)) (by simp)
  | x :: a, [], _, _, h => absurd ((h x).1 (by simp)) (by simp)
  | x :: a, y :: b, ha, hb, h => by
    obtain ⟨ha1, ha2⟩ := List.pairwise_cons.1 ha
    obtain ⟨hb1, hb2⟩ := List.pairwise_cons.1 hb
    have hxy : x = y := by
      have h1 := (h x).1 (by simp)
      have h2 := (h y).2 (by simp)
      rcases List.mem_cons.1 h1 with h1 | h1
      · exact h1
      · rcases List.mem_cons.1 h2 with h2 | h2
        · exact h2.symm
        · have e1 := hb1 x h1
          have e2 := o.asym (ha1 y h2)
          rw [e1] at e2
          cases e2
    subst hxy
    rw [ord_uniq o ha2 hb2 (fun z => ?_)]
    constructor
    · intro hz
      rcases List.mem_cons.1 ((h z).1 (by simp [hz])) with e | e
      · have e1 := ha1 z hz
        rw [e, o.irr] at e1
        cases e1
      · exact e
    · intro hz
      rcases List.mem_cons.1 ((h z).2 (by simp [hz])) with e | e
      · have e1 := hb1 z hz
        rw [e, o.irr] at e1
        cases e1
      · exact e
variable [DecidableEq α]
def insB (lt : α → α → Bool) : List α → α → List α
  | [], n => [n]
  | x :: xs, n => if lt x n = true then x :: insB lt xs n else if x = n then x :: xs else n :: x :: xs
theorem mem_insB (n z : α) : ∀ l : List α, z ∈ insB lt l n ↔ z = n ∨ z ∈ l
  | [] => by simp [insB]
  | x :: xs => by
    unfold insB
    split
    · rw [List.mem_cons, mem_insB n z xs, List.mem_cons]
      constructor <;> (rintro (h | h | h) <;> simp [h])
    · split
      · rename_i h2
        subst h2
        simp
      · simp
theorem insB_rising (o : IsOrd lt) (n : α) : ∀ {l : List α}, l.Pairwise (fun x y => lt x y = true) → (insB lt l n).Pairwise (fun x y => lt x y = true)
  | [], _ => by simp [insB]
  | x :: xs, h => by
    obtain ⟨h1, h2⟩ := List.pairwise_cons.1 h
    unfold insB
    split
    · rename_i h3
      refine List.pairwise_cons.2 ⟨fun z hz => ?_, insB_rising o n h2⟩
      rcases (mem_insB n z xs).1 hz with e | e
      · rw [e]; exact h3
      · exact h1 z e
    · rename_i h3
      split
      · exact h
      · rename_i h4
        have h5 : lt n x = true := o.tot x n (by simpa using h3) h4
        refine List.pairwise_cons.2 ⟨fun z hz => ?_, h⟩
        rcases List.mem_cons.1 hz with e | e
        · rw [e]; exact h5
        · exact o.tr _ _ _ h5 (h1 z e)
theorem insB_split (n : α) : ∀ (pre ys : List α), (∀ x ∈ pre, lt x n = true) → insB lt (pre ++ ys) n = pre ++ insB lt ys n
  | [], _, _ => rfl
  | x :: pre, ys, h => by
    rw [List.cons_append, insB, if_pos (h x (by simp)), insB_split n pre ys (fun z hz => h z (by simp [hz]))]
    rfl
theorem insB_length (n : α) : ∀ l : List α, (insB lt l n).length ≤ l.length + 1
  | [] => by simp [insB]
  | x :: xs => by
    have := insB_length n xs
    unfold insB
    split
    · simp only [List.length_cons]; omega
    · split <;> simp
def putsB (lt : α → α → Bool) (l ms : List α) : List α := ms.foldl (insB lt) l
theorem mem_putsB (z : α) : ∀ (ms l : List α), z ∈ putsB lt l ms ↔ z ∈ l ∨ z ∈ ms
  | [], l => by simp [putsB]
  | m :: ms, l => by
    have := mem_putsB z ms (insB lt l m)
    simp only [putsB, List.foldl_cons] at this ⊢
    rw [this, mem_insB, List.mem_cons]
    constructor
    · rintro ((h | h) | h) <;> simp [h]
    · rintro (h | h | h) <;> simp [h]
theorem putsB_rising (o : IsOrd lt) : ∀ (ms : List α) {l : List α}, l.Pairwise (fun x y => lt x y = true) → (putsB lt l ms).Pairwise (fun x y => lt x y = true)
  | [], _, h => h
  | m :: ms, l, h => putsB_rising o ms (insB_rising o m h)
theorem putsB_length : ∀ (ms l : List α), (putsB lt l ms).length ≤ l.length + ms.length
  | [], l => by simp [putsB]
  | m :: ms, l => by
    have h1 := putsB_length ms (insB lt l m)
    have h2 := insB_length (lt := lt) m l
    have h3 : putsB lt l (m :: ms) = putsB lt (insB lt l m) ms := rfl
    rw [h3, List.length_cons]
    omega
def risen (lt : α → α → Bool) (l : List α) : List α := putsB lt [] l
theorem risen_rising (o : IsOrd lt) (l : List α) : (risen lt l).Pairwise (fun x y => lt x y = true) := putsB_rising o l List.Pairwise.nil
theorem mem_risen (z : α) (l : List α) : z ∈ risen lt l ↔ z ∈ l := by
  unfold risen
  rw [mem_putsB]
  simp
theorem risen_length (l : List α) : (risen lt l).length ≤ l.length := by
  have := putsB_length (lt := lt) l []
  simpa [risen] using this
theorem risen_of_sorted (o : IsOrd lt) {z : α} {l l' : List α} (hp : l'.Perm l) (hs : l'.Pairwise (fun x y => lt y x = false)) (eq : α → α → Bool) (heq : ∀ a b, eq a b = decide (a = b)) : cptN eq z l' l'.length = risen lt l := by
  rcases Nat.eq_zero_or_pos l'.length with h0 | h0
  · have e1 := List.eq_nil_of_length_eq_zero h0
    subst e1
    have e2 : l = [] := List.eq_nil_of_length_eq_zero (by have := hp.length_eq; simpa using this.symm)
    subst e2
    rfl
  · have h := cptN_sorts (eq := eq) (z := z) (l := l') (lt := fun x y => lt x y = true) o.tr (fun a b h => by rw [heq] at h; exact of_decide_eq_true h) (fun m h1 h2 he => by
      rw [heq] at he
      have hne := of_decide_eq_false he
      have hm := List.pairwise_iff_getElem.1 hs (m - 1) m (by omega) h2 (by omega)
      simp only [List.getD_eq_getElem?_getD, List.getElem?_eq_getElem h2, List.getElem?_eq_getElem (show m - 1 < l'.length by omega), Option.getD_some] at hne ⊢
      exact o.tot _ _ hm hne) l'.length h0 (Nat.le_refl _)
    refine ord_uniq o h.1 (risen_rising o l) (fun x => ?_)
    rw [h.2.1, List.take_length, mem_risen]
    exact hp.mem_iff
end
end Go.Proofs.Ytmlbihhaikknnaa.Ax
