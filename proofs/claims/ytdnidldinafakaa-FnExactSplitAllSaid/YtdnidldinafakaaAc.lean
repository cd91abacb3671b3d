/- Rising lists, numbers put to their places, alike neighbours once: plain words. No condition. -/
import Derived.Test.YtdnidldinafakaaMx3
namespace Go.Proofs.Ytdnidldinafakaa.Ax
open Go.Proofs.Ytdnidldinafakaa.Pl
set_option linter.unusedVariables false
set_option linter.unusedSimpArgs false
theorem rising_uniq : ∀ {a b : List Int}, a.Pairwise (· < ·) → b.Pairwise (· < ·) → (∀ x, x ∈ a ↔ x ∈ b) → a = b
  | [], [], _, _, _ => rfl
  | [], y :: b, _, _, h => absurd ((h y).2 (by simp)) (by simp)
  | x :: a, [], _, _, h => absurd ((h x).1 (by simp)) (by simp)
  | x :: a, y :: b, ha, hb, h => by
    obtain ⟨ha1, ha2⟩ := List.pairwise_cons.1 ha
    obtain ⟨hb1, hb2⟩ := List.pairwise_cons.1 hb
    have hxy : x = y := by
      have h1 := (h x).1 (by simp)
      have h2 := (h y).2 (by simp)
      rcases List.mem_cons.1 h1 with h1 | h1
      · exact h1
      · rcases List.mem_cons.1 h2 with h2 | h2
        · exact h2.symm
        · have := hb1 x h1
          have := ha1 y h2
          omega
    subst hxy
    rw [rising_uniq ha2 hb2 (fun z => ?_)]
    constructor
    · intro hz
      rcases List.mem_cons.1 ((h z).1 (by simp [hz])) with e | e
      · have := ha1 z hz; omega
      · exact e
    · intro hz
      rcases List.mem_cons.1 ((h z).2 (by simp [hz])) with e | e
      · have := hb1 z hz; omega
      · exact e
def ins : List Int → Int → List Int
  | [], n => [n]
  | x :: xs, n => if x < n then x :: ins xs n else if x = n then x :: xs else n :: x :: xs
theorem mem_ins (n z : Int) : ∀ l : List Int, z ∈ ins l n ↔ z = n ∨ z ∈ l
  | [] => by simp [ins]
  | x :: xs => by
    unfold ins
    split
    · rw [List.mem_cons, mem_ins n z xs, List.mem_cons]
      constructor <;> (rintro (h | h | h) <;> simp [h])
    · split
      · rename_i h2
        subst h2
        simp
      · simp
theorem ins_rising (n : Int) : ∀ {l : List Int}, l.Pairwise (· < ·) → (ins l n).Pairwise (· < ·)
  | [], _ => by simp [ins]
  | x :: xs, h => by
    obtain ⟨h1, h2⟩ := List.pairwise_cons.1 h
    unfold ins
    split
    · refine List.pairwise_cons.2 ⟨fun z hz => ?_, ins_rising n h2⟩
      rcases (mem_ins n z xs).1 hz with e | e
      · omega
      · exact h1 z e
    · split
      · exact h
      · refine List.pairwise_cons.2 ⟨fun z hz => ?_, h⟩
        rcases List.mem_cons.1 hz with e | e
        · omega
        · have := h1 z e; omega
def puts (l ms : List Int) : List Int := ms.foldl ins l
theorem mem_puts (z : Int) : ∀ (ms l : List Int), z ∈ puts l ms ↔ z ∈ l ∨ z ∈ ms
  | [], l => by simp [puts]
  | m :: ms, l => by
    have := mem_puts z ms (ins l m)
    simp only [puts, List.foldl_cons] at this ⊢
    rw [this, mem_ins, List.mem_cons]
    constructor
    · rintro ((h | h) | h) <;> simp [h]
    · rintro (h | h | h) <;> simp [h]
theorem puts_rising : ∀ (ms : List Int) {l : List Int}, l.Pairwise (· < ·) → (puts l ms).Pairwise (· < ·)
  | [], _, h => h
  | m :: ms, l, h => puts_rising ms (ins_rising m h)
def cmpct : List Int → List Int
  | [] => []
  | [x] => [x]
  | x :: y :: l => if x = y then cmpct (y :: l) else x :: cmpct (y :: l)
theorem mem_cmpct (z : Int) : ∀ l : List Int, z ∈ cmpct l ↔ z ∈ l
  | [] => by simp [cmpct]
  | [x] => by simp [cmpct]
  | x :: y :: l => by
    unfold cmpct
    split
    · rename_i h
      rw [mem_cmpct z (y :: l), h]
      simp
    · rw [List.mem_cons, mem_cmpct z (y :: l), List.mem_cons (a := z) (b := x)]
theorem cmpct_rising : ∀ {l : List Int}, l.Pairwise (· ≤ ·) → (cmpct l).Pairwise (· < ·)
  | [], _ => by simp [cmpct]
  | [x], _ => by simp [cmpct]
  | x :: y :: l, h => by
    obtain ⟨h1, h2⟩ := List.pairwise_cons.1 h
    unfold cmpct
    split
    · exact cmpct_rising h2
    · rename_i hne
      refine List.pairwise_cons.2 ⟨fun z hz => ?_, cmpct_rising h2⟩
      have hz2 := (mem_cmpct z _).1 hz
      have hxy := h1 y (by simp)
      rcases List.mem_cons.1 hz2 with e | e
      · omega
      · have := (List.pairwise_cons.1 h2).1 z e
        omega
def tog (a b : List Int) : List Int := cmpct ((a ++ b).mergeSort fun x y => decide (x ≤ y))
theorem sorted_le (l : List Int) : (l.mergeSort fun x y => decide (x ≤ y)).Pairwise (· ≤ ·) := by
  have h := List.pairwise_mergeSort (le := fun x y : Int => decide (x ≤ y)) (fun a b c h1 h2 => by simp at *; omega) (fun a b => by simp; omega) l
  exact h.imp (fun h => by simpa using h)
theorem mem_tog (a b : List Int) (z : Int) : z ∈ tog a b ↔ z ∈ a ∨ z ∈ b := by
  unfold tog
  rw [mem_cmpct, List.mem_mergeSort, List.mem_append]
theorem tog_rising (a b : List Int) : (tog a b).Pairwise (· < ·) := cmpct_rising (sorted_le _)
theorem tog_puts {a : List Int} (h : a.Pairwise (· < ·)) (b : List Int) : tog a b = puts a b :=
  rising_uniq (tog_rising a b) (puts_rising b h) (fun z => by rw [mem_tog, mem_puts])
theorem rising_len {lo hi : Int} : ∀ {l : List Int}, l.Pairwise (· < ·) → (∀ x ∈ l, lo ≤ x ∧ x < hi) → (l.length : Int) ≤ max 0 (hi - lo)
  | [], _, _ => by simp; omega
  | x :: xs, h, hb => by
    obtain ⟨h1, h2⟩ := List.pairwise_cons.1 h
    have := rising_len (lo := x + 1) (hi := hi) h2 (fun z hz => ⟨by have := h1 z hz; omega, (hb z (by simp [hz])).2⟩)
    have := hb x (by simp)
    simp only [List.length_cons]
    omega
def cptN {α : Type} (eq : α → α → Bool) (z : α) (l : List α) : Nat → List α
  | 0 => []
  | 1 => l.take 1
  | j + 2 => cptN eq z l (j + 1) ++ (if eq (l.getD (j + 1) z) (l.getD j z) then [] else [l.getD (j + 1) z])
section
variable {α : Type} {eq : α → α → Bool} {z : α} {l xs : List α} {i j k : Nat}
theorem cptN_step (hj : 1 ≤ j) : cptN eq z l (j + 1) = cptN eq z l j ++ (if eq (l.getD j z) (l.getD (j - 1) z) then [] else [l.getD j z]) := by
  obtain ⟨j, rfl⟩ : ∃ m, j = m + 1 := ⟨j - 1, by omega⟩
  rfl
theorem getD_take (h : k < l.length) : l.take (k + 1) = l.take k ++ [l.getD k z] := by
  rw [List.take_add_one, List.getElem?_eq_getElem h, List.getD_eq_getElem?_getD, List.getElem?_eq_getElem h]
  rfl
theorem cptN_sorts {lt : α → α → Prop} (htr : ∀ a b c, lt a b → lt b c → lt a c) (heq : ∀ a b, eq a b = true → a = b) (hs : ∀ m, 1 ≤ m → m < l.length → eq (l.getD m z) (l.getD (m - 1) z) = false → lt (l.getD (m - 1) z) (l.getD m z)) :
    ∀ j, 1 ≤ j → j ≤ l.length → (cptN eq z l j).Pairwise lt ∧ (∀ x, x ∈ cptN eq z l j ↔ x ∈ l.take j) ∧ ∃ p, cptN eq z l j = p ++ [l.getD (j - 1) z] := by
  intro j
  induction j with
  | zero => intro h; omega
  | succ j ih =>
    intro _ hj
    rcases Nat.eq_zero_or_pos j with h0 | h0
    · subst h0
      have e := getD_take (l := l) (z := z) (k := 0) (by omega)
      simp only [Nat.zero_add, List.take_zero, List.nil_append] at e
      have e2 : cptN eq z l 1 = [l.getD 0 z] := e
      refine ⟨?_, fun x => ?_, [], ?_⟩
      · show (cptN eq z l 1).Pairwise lt
        rw [e2]; simp
      · show x ∈ l.take 1 ↔ x ∈ l.take 1
        exact Iff.rfl
      · show cptN eq z l 1 = _
        rw [e2]; rfl
    · obtain ⟨h1, h2, p, h3⟩ := ih h0 (by omega)
      rw [cptN_step h0, getD_take (z := z) (show j < l.length by omega)]
      cases he : eq (l.getD j z) (l.getD (j - 1) z) with
      | true =>
        have := heq _ _ he
        refine ⟨by simpa using h1, fun x => ?_, p, ?_⟩
        · simp only [if_true, List.append_nil, List.mem_append, List.mem_singleton, h2]
          constructor
          · exact Or.inl
          · rintro (h | h)
            · exact h
            · rw [h, this]
              exact (h2 _).1 (by rw [h3]; simp)
        · simp only [if_true, List.append_nil, h3, Nat.add_sub_cancel, this]
      | false =>
        have hlt := hs j h0 (by omega) he
        refine ⟨?_, fun x => ?_, cptN eq z l j, by simp⟩
        · simp only [Bool.false_eq_true, if_false]
          refine List.pairwise_append.2 ⟨h1, by simp, fun a ha b hb => ?_⟩
          obtain rfl := List.mem_singleton.1 hb
          rw [h3] at ha h1
          rcases List.mem_append.1 ha with ha | ha
          · exact htr _ _ _ ((List.pairwise_append.1 h1).2.2 a ha _ (by simp)) hlt
          · obtain rfl := List.mem_singleton.1 ha
            exact hlt
        · simp only [Bool.false_eq_true, if_false, List.mem_append, h2]
end
end Go.Proofs.Ytdnidldinafakaa.Ax
