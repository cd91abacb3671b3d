/- Rising lists, numbers put to their places, alike neighbours once: plain words. No condition. -/
import Derived.Test.YtmbfgfhncbmgpaaPl
namespace Go.Proofs.Ytmbfgfhncbmgpaa.Ax
open Go.Proofs.Ytmbfgfhncbmgpaa.Pl
set_option linter.unusedVariables false
set_option linter.unusedSimpArgs false
theorem rising_uniq : ∀ {a b : List Int}, a.Pairwise (· < ·) → b.Pairwise (· < ·) → (∀ x, x ∈ a ↔ x ∈ b) → a = b
  | [], [], _, _, _ => rfl
  | [], y :: b, _, _, h => absurd ((h y).2 (by simp)) (by simp)
  | x :: a, [], _, _, h => absurd ((h x).1 (by simp)) (by simp)
  | x :: a, y :: b, ha, hb, h => by
    obtain ⟨ha1, ha2⟩ := List.pairwise_cons.1 ha
    obtain ⟨hb1, hb2⟩ := List.pairwise_cons.1 hb
    have hxy : x = y := by
      have h1 := (h x).1 (by simp)
      have h2 := (h y).2 (by simp)
      rcases List.mem_cons.1 h1 with h1 | h1
      · exact h1
      · rcases List.mem_cons.1 h2 with h2 | h2
        · exact h2.symm
        · have := hb1 x h1
          have := ha1 y h2
          omega
    subst hxy
    rw [rising_uniq ha2 hb2 (fun z => ?_)]
    constructor
    · intro hz
      rcases List.mem_cons.1 ((h z).1 (by simp [hz])) with e | e
      · have := ha1 z hz; omega
      · exact e
    · intro hz
      rcases List.mem_cons.1 ((h z).2 (by simp [hz])) with e | e
      · have := hb1 z hz; omega
      · exact e
/-- A number put to its place, once. -/
def ins : List Int → Int → List Int
  | [], n => [n]
  | x :: xs, n => if x < n then x :: ins xs n else if x = n then x :: xs else n :: x :: xs
theorem mem_ins (n z : Int) : ∀ l : List Int, z ∈ ins l n ↔ z = n ∨ z ∈ l
  | [] => by simp [ins]
  | x :: xs => by
    unfold ins
    split
    · rw [List.mem_cons, mem_ins n z xs, List.mem_cons]
      constructor <;> (rintro (h | h | h) <;> simp [h])
    · split
      · rename_i h2
        subst h2
        simp
      · simp
theorem ins_rising (n : Int) : ∀ {l : List Int}, l.Pairwise (· < ·) → (ins l n).Pairwise (· < ·)
  | [], _ => by simp [ins]
  | x :: xs, h => by
    obtain ⟨h1, h2⟩ := List.pairwise_cons.1 h
    unfold ins
    split
    · refine List.pairwise_cons.2 ⟨fun z hz => ?_, ins_rising n h2⟩
      rcases (mem_ins n z xs).1 hz with e | e
      · omega
      · exact h1 z e
    · split
      · exact h
      · refine List.pairwise_cons.2 ⟨fun z hz => ?_, h⟩
        rcases List.mem_cons.1 hz with e | e
        · omega
        · have := h1 z e; omega
def puts (l ms : List Int) : List Int := ms.foldl ins l
theorem mem_puts (z : Int) : ∀ (ms l : List Int), z ∈ puts l ms ↔ z ∈ l ∨ z ∈ ms
  | [], l => by simp [puts]
  | m :: ms, l => by
    have := mem_puts z ms (ins l m)
    simp only [puts, List.foldl_cons] at this ⊢
    rw [this, mem_ins, List.mem_cons]
    constructor
    · rintro ((h | h) | h) <;> simp [h]
    · rintro (h | h | h) <;> simp [h]
theorem puts_rising : ∀ (ms : List Int) {l : List Int}, l.Pairwise (· < ·) → (puts l ms).Pairwise (· < ·)
  | [], _, h => h
  | m :: ms, l, h => puts_rising ms (ins_rising m h)
/-- Alike neighbours once. -/
def cmpct : List Int → List Int
  | [] => []
  | [x] => [x]
  | x :: y :: l => if x = y then cmpct (y :: l) else x :: cmpct (y :: l)
theorem mem_cmpct (z : Int) : ∀ l : List Int, z ∈ cmpct l ↔ z ∈ l
  | [] => by simp [cmpct]
  | [x] => by simp [cmpct]
  | x :: y :: l => by
    unfold cmpct
    split
    · rename_i h
      rw [mem_cmpct z (y :: l), h]
      simp
    · rw [List.mem_cons, mem_cmpct z (y :: l), List.mem_cons (a := z) (b := x)]
theorem cmpct_rising : ∀ {l : List Int}, l.Pairwise (· ≤ ·) → (cmpct l).Pairwise (· < ·)
  | [], _ => by simp [cmpct]
  | [x], _ => by simp [cmpct]
  | x :: y :: l, h => by
    obtain ⟨h1, h2⟩ := List.pairwise_cons.1 h
    unfold cmpct
    split
    · exact cmpct_rising h2
    · rename_i hne
      refine List.pairwise_cons.2 ⟨fun z hz => ?_, cmpct_rising h2⟩
      have hz2 := (mem_cmpct z _).1 hz
      have hxy := h1 y (by simp)
      rcases List.mem_cons.1 hz2 with e | e
      · omega
      · have := (List.pairwise_cons.1 h2).1 z e
        omega
/-- All numbers of two lists, rising. -/
def tog (a b : List Int) : List Int := cmpct ((a ++ b).mergeSort fun x y => decide (x ≤ y))
theorem sorted_le (l : List Int) : (l.mergeSort fun x y => decide (x ≤ y)).Pairwise (· ≤ ·) := by
  have h := List.pairwise_mergeSort (le := fun x y : Int => decide (x ≤ y)) (fun a b c h1 h2 => by simp at *; omega) (fun a b => by simp; omega) l
  exact h.imp (fun h => by simpa using h)
theorem mem_tog (a b : List Int) (z : Int) : z ∈ tog a b ↔ z ∈ a ∨ z ∈ b := by
  unfold tog
  rw [mem_cmpct, List.mem_mergeSort, List.mem_append]
theorem tog_rising (a b : List Int) : (tog a b).Pairwise (· < ·) := cmpct_rising (sorted_le _)
theorem tog_puts {a : List Int} (h : a.Pairwise (· < ·)) (b : List Int) : tog a b = puts a b :=
  rising_uniq (tog_rising a b) (puts_rising b h) (fun z => by rw [mem_tog, mem_puts])
/-- Rising numbers between bounds are few. -/
theorem rising_len {lo hi : Int} : ∀ {l : List Int}, l.Pairwise (· < ·) → (∀ x ∈ l, lo ≤ x ∧ x < hi) → (l.length : Int) ≤ max 0 (hi - lo)
  | [], _, _ => by simp; omega
  | x :: xs, h, hb => by
    obtain ⟨h1, h2⟩ := List.pairwise_cons.1 h
    have := rising_len (lo := x + 1) (hi := hi) h2 (fun z hz => ⟨by have := h1 z hz; omega, (hb z (by simp [hz])).2⟩)
    have := hb x (by simp)
    simp only [List.length_cons]
    omega
end Go.Proofs.Ytmbfgfhncbmgpaa.Ax
