/- slices.Sort and slices.Compact at numbers, on a row of the call's own (out of the shelf's contracts). Condition: a length below 2^62. -/
import Derived.Test.YtdnidldinafakaaShelf
import Derived.Test.YtdnidldinafakaaWWords
import Derived.Test.YtdnidldinafakaaWKept
import Derived.Test.YtdnidldinafakaaWLast
import Derived.Test.YtdnidldinafakaaWMore
import Derived.Test.YtdnidldinafakaaAc
import Derived.Sort.OwnSortedInts
namespace Go.Proofs.Ytdnidldinafakaa.Pr
open Go.RowKit Go.Sort Go.Proofs Go.Proofs.YtdnidldinafakaaW.PrintWords Go.Proofs.YtdnidldinafakaaW.PrintLast Go.Proofs.YtdnidldinafakaaW.PrintMore
set_option linter.unusedVariables false
set_option linter.unusedSimpArgs false
theorem R_put {w : World} {base g n cap q : Nat} {e : Nat} {ok : Nat → Prop} {xs ts : List Int} (h : (Kd.int .i64).R e w base ok (.slice (some ⟨g, 0, none⟩) n cap) xs) (hl : ts.length = xs.length) (os : Array Obj) :
    (Kd.int .i64).R e (grow (putRow (Value.int .i64) (Sort.ahead w q) g 0 ts.toArray) os) base ok (.slice (some ⟨g, 0, none⟩) n cap) ts ∧ w.grownBy (grow (putRow (Value.int .i64) (Sort.ahead w q) g 0 ts.toArray) os) (some g) := by
  refine ⟨?_, grownBy_sortedI _⟩
  have hn := (Kd.R_reads' h).1
  have ho := Kd.own_of_R (enc := Value.int .i64) (h1 := fun _ => rfl) h
  rcases ho.2 with ⟨hv, _⟩ | ⟨g', cap', cur, hv, hb, hh, h1, h2, h3, h4⟩
  · cases hv
  injection hv with ha hn2 hc
  injection ha with ha
  injection ha with hg
  subst hg; subst hc
  refine Kd.R_of_own (h1 := fun _ => rfl) ?_ h.1
  have := ownsRow_sortedI (w := w) (base := base) (g := g) (cap := cap) (n := q) (os := os) (ss := xs) (ts := ts) hl hb hh (by omega) h2 h3
  rw [← hn] at this
  rw [hl, ← hn]
  exact this
theorem R_holds {w : World} {base g n cap : Nat} {e : Nat} {ok : Nat → Prop} {xs : List Int} (h : (Kd.int .i64).R e w base ok (.slice (some ⟨g, 0, none⟩) n cap) xs) : Holds (Value.int .i64) w g 0 xs.toArray := by
  have ho := Kd.own_of_R (enc := Value.int .i64) (h1 := fun _ => rfl) h
  rcases ho.2 with ⟨hv, _⟩ | ⟨g', cap', cur, hv, hb, hh, h1, h2, h3, h4⟩
  · cases hv
  injection hv with ha hn2 hc
  injection ha with ha
  injection ha with hg
  subst hg
  exact holds_of_blockI hh (by rw [Nat.mul_one] at h4; exact h4)
abbrev sortI (l : List Int) : List Int := l.mergeSort fun x y => decide (x ≤ y)
theorem SortInt (P0 : Nat → Prop) (u : Value) (l : List Int) (w0 w : World) (hB : Below w0.heap.size w0 w) (ho : (Kd.int .i64).R 3 w w0.heap.size P0 u l) (hsz : l.length < 4611686018427387904) :
    Calls Try.prog 70 #[u] w fun e w' => e = .returned (.tuple #[]) ∧ (Kd.int .i64).R 3 w' w0.heap.size P0 u (sortI l) ∧ Below w0.heap.size w0 w' ∧ Kept w w' P0 := by
  obtain ⟨A, c, rfl⟩ := Kd.R_slice ho
  rcases Nat.eq_zero_or_pos l.length with h0 | h0
  · obtain rfl := List.eq_nil_of_length_eq_zero h0
    refine (Try.slices_Sort_int_none A c w).mono ?_
    rintro e w' ⟨rfl, rfl⟩
    exact ⟨rfl, by simpa [sortI] using ho, hB, Kept.refl _ _⟩
  · obtain ⟨g, cap, hv, hg, hgl, _⟩ := Kd.R_form ho h0
    injection hv with ha _ hc
    subst ha; subst hc
    refine (Try.slices_Sort_int g 0 c l w (R_holds ho) hgl hsz).mono ?_
    rintro e w' ⟨rfl, q, os, rfl⟩
    obtain ⟨h1, h2⟩ := R_put (ts := sortI l) (q := q) ho (by simp [sortI]) os
    exact ⟨rfl, h1, pw_below_grown hB (some g) hB.size h2 (fun k hk => by injection hk with hk; rw [← hk]; exact hg), Kept.of_grown (S := P0) h2 (Kept.refl _ _) (fun k hk => .inl (by injection hk with hk; rw [← hk]; exact ho.1 g rfl))⟩
theorem compact_cpt (l : List Int) : ∀ j, j ≤ l.length → Lib.compactUpTo l.toArray j = Ax.cptN (fun a b : Int => a == b) 0 l j
  | 0, _ => rfl
  | 1, h => by
    rw [Lib.compactUpTo_succ, Lib.keeps_lt_one _ 0 (by omega)]
    match l, h with
    | x :: xs, _ => simp [Lib.compactUpTo, Ax.cptN]
  | j + 2, h => by
    rw [Lib.compactUpTo_succ, compact_cpt l (j + 1) (by omega), Ax.cptN]
    have e1 : l.toArray[j + 1]! = l.getD (j + 1) 0 := by simp [List.getD_eq_getElem?_getD, show j + 1 < l.length by omega]
    have e2 : l.toArray[j]! = l.getD j 0 := by simp [List.getD_eq_getElem?_getD, show j < l.length by omega]
    have e3 : l.toArray[j + 1 - 1]! = l.getD j 0 := e2
    congr 1
    by_cases hq : l.getD (j + 1) 0 = l.getD j 0
    · rw [Lib.keeps_neg (by omega) (by rw [e1, e3]; exact hq)]
      rw [if_neg (by decide), if_pos (beq_iff_eq.2 hq)]
    · rw [Lib.keeps_pos (by rw [e1, e3]; exact hq), e1]
      simp only [if_true]
      rw [if_neg (by simpa using hq)]
abbrev cptI (l : List Int) : List Int := Ax.cptN (fun a b : Int => a == b) 0 l l.length
theorem compact_eq (l : List Int) : Lib.compact l = cptI l := by
  have := compact_cpt l l.length (Nat.le_refl _)
  simpa [Lib.compact] using this
theorem cptN_le {eq : Int → Int → Bool} (l : List Int) : ∀ j, (Ax.cptN eq 0 l j).length ≤ j
  | 0 => by simp [Ax.cptN]
  | 1 => by simp [Ax.cptN]; omega
  | j + 2 => by
    have := cptN_le (eq := eq) l (j + 1)
    simp only [Ax.cptN, List.length_append]
    split <;> simp <;> omega
theorem CompactInt (P0 : Nat → Prop) (u : Value) (l : List Int) (w0 w : World) (hB : Below w0.heap.size w0 w) (ho : (Kd.int .i64).R 3 w w0.heap.size P0 u l) :
    Calls Try.prog 71 #[u] w fun e w' => ∃ v, e = .returned v ∧ (Kd.int .i64).R 3 w' w0.heap.size P0 v (cptI l) ∧ Below w0.heap.size w0 w' ∧ Kept w w' P0 := by
  obtain ⟨A, c, rfl⟩ := Kd.R_slice ho
  obtain ⟨_, hc, hC⟩ := Kd.R_reads' ho
  have hbig := hC.2.1
  rcases Nat.eq_zero_or_pos l.length with h0 | h0
  · obtain rfl := List.eq_nil_of_length_eq_zero h0
    refine (Try.slices_Compact_int_empty A c w).mono ?_
    rintro e w' ⟨rfl, rfl⟩
    exact ⟨_, rfl, ho, hB, Kept.refl _ _⟩
  · obtain ⟨g, cap, hv, hg, hgl, _⟩ := Kd.R_form ho h0
    injection hv with ha _ hc2
    subst ha; subst hc2
    refine (Try.slices_Compact_int g 0 c l w (R_holds ho) (by omega) hc).mono ?_
    rintro e w' ⟨rfl, q, rfl⟩
    have hle : (cptI l).length ≤ l.length := cptN_le l l.length
    have hE := compact_eq l
    obtain ⟨h1, h2⟩ := R_put (ts := Lib.compact l ++ List.replicate (l.length - (Lib.compact l).length) 0) (q := q) ho (by rw [List.length_append, List.length_replicate, hE]; omega) #[]
    rw [grow_empty] at h1 h2
    refine ⟨_, rfl, ?_, pw_below_grown hB (some g) hB.size h2 (fun k hk => by injection hk with hk; rw [← hk]; exact hg), Kept.of_grown (S := P0) h2 (Kept.refl _ _) (fun k hk => .inl (by injection hk with hk; rw [← hk]; exact ho.1 g rfl))⟩
    have h3 := Kd.R_take (m := (Lib.compact l).length) h1 (by rw [List.length_append]; omega)
    rw [List.take_left] at h3
    rw [← hE]
    exact h3
theorem cptI_sort (l : List Int) : (cptI (sortI l)).Pairwise (· < ·) ∧ ∀ x, x ∈ cptI (sortI l) ↔ x ∈ l := by
  have hs : (sortI l).Pairwise (· ≤ ·) := Ax.sorted_le l
  have hget : ∀ (L : List Int) (m : Nat) (h : m < L.length), L.getD m 0 = L[m] := fun L m h => by rw [List.getD_eq_getElem?_getD, List.getElem?_eq_getElem h]; rfl
  rcases Nat.eq_zero_or_pos (sortI l).length with h0 | h0
  · have := List.eq_nil_of_length_eq_zero h0
    have h1 : l = [] := by
      have : l.length = 0 := by simpa [sortI] using h0
      exact List.eq_nil_of_length_eq_zero this
    subst h1
    simp [sortI, cptI, Ax.cptN]
  · obtain ⟨h1, h2, _⟩ := Ax.cptN_sorts (lt := (· < ·)) (eq := fun a b : Int => a == b) (z := 0) (l := sortI l) (fun a b c => Int.lt_trans) (fun a b h => by simpa using h) (fun m h1 h2 he => by
      have hp := List.pairwise_iff_getElem.1 hs (m - 1) m (by omega) h2 (by omega)
      have e1 := hget (sortI l) m h2
      have e2 := hget (sortI l) (m - 1) (by omega)
      rw [e1, e2] at he ⊢
      have : (sortI l)[m] ≠ (sortI l)[m - 1] := by simpa using he
      omega) (sortI l).length h0 (Nat.le_refl _)
    refine ⟨h1, fun x => ?_⟩
    rw [h2, List.take_length]
    exact List.mem_mergeSort
end Go.Proofs.Ytdnidldinafakaa.Pr
