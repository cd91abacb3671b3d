/- slices.Sort and slices.Compact at numbers, on a row of the call's own (out of the shelf's contracts). Condition: a length below 2^62. -/
import Derived.Test.YtcengijoicmldaaShelf
import Derived.Test.YtcengijoicmldaaWWords
import Derived.Test.YtcengijoicmldaaWKept
import Derived.Test.YtcengijoicmldaaWLast
import Derived.Test.YtcengijoicmldaaWMore
import Derived.Test.YtcengijoicmldaaAc
import Derived.Sort.OwnSortedInts
namespace Go.Proofs.Ytcengijoicmldaa.Pr
open Go.RowKit Go.Sort Go.Proofs Go.Proofs.YtcengijoicmldaaW.PrintWords Go.Proofs.YtcengijoicmldaaW.PrintLast Go.Proofs.YtcengijoicmldaaW.PrintMore
set_option linter.unusedVariables false
set_option linter.unusedSimpArgs false
theorem R_put {w : World} {base g n cap q : Nat} {e : Nat} {ok : Nat → Prop} {xs ts : List Int} (h : (Kd.int .i64).R e w base ok (.slice (some ⟨g, 0, none⟩) n cap) xs) (hl : ts.length = xs.length) (os : Array Obj) :
    (Kd.int .i64).R e (grow (putRow (Value.int .i64) (Sort.ahead w q) g 0 ts.toArray) os) base ok (.slice (some ⟨g, 0, none⟩) n cap) ts ∧ w.grownBy (grow (putRow (Value.int .i64) (Sort.ahead w q) g 0 ts.toArray) os) (some g) := by
  refine ⟨?_, grownBy_sortedI _⟩
  have hn := (Kd.R_reads' h).1
  have ho := Kd.own_of_R (enc := Value.int .i64) (h1 := fun _ => rfl) h
  rcases ho.2 with ⟨hv, _⟩ | ⟨g', cap', cur, hv, hb, hh, h1, h2, h3, h4⟩
  · cases hv
  injection hv with ha hn2 hc
  injection ha with ha
  injection ha with hg
  subst hg; subst hc
  refine Kd.R_of_own (h1 := fun _ => rfl) ?_ h.1
  have := ownsRow_sortedI (w := w) (base := base) (g := g) (cap := cap) (n := q) (os := os) (ss := xs) (ts := ts) hl hb hh (by omega) h2 h3
  rw [← hn] at this
  rw [hl, ← hn]
  exact this
theorem R_holds {w : World} {base g n cap : Nat} {e : Nat} {ok : Nat → Prop} {xs : List Int} (h : (Kd.int .i64).R e w base ok (.slice (some ⟨g, 0, none⟩) n cap) xs) : Holds (Value.int .i64) w g 0 xs.toArray := by
  have ho := Kd.own_of_R (enc := Value.int .i64) (h1 := fun _ => rfl) h
  rcases ho.2 with ⟨hv, _⟩ | ⟨g', cap', cur, hv, hb, hh, h1, h2, h3, h4⟩
  · cases hv
  injection hv with ha hn2 hc
  injection ha with ha
  injection ha with hg
  subst hg
  exact holds_of_blockI hh (by rw [Nat.mul_one] at h4; exact h4)
abbrev sortI (l : List Int) : List Int := l.mergeSort fun x y => decide (x ≤ y)
theorem SortInt (P0 : Nat → Prop) (u : Value) (l : List Int) (w0 w : World) (hB : Below w0.heap.size w0 w) (ho : (Kd.int .i64).R 3 w w0.heap.size P0 u l) (hsz : l.length < 4611686018427387904) :
    Calls Try.prog 72 #[u] w fun e w' => e = .returned (.tuple #[]) ∧ (Kd.int .i64).R 3 w' w0.heap.size P0 u (sortI l) ∧ Below w0.heap.size w0 w' ∧ Kept w w' P0 := by
  obtain ⟨A, c, rfl⟩ := Kd.R_slice ho
  rcases Nat.eq_zero_or_pos l.length with h0 | h0
  · obtain rfl := List.eq_nil_of_length_eq_zero h0
    refine (Try.slices_Sort_int_none A c w).mono ?_
    rintro e w' ⟨rfl, rfl⟩
    exact ⟨rfl, by simpa [sortI] using ho, hB, Kept.refl _ _⟩
  · obtain ⟨g, cap, hv, hg, hgl, _⟩ := Kd.R_form ho h0
    injection hv with ha _ hc
    subst ha; subst hc
    refine (Try.slices_Sort_int g 0 c l w (R_holds ho) hgl hsz).mono ?_
    rintro e w' ⟨rfl, q, os, rfl⟩
    obtain ⟨h1, h2⟩ := R_put (ts := sortI l) (q := q) ho (by simp [sortI]) os
    exact ⟨rfl, h1, pw_below_grown hB (some g) hB.size h2 (fun k hk => by injection hk with hk; rw [← hk]; exact hg), Kept.of_grown (S := P0) h2 (Kept.refl _ _) (fun k hk => .inl (by injection hk with hk; rw [← hk]; exact ho.1 g rfl))⟩
end Go.Proofs.Ytcengijoicmldaa.Pr
