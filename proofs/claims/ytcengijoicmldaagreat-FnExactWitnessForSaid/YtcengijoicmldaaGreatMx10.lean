/- Several small texts together: Open, Mx3. No condition but those they name. -/
import Derived.Test.YtcengijoicmldaaGreatWWords
import Derived.Deep.Slices
import Derived.ChangeSame
import Derived.ChangeArms
import Derived.DataReads
import Derived.Test.YtcengijoicmldaaGreatWMore
import Derived.Test.YtcengijoicmldaaGreatPr1
/- What an argument reads as, kind by kind: out of the reading of a datum (DataW.trod) comes the reading by the print's kinds (Kd.K). No condition. -/
namespace Go.Proofs.YtcengijoicmldaaGreat.Open
open Go.RowKit Go.Deep Go.ChangeShapes Go.WideShapes Go.Proofs.YtcengijoicmldaaGreatW.PrintWords
set_option linter.unusedVariables false
set_option linter.unusedSimpArgs false
def Opn (P : Program) {α : Type} (d : Kd α) (F : α → Prop) (t : TypeId) : Prop :=
  ∀ (H : Type) (enc : TypeId × Value → H) (w : World) (fuel : Nat) (cs : List Value) (x : DataW H × List MemPlace),
    DataW.trod enc P w 0 (fun _ => true) true fuel t cs = some x → ∃ y, d.K w y cs ∧ F y
theorem op_int {P : Program} {k : IntKind} {t : TypeId} (ht : P.underlying t = some (.int k)) : Opn P (Kd.int k) (fun n => (Lit.int k n).wf = true) t := by
  intro H enc w fuel cs x h
  obtain ⟨n, rfl, _, hw⟩ := DataW.trod_int ht h
  exact ⟨n, rfl, hw⟩
theorem list_of {α : Type} {p : Nat → α → Prop} : ∀ {n : Nat}, (∀ i, i < n → ∃ x, p i x) → ∃ l : List α, l.length = n ∧ ∀ i x, l[i]? = some x → p i x
  | 0, _ => ⟨[], rfl, fun i x h => by simp at h⟩
  | n + 1, h => by
    obtain ⟨l, hl, hp⟩ := list_of (n := n) (fun i hi => h i (by omega))
    obtain ⟨x, hx⟩ := h n (by omega)
    refine ⟨l ++ [x], by simp [hl], fun i y hy => ?_⟩
    rcases Nat.lt_or_ge i l.length with hi | hi
    · rw [List.getElem?_append_left hi] at hy
      exact hp i y hy
    · rw [List.getElem?_append_right hi] at hy
      have : i - l.length = 0 := by
        have := (List.getElem?_eq_some_iff.1 hy).1
        simp at this
        omega
      rw [this] at hy
      simp at hy
      subst hy
      have : i = n := by omega
      rw [this]
      exact hx
theorem op_slice {P : Program} {α : Type} {d : Kd α} {F : α → Prop} {t e : TypeId} (ht : P.underlying t = some (.slice e)) (hc : P.cellsOf e = d.sz) (ho : Opn P d F e) :
    Opn P (Kd.slice e d) (fun l => l.length < 9223372036854775808 ∧ ∀ x ∈ l, F x) t := by
  intro H enc w fuel cs x h
  rcases open_slice ht h with ⟨rfl, _⟩ | ⟨a, len, cap, m, n, D, Pl, rfl, _, hl, hm, hmm, _, hx⟩
  · exact ⟨[], ⟨none, 0, rfl, Nat.le_refl _, rfl, by simp, fun h0 => absurd h0 (by simp)⟩, by simp, fun x hx => absurd hx (by simp)⟩
  · simp only [if_true] at hmm
    subst hmm
    have each : ∀ i, i < len → ∃ y : α, F y ∧ ∃ c, c.length = d.sz ∧ d.K w y c ∧ ∀ j u, c[j]? = some u → w.cell? (a.add (i * d.sz + j)) = some u := by
      intro i hi
      obtain ⟨cs', h1, h2⟩ := hx i (by omega)
      obtain ⟨y, hy, hF⟩ := ho H enc w n cs' _ h2
      rw [hc] at h1
      obtain ⟨_, hlen, hcell⟩ := World.cells?_some h1
      refine ⟨y, hF, cs', hlen, hy, fun j u hj => ?_⟩
      have hj' : j < d.sz := by
        have := (List.getElem?_eq_some_iff.1 hj).1
        omega
      have := hcell j hj'
      rw [Deep.add_add] at this
      rw [this, hj]
    obtain ⟨ys, hn, hy⟩ := list_of each
    refine ⟨ys, ⟨some a, m, ?_, ?_, ?_⟩, ?_, ?_⟩
    · rw [hn]
    · omega
    · refine ⟨rfl, ?_, fun _ => ⟨a, rfl, fun j p hj => (hy j p hj).2⟩⟩
      have : m ≤ 9223372036854775807 := hm
      omega
    · have : m ≤ 9223372036854775807 := hm
      omega
    · intro x hx
      obtain ⟨i, hi⟩ := List.getElem?_of_mem hx
      exact (hy i x hi).1
def Sg (P : Program) {α : Type} (d : Kd α) (F : α → Prop) (fs : List Field) (off : Nat) : Prop :=
  ∀ (H : Type) (enc : TypeId × Value → H) (w : World) (n : Nat) (cs : List Value),
    (∀ f ∈ fs, ∃ y, DataW.trod enc P w 0 (fun _ => true) true n f.type ((cs.drop f.offset).take (P.cellsOf f.type)) = some y) → ∃ y, d.K w y ((cs.drop off).take d.sz) ∧ F y
theorem sg_one {P : Program} {α : Type} {d : Kd α} {F : α → Prop} {f : Field} {off : Nat} (hf : f.offset = off) (hc : P.cellsOf f.type = d.sz) (ho : Opn P d F f.type) : Sg P d F [f] off := by
  intro H enc w n cs h
  obtain ⟨y, hy⟩ := h f (by simp)
  rw [hf, hc] at hy
  exact ho H enc w n _ _ hy
theorem sg_cons {P : Program} {α β : Type} {d : Kd α} {d2 : Kd β} {F : α → Prop} {F2 : β → Prop} {f : Field} {fs : List Field} {off : Nat} (hf : f.offset = off) (hc : P.cellsOf f.type = d.sz) (ho : Opn P d F f.type)
    (hr : Sg P d2 F2 fs (off + d.sz)) : Sg P (Kd.pair d d2) (fun x => F x.1 ∧ F2 x.2) (f :: fs) off := by
  intro H enc w n cs h
  obtain ⟨y, hy, hF⟩ := sg_one hf hc ho H enc w n cs (fun g hg => h g (by simp at hg; simp [hg]))
  obtain ⟨y2, hy2, hF2⟩ := hr H enc w n cs (fun g hg => h g (by simp [hg]))
  refine ⟨(y, y2), ⟨_, _, ?_, hy, hy2⟩, hF, hF2⟩
  show (cs.drop off).take (d.sz + d2.sz) = _
  rw [List.take_add, List.drop_drop]
theorem op_struct {P : Program} {α β : Type} {d : Kd α} {F : α → Prop} {t : TypeId} {fs : Array Field} (g : β → α) (k : α → β) (hgk : ∀ x, g (k x) = x) (ht : P.underlying t = some (.struct fs)) (hc : P.cellsOf t = d.sz) (hs : Sg P d F fs.toList 0) :
    Opn P (Kd.iso d g) (fun x => F (g x)) t := by
  intro H enc w fuel cs x h
  obtain ⟨xs, n, _, rfl, hl, hlen, hf⟩ := DataW.trod_struct ht h
  have hcs : (cs.drop 0).take d.sz = cs := by
    rw [List.drop_zero, List.take_of_length_le (by omega)]
  obtain ⟨y, hy, hF⟩ := hs H enc w n cs (fun f hfm => by
    obtain ⟨i, hi⟩ := List.getElem?_of_mem hfm
    have := hf i f (by simpa using hi)
    have hi2 : i < xs.length := by
      have := (List.getElem?_eq_some_iff.1 hi).1
      simp at this
      omega
    rw [List.getElem?_eq_getElem hi2] at this
    exact ⟨_, this⟩)
  rw [hcs] at hy
  exact ⟨k y, by show d.K w (g (k y)) cs; rw [hgk]; exact hy, by show F (g (k y)); rw [hgk]; exact hF⟩
end Go.Proofs.YtcengijoicmldaaGreat.Open

/- Several small texts together: Pl, Ah. No condition but those they name. -/
/- Small plain words for the pure side: lists read by an index, rounds of loops. No condition. -/
namespace Go.Proofs.YtcengijoicmldaaGreat.Pl
open Go.RowKit Go.Proofs.YtcengijoicmldaaGreatW.PrintWords Go.Proofs.YtcengijoicmldaaGreatW.PrintLast Go.Proofs.YtcengijoicmldaaGreatW.PrintMore
set_option linter.unusedVariables false
set_option linter.unusedSimpArgs false
theorem drop_cons {α : Type} {xs ys : List α} {j : Nat} {y : α} (h : xs.drop j = y :: ys) : j < xs.length ∧ xs[j]? = some y ∧ xs.drop (j + 1) = ys := by
  have h1 : j < xs.length := by
    rcases Nat.lt_or_ge j xs.length with h1 | h1
    · exact h1
    · rw [List.drop_of_length_le h1] at h
      cases h
  refine ⟨h1, ?_, ?_⟩
  · have := List.getElem?_drop (xs := xs) (i := j) (j := 0)
    rw [h] at this
    simpa using this.symm
  · have := List.drop_drop (l := xs) (i := 1) (j := j)
    rw [h] at this
    simpa using this.symm
theorem drop_nil {α : Type} {xs : List α} {j : Nat} (h : xs.drop j = []) : xs.length ≤ j := by
  simpa using h
theorem rd_drop {xs ys : List Int} {j : Nat} {y : Int} (h : xs.drop j = y :: ys) : rd xs (j : Int) = y := by
  have := (drop_cons h).2.1
  simp [rd, List.getD_eq_getElem?_getD, this]
theorem wrap_succ {j : Nat} (h : j < 9223372036854775807) : wrap64 ((j : Int) + 1) = ((j + 1 : Nat) : Int) := by
  unfold wrap64
  omega
theorem wrap_in {x : Int} (h1 : -9223372036854775808 ≤ x) (h2 : x < 9223372036854775808) : wrap64 x = x := by
  unfold wrap64
  omega
theorem ev_succ {α : Type} {g : Nat → Option α} {r : α} (h : Ev (fun k => g (k + 1)) r) : Ev g r := by
  obtain ⟨K, h⟩ := h
  refine ⟨K + 1, fun n hn => ?_⟩
  obtain ⟨m, rfl⟩ : ∃ m, n = m + 1 := ⟨n - 1, by omega⟩
  exact h m (by omega)
theorem ev_now {α : Type} {r s : α} (h : r = s) : Ev (fun _ => some r) s := h ▸ Ev.now r
theorem ev_eq {α : Type} {g : Option α} {r : α} (h : g = some r) : Ev (fun _ => g) r := ⟨0, fun _ _ => h⟩
theorem set_end {α : Type} {xs ys out : List α} {j : Nat} {y : α} (h : xs.drop j = y :: ys) (ho : out.length = xs.length) (hp : out.take j = xs.take j) : (out.set j y).length = xs.length ∧ (out.set j y).take (j + 1) = xs.take (j + 1) := by
  obtain ⟨h1, h2, _⟩ := drop_cons h
  refine ⟨by rw [List.length_set, ho], ?_⟩
  rw [List.take_add_one, List.take_add_one, h2, List.getElem?_set_self (by omega)]
  rw [List.take_set_of_le (Nat.le_refl _), hp]
end Go.Proofs.YtcengijoicmldaaGreat.Pl

/- What looking for a number in a list tells. Conditions: lengths that Go can hold. -/
namespace Go.Proofs.YtcengijoicmldaaGreat.Ax
open Go.RowKit Go.Proofs.YtcengijoicmldaaGreat.Pr Go.Proofs.YtcengijoicmldaaGreat.Pl Go.Proofs.YtcengijoicmldaaGreatW.PrintWords Go.Proofs.YtcengijoicmldaaGreatW.PrintLast Go.Proofs.YtcengijoicmldaaGreatW.PrintMore
set_option linter.unusedVariables false
set_option linter.unusedSimpArgs false
theorem idxInt_l0 (a : Int) (xs : List Int) (hb : xs.length ≤ 9223372036854775807) : ∀ (ys : List Int) (j : Nat), xs.drop j = ys → ∃ r : Int, Ev (fun k => slices_Index_int_int.l0 k xs a (xs.length : Int) (j : Int)) r ∧ decide (r ≥ 0) = ys.contains a
  | [], j, h => by
    have h1 := drop_nil h
    refine ⟨-1, ev_succ ?_, by simp⟩
    simp only [slices_Index_int_int.l0]
    simp only [if_neg (show ¬ ((j : Int) < (xs.length : Int)) by omega)]
    exact ev_now rfl
  | y :: ys, j, h => by
    obtain ⟨h1, h2, h3⟩ := drop_cons h
    by_cases e : a = y
    · refine ⟨(j : Int), ev_succ ?_, by simp [e]⟩
      simp only [slices_Index_int_int.l0]
      simp only [if_pos (show (j : Int) < (xs.length : Int) by omega), if_pos (show (0 : Int) ≤ (j : Int) by omega), rd_drop h, if_pos e]
      exact ev_now rfl
    · obtain ⟨r, h4, h5⟩ := idxInt_l0 a xs hb ys (j + 1) h3
      refine ⟨r, ev_succ ?_, by rw [h5]; simp [List.contains_cons, e]⟩
      simp only [slices_Index_int_int.l0]
      simp only [if_pos (show (j : Int) < (xs.length : Int) by omega), if_pos (show (0 : Int) ≤ (j : Int) by omega), rd_drop h, if_neg e, wrap_succ (show j < 9223372036854775807 by omega)]
      exact h4
theorem contains_ev (xs : List Int) (a : Int) (hb : xs.length ≤ 9223372036854775807) : Ev (fun k => slices_Contains_int_int.f k xs a) (xs.contains a) := by
  simp only [slices_Contains_int_int.f, slices_Index_int_int.f]
  obtain ⟨r, h4, h5⟩ := idxInt_l0 a xs hb xs 0 rfl
  exact Ev.bind h4 (ev_now (by rw [h5]))
end Go.Proofs.YtcengijoicmldaaGreat.Ax
