/- What an argument reads as, kind by kind: out of the reading of a datum (DataW.trod) comes the reading by the print's kinds (Kd.K). No condition. -/
import Derived.Test.YtdnidldinafakaaWWords
import Derived.Deep.Slices
import Derived.ChangeSame
import Derived.ChangeArms
import Derived.DataReads
namespace Go.Proofs.Ytdnidldinafakaa.Open
open Go.RowKit Go.Deep Go.ChangeShapes Go.WideShapes Go.Proofs.YtdnidldinafakaaW.PrintWords
set_option linter.unusedVariables false
set_option linter.unusedSimpArgs false
def Opn (P : Program) {α : Type} (d : Kd α) (F : α → Prop) (t : TypeId) : Prop :=
  ∀ (H : Type) (enc : TypeId × Value → H) (w : World) (fuel : Nat) (cs : List Value) (x : DataW H × List MemPlace),
    DataW.trod enc P w 0 (fun _ => true) true fuel t cs = some x → ∃ y, d.K w y cs ∧ F y
theorem op_int {P : Program} {k : IntKind} {t : TypeId} (ht : P.underlying t = some (.int k)) : Opn P (Kd.int k) (fun n => (Lit.int k n).wf = true) t := by
  intro H enc w fuel cs x h
  obtain ⟨n, rfl, _, hw⟩ := DataW.trod_int ht h
  exact ⟨n, rfl, hw⟩
theorem list_of {α : Type} {p : Nat → α → Prop} : ∀ {n : Nat}, (∀ i, i < n → ∃ x, p i x) → ∃ l : List α, l.length = n ∧ ∀ i x, l[i]? = some x → p i x
  | 0, _ => ⟨[], rfl, fun i x h => by simp at h⟩
  | n + 1, h => by
    obtain ⟨l, hl, hp⟩ := list_of (n := n) (fun i hi => h i (by omega))
    obtain ⟨x, hx⟩ := h n (by omega)
    refine ⟨l ++ [x], by simp [hl], fun i y hy => ?_⟩
    rcases Nat.lt_or_ge i l.length with hi | hi
    · rw [List.getElem?_append_left hi] at hy
      exact hp i y hy
    · rw [List.getElem?_append_right hi] at hy
      have : i - l.length = 0 := by
        have := (List.getElem?_eq_some_iff.1 hy).1
        simp at this
        omega
      rw [this] at hy
      simp at hy
      subst hy
      have : i = n := by omega
      rw [this]
      exact hx
theorem op_slice {P : Program} {α : Type} {d : Kd α} {F : α → Prop} {t e : TypeId} (ht : P.underlying t = some (.slice e)) (hc : P.cellsOf e = d.sz) (ho : Opn P d F e) :
    Opn P (Kd.slice e d) (fun l => l.length < 9223372036854775808 ∧ ∀ x ∈ l, F x) t := by
  intro H enc w fuel cs x h
  rcases open_slice ht h with ⟨rfl, _⟩ | ⟨a, len, cap, m, n, D, Pl, rfl, _, hl, hm, hmm, _, hx⟩
  · exact ⟨[], ⟨none, 0, rfl, Nat.le_refl _, rfl, by simp, fun h0 => absurd h0 (by simp)⟩, by simp, fun x hx => absurd hx (by simp)⟩
  · simp only [if_true] at hmm
    subst hmm
    have each : ∀ i, i < len → ∃ y : α, F y ∧ ∃ c, c.length = d.sz ∧ d.K w y c ∧ ∀ j u, c[j]? = some u → w.cell? (a.add (i * d.sz + j)) = some u := by
      intro i hi
      obtain ⟨cs', h1, h2⟩ := hx i (by omega)
      obtain ⟨y, hy, hF⟩ := ho H enc w n cs' _ h2
      rw [hc] at h1
      obtain ⟨_, hlen, hcell⟩ := World.cells?_some h1
      refine ⟨y, hF, cs', hlen, hy, fun j u hj => ?_⟩
      have hj' : j < d.sz := by
        have := (List.getElem?_eq_some_iff.1 hj).1
        omega
      have := hcell j hj'
      rw [Deep.add_add] at this
      rw [this, hj]
    obtain ⟨ys, hn, hy⟩ := list_of each
    refine ⟨ys, ⟨some a, m, ?_, ?_, ?_⟩, ?_, ?_⟩
    · rw [hn]
    · omega
    · refine ⟨rfl, ?_, fun _ => ⟨a, rfl, fun j p hj => (hy j p hj).2⟩⟩
      have : m ≤ 9223372036854775807 := hm
      omega
    · have : m ≤ 9223372036854775807 := hm
      omega
    · intro x hx
      obtain ⟨i, hi⟩ := List.getElem?_of_mem hx
      exact (hy i x hi).1
def Sg (P : Program) {α : Type} (d : Kd α) (F : α → Prop) (fs : List Field) (off : Nat) : Prop :=
  ∀ (H : Type) (enc : TypeId × Value → H) (w : World) (n : Nat) (cs : List Value),
    (∀ f ∈ fs, ∃ y, DataW.trod enc P w 0 (fun _ => true) true n f.type ((cs.drop f.offset).take (P.cellsOf f.type)) = some y) → ∃ y, d.K w y ((cs.drop off).take d.sz) ∧ F y
theorem sg_one {P : Program} {α : Type} {d : Kd α} {F : α → Prop} {f : Field} {off : Nat} (hf : f.offset = off) (hc : P.cellsOf f.type = d.sz) (ho : Opn P d F f.type) : Sg P d F [f] off := by
  intro H enc w n cs h
  obtain ⟨y, hy⟩ := h f (by simp)
  rw [hf, hc] at hy
  exact ho H enc w n _ _ hy
theorem sg_cons {P : Program} {α β : Type} {d : Kd α} {d2 : Kd β} {F : α → Prop} {F2 : β → Prop} {f : Field} {fs : List Field} {off : Nat} (hf : f.offset = off) (hc : P.cellsOf f.type = d.sz) (ho : Opn P d F f.type)
    (hr : Sg P d2 F2 fs (off + d.sz)) : Sg P (Kd.pair d d2) (fun x => F x.1 ∧ F2 x.2) (f :: fs) off := by
  intro H enc w n cs h
  obtain ⟨y, hy, hF⟩ := sg_one hf hc ho H enc w n cs (fun g hg => h g (by simp at hg; simp [hg]))
  obtain ⟨y2, hy2, hF2⟩ := hr H enc w n cs (fun g hg => h g (by simp [hg]))
  refine ⟨(y, y2), ⟨_, _, ?_, hy, hy2⟩, hF, hF2⟩
  show (cs.drop off).take (d.sz + d2.sz) = _
  rw [List.take_add, List.drop_drop]
theorem op_struct {P : Program} {α β : Type} {d : Kd α} {F : α → Prop} {t : TypeId} {fs : Array Field} (g : β → α) (k : α → β) (hgk : ∀ x, g (k x) = x) (ht : P.underlying t = some (.struct fs)) (hc : P.cellsOf t = d.sz) (hs : Sg P d F fs.toList 0) :
    Opn P (Kd.iso d g) (fun x => F (g x)) t := by
  intro H enc w fuel cs x h
  obtain ⟨xs, n, _, rfl, hl, hlen, hf⟩ := DataW.trod_struct ht h
  have hcs : (cs.drop 0).take d.sz = cs := by
    rw [List.drop_zero, List.take_of_length_le (by omega)]
  obtain ⟨y, hy, hF⟩ := hs H enc w n cs (fun f hfm => by
    obtain ⟨i, hi⟩ := List.getElem?_of_mem hfm
    have := hf i f (by simpa using hi)
    have hi2 : i < xs.length := by
      have := (List.getElem?_eq_some_iff.1 hi).1
      simp at this
      omega
    rw [List.getElem?_eq_getElem hi2] at this
    exact ⟨_, this⟩)
  rw [hcs] at hy
  exact ⟨k y, by show d.K w (g (k y)) cs; rw [hgk]; exact hy, by show F (g (k y)); rw [hgk]; exact hF⟩
end Go.Proofs.Ytdnidldinafakaa.Open
