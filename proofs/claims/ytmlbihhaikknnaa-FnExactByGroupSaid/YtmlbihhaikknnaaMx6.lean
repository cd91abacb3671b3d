/- Several small texts together: Iv, Open. No condition but those they name. -/
import Derived.Test.YtmlbihhaikknnaaWWords
import Derived.Test.YtmlbihhaikknnaaWApart
import Derived.Test.YtmlbihhaikknnaaWKept
import Derived.Test.YtmlbihhaikknnaaWLast
import Derived.Test.YtmlbihhaikknnaaWMore
import Derived.Deep.Slices
import Derived.ChangeSame
import Derived.ChangeArms
import Derived.DataReads
/- Rows of a call's own whose blocks lie between two bounds: what other calls make, or write elsewhere, leaves them. No condition. -/
namespace Go.Proofs.Ytmlbihhaikknnaa.Iv
open Go.RowKit Go.Proofs.YtmlbihhaikknnaaW.PrintWords
set_option linter.unusedVariables false
set_option linter.unusedSimpArgs false
def Ob {α : Type} (d : Kd α) (e : Nat) (w : World) (lo hi : Nat) (q : Nat → Prop) (v : Value) (xs : List α) : Prop :=
  Kd.S d e w lo (fun k => k < hi ∧ q k) v xs ∧ hi ≤ w.heap.size
section
variable {α : Type} {d : Kd α} {e lo hi lo2 hi2 : Nat} {q ok : Nat → Prop} {w w1 W : World} {v : Value} {xs : List α}
theorem Ob.of_S (h : Kd.S d e w1 W.heap.size ok v xs) (hq : ∀ k, ok k → q k) : Ob d e w1 W.heap.size w1.heap.size q v xs :=
  ⟨Kd.S_mono (Kd.S_bound h) (fun k hk => ⟨hk.2.2.1, hq k hk.1⟩), Nat.le_refl _⟩
theorem Ob.below (h : Ob d e w lo hi q v xs) (hb : Below w.heap.size w w1) : Ob d e w1 lo hi q v xs := ⟨Kd.S_below h.1 hb, Nat.le_trans h.2 hb.size⟩
theorem Ob.alloc (h : Ob d e w lo hi q v xs) (o : Obj) : Ob d e (w.alloc o) lo hi q v xs := h.below (below_alloc (Below.refl _ _) o)
theorem Ob.drew (h : Ob d e w lo hi q v xs) : Ob d e w.drew lo hi q v xs := h.below (below_drew (Below.refl _ _))
theorem Ob.drewN (h : Ob d e w lo hi q v xs) (m : Nat) : Ob d e (w.drewN m) lo hi q v xs := h.below (pw_below_drewN (Below.refl _ _) m)
theorem Ob.kept (h : Ob d e w lo hi q v xs) (hk : Kept w w1 (fun k => lo2 ≤ k ∧ k < hi2)) (hd : hi ≤ lo2 ∨ hi2 ≤ lo) : Ob d e w1 lo hi q v xs :=
  ⟨Kd.S_mono (Kd.S_kept (Kd.S_bound h.1) hk (fun k hk2 hs => by have := hk2.1.1; have := hk2.2.1; omega)) (fun k hk2 => hk2.1), Nat.le_trans h.2 hk.1⟩
theorem Ob.slice (h : Ob d e w lo hi q v xs) : ∃ A c, v = .slice A xs.length c := Kd.S_slice h.1
theorem Ob.C {A : Option Addr} {n c : Nat} (h : Ob d e w lo hi q (.slice A n c) xs) : d.C w A xs.length xs := (Kd.S_reads' h.1).2.2
theorem Ob.le {A : Option Addr} {n c : Nat} (h : Ob d e w lo hi q (.slice A n c) xs) : xs.length ≤ c := by
  have := (Kd.S_reads' h.1)
  omega
theorem Ob.R (h : Ob d e w lo hi q v xs) : d.R e w lo (fun k => k < hi ∧ q k) v xs := Kd.S_R h.1
theorem Ob.size (h : Ob d e w lo hi q v xs) : hi ≤ w.heap.size := h.2
theorem Ob.mono {q2 : Nat → Prop} (h : Ob d e w lo hi q v xs) (hq : ∀ k, q k → q2 k) : Ob d e w lo hi q2 v xs := ⟨Kd.S_mono h.1 (fun k hk => ⟨hk.1, hq k hk.2⟩), h.2⟩
theorem Ob.V {A : Option Addr} {n c e' base : Nat} (h : Ob d e w lo hi q (.slice A n c) xs) : Kd.V d e' w base (fun k => k < hi ∧ q k) (.slice A xs.length c) xs := by
  have hl := Kd.S_reads' h.1
  obtain ⟨h1, h2, h3⟩ := hl
  subst h1
  exact Kd.V_mk h2 (Kd.S_F h.1)
end
def ObV {α : Type} (d : Kd α) (e : Nat) (w : World) (hi : Nat) (v : Value) (xs : List α) : Prop := Kd.V d e w 0 (fun k => k < hi) v xs ∧ hi ≤ w.heap.size
section
variable {α : Type} {d : Kd α} {e base hi lo2 hi2 : Nat} {ok : Nat → Prop} {w w1 : World} {v : Value} {xs : List α}
theorem ObV.below (h : ObV d e w hi v xs) (hb : Below w.heap.size w w1) : ObV d e w1 hi v xs := ⟨Kd.V_below h.1 hb, Nat.le_trans h.2 hb.size⟩
theorem ObV.kept (h : ObV d e w hi v xs) (hk : Kept w w1 (fun k => lo2 ≤ k ∧ k < hi2)) (hd : hi ≤ lo2) : ObV d e w1 hi v xs :=
  ⟨Kd.V_kept h.1 hk (fun k hk2 hs => by have := hs.1; omega), Nat.le_trans h.2 hk.1⟩
theorem ObV.slice (h : ObV d e w hi v xs) : ∃ A c, v = .slice A xs.length c := Kd.V_slice h.1
theorem ObV.C {A : Option Addr} {n c : Nat} (h : ObV d e w hi (.slice A n c) xs) : d.C w A xs.length xs := (Kd.V_reads' h.1).2.2
theorem ObV.le {A : Option Addr} {n c : Nat} (h : ObV d e w hi (.slice A n c) xs) : xs.length ≤ c := by
  have := Kd.V_reads' h.1
  omega
theorem ObV.size (h : ObV d e w hi v xs) : hi ≤ w.heap.size := h.2
end
end Go.Proofs.Ytmlbihhaikknnaa.Iv
namespace Go.Proofs.Ytmlbihhaikknnaa.Bx
open Go.RowKit Go.Proofs.YtmlbihhaikknnaaW.PrintWords Go.Proofs.YtmlbihhaikknnaaW.PrintLast
set_option linter.unusedVariables false
set_option linter.unusedSimpArgs false
theorem box_new (W : World) (cs : Array Value) (t : TypeId) (j : Nat) (v : Value) (h : cs[j]? = some v) : (W.alloc (.cells cs t)).cell? ⟨W.heap.size, j, none⟩ = some v := (blk_cell (blk_new W (.cells cs t)) j).trans h
theorem box_new' (W : World) (cs : Array Value) (t : TypeId) (j : Nat) (v : Value) (n : Nat) (hn : n = W.heap.size) (h : cs[j]? = some v) : (W.alloc (.cells cs t)).cell? ⟨n, j, none⟩ = some v := hn ▸ box_new W cs t j v h
theorem box_later {w wx : World} {a : Addr} {v : Value} (h : w.cell? a = some v) (hb : Below w.heap.size w wx) : wx.cell? a = some v := (hb.cell (World.block_lt_of_cell? _ _ h)).trans h
theorem box_alloc {w : World} {a : Addr} {v : Value} (o : Obj) (h : w.cell? a = some v) : (w.alloc o).cell? a = some v := box_later h (below_alloc (Below.refl _ _) o)
theorem box_lt {W : World} {a : Addr} {v : Value} (h : W.cell? a = some v) : a.block < W.heap.size := World.block_lt_of_cell? _ _ h
theorem start_any {P : Program} {ops : Array Oper} {Q : Exit → Act → World → Prop} {S : World → Prop} {ds : List Nat} {id n : Nat} {a : Act} {w : World} (l : Array Bool) (hm : P.follows .mixedOrders = true) (hn : ops.size = n) (hl : Array.replicate n false = l) (hS : S w.drew)
    (h : ∀ w', Below w.heap.size w w' → S w' → wpAnyLast P .any ops Q S ds n l a w') : (Code.region id ops true).wp P Q a w :=
  start_ l hm hn hl hS (fun hS => h _ (below_drew (Below.refl _ _)) hS)
theorem calls_at {P : Program} {f : FuncId} {vs vs' : Array Value} {w : World} {Q : Ending → World → Prop} (h : vs' = vs) (hc : Calls P f vs' w Q) : Calls P f vs w Q := h ▸ hc
end Go.Proofs.Ytmlbihhaikknnaa.Bx

/- What an argument reads as, kind by kind: out of the reading of a datum (DataW.trod) comes the reading by the print's kinds (Kd.K). No condition. -/
namespace Go.Proofs.Ytmlbihhaikknnaa.Open
open Go.RowKit Go.Deep Go.ChangeShapes Go.WideShapes Go.Proofs.YtmlbihhaikknnaaW.PrintWords
set_option linter.unusedVariables false
set_option linter.unusedSimpArgs false
def Opn (P : Program) {α : Type} (d : Kd α) (F : α → Prop) (t : TypeId) : Prop :=
  ∀ (H : Type) (enc : TypeId × Value → H) (w : World) (fuel : Nat) (cs : List Value) (x : DataW H × List MemPlace),
    DataW.trod enc P w 0 (fun _ => true) true fuel t cs = some x → ∃ y, d.K w y cs ∧ F y
theorem op_int {P : Program} {k : IntKind} {t : TypeId} (ht : P.underlying t = some (.int k)) : Opn P (Kd.int k) (fun n => (Lit.int k n).wf = true) t := by
  intro H enc w fuel cs x h
  obtain ⟨n, rfl, _, hw⟩ := DataW.trod_int ht h
  exact ⟨n, rfl, hw⟩
theorem op_bool {P : Program} {t : TypeId} (ht : P.underlying t = some .bool) : Opn P Kd.bool (fun _ => True) t := by
  intro H enc w fuel cs x h
  obtain ⟨n, rfl, _⟩ := DataW.trod_bool ht h
  exact ⟨n, rfl, trivial⟩
theorem list_of {α : Type} {p : Nat → α → Prop} : ∀ {n : Nat}, (∀ i, i < n → ∃ x, p i x) → ∃ l : List α, l.length = n ∧ ∀ i x, l[i]? = some x → p i x
  | 0, _ => ⟨[], rfl, fun i x h => by simp at h⟩
  | n + 1, h => by
    obtain ⟨l, hl, hp⟩ := list_of (n := n) (fun i hi => h i (by omega))
    obtain ⟨x, hx⟩ := h n (by omega)
    refine ⟨l ++ [x], by simp [hl], fun i y hy => ?_⟩
    rcases Nat.lt_or_ge i l.length with hi | hi
    · rw [List.getElem?_append_left hi] at hy
      exact hp i y hy
    · rw [List.getElem?_append_right hi] at hy
      have : i - l.length = 0 := by
        have := (List.getElem?_eq_some_iff.1 hy).1
        simp at this
        omega
      rw [this] at hy
      simp at hy
      subst hy
      have : i = n := by omega
      rw [this]
      exact hx
theorem op_slice {P : Program} {α : Type} {d : Kd α} {F : α → Prop} {t e : TypeId} (ht : P.underlying t = some (.slice e)) (hc : P.cellsOf e = d.sz) (ho : Opn P d F e) :
    Opn P (Kd.slice e d) (fun l => l.length < 9223372036854775808 ∧ ∀ x ∈ l, F x) t := by
  intro H enc w fuel cs x h
  rcases open_slice ht h with ⟨rfl, _⟩ | ⟨a, len, cap, m, n, D, Pl, rfl, _, hl, hm, hmm, _, hx⟩
  · exact ⟨[], ⟨none, 0, rfl, Nat.le_refl _, rfl, by simp, fun h0 => absurd h0 (by simp)⟩, by simp, fun x hx => absurd hx (by simp)⟩
  · simp only [if_true] at hmm
    subst hmm
    have each : ∀ i, i < len → ∃ y : α, F y ∧ ∃ c, c.length = d.sz ∧ d.K w y c ∧ ∀ j u, c[j]? = some u → w.cell? (a.add (i * d.sz + j)) = some u := by
      intro i hi
      obtain ⟨cs', h1, h2⟩ := hx i (by omega)
      obtain ⟨y, hy, hF⟩ := ho H enc w n cs' _ h2
      rw [hc] at h1
      obtain ⟨_, hlen, hcell⟩ := World.cells?_some h1
      refine ⟨y, hF, cs', hlen, hy, fun j u hj => ?_⟩
      have hj' : j < d.sz := by
        have := (List.getElem?_eq_some_iff.1 hj).1
        omega
      have := hcell j hj'
      rw [Deep.add_add] at this
      rw [this, hj]
    obtain ⟨ys, hn, hy⟩ := list_of each
    refine ⟨ys, ⟨some a, m, ?_, ?_, ?_⟩, ?_, ?_⟩
    · rw [hn]
    · omega
    · refine ⟨rfl, ?_, fun _ => ⟨a, rfl, fun j p hj => (hy j p hj).2⟩⟩
      have : m ≤ 9223372036854775807 := hm
      omega
    · have : m ≤ 9223372036854775807 := hm
      omega
    · intro x hx
      obtain ⟨i, hi⟩ := List.getElem?_of_mem hx
      exact (hy i x hi).1
def Sg (P : Program) {α : Type} (d : Kd α) (F : α → Prop) (fs : List Field) (off : Nat) : Prop :=
  ∀ (H : Type) (enc : TypeId × Value → H) (w : World) (n : Nat) (cs : List Value),
    (∀ f ∈ fs, ∃ y, DataW.trod enc P w 0 (fun _ => true) true n f.type ((cs.drop f.offset).take (P.cellsOf f.type)) = some y) → ∃ y, d.K w y ((cs.drop off).take d.sz) ∧ F y
theorem sg_one {P : Program} {α : Type} {d : Kd α} {F : α → Prop} {f : Field} {off : Nat} (hf : f.offset = off) (hc : P.cellsOf f.type = d.sz) (ho : Opn P d F f.type) : Sg P d F [f] off := by
  intro H enc w n cs h
  obtain ⟨y, hy⟩ := h f (by simp)
  rw [hf, hc] at hy
  exact ho H enc w n _ _ hy
theorem sg_cons {P : Program} {α β : Type} {d : Kd α} {d2 : Kd β} {F : α → Prop} {F2 : β → Prop} {f : Field} {fs : List Field} {off : Nat} (hf : f.offset = off) (hc : P.cellsOf f.type = d.sz) (ho : Opn P d F f.type)
    (hr : Sg P d2 F2 fs (off + d.sz)) : Sg P (Kd.pair d d2) (fun x => F x.1 ∧ F2 x.2) (f :: fs) off := by
  intro H enc w n cs h
  obtain ⟨y, hy, hF⟩ := sg_one hf hc ho H enc w n cs (fun g hg => h g (by simp at hg; simp [hg]))
  obtain ⟨y2, hy2, hF2⟩ := hr H enc w n cs (fun g hg => h g (by simp [hg]))
  refine ⟨(y, y2), ⟨_, _, ?_, hy, hy2⟩, hF, hF2⟩
  show (cs.drop off).take (d.sz + d2.sz) = _
  rw [List.take_add, List.drop_drop]
theorem op_struct {P : Program} {α β : Type} {d : Kd α} {F : α → Prop} {t : TypeId} {fs : Array Field} (g : β → α) (k : α → β) (hgk : ∀ x, g (k x) = x) (ht : P.underlying t = some (.struct fs)) (hc : P.cellsOf t = d.sz) (hs : Sg P d F fs.toList 0) :
    Opn P (Kd.iso d g) (fun x => F (g x)) t := by
  intro H enc w fuel cs x h
  obtain ⟨xs, n, _, rfl, hl, hlen, hf⟩ := DataW.trod_struct ht h
  have hcs : (cs.drop 0).take d.sz = cs := by
    rw [List.drop_zero, List.take_of_length_le (by omega)]
  obtain ⟨y, hy, hF⟩ := hs H enc w n cs (fun f hfm => by
    obtain ⟨i, hi⟩ := List.getElem?_of_mem hfm
    have := hf i f (by simpa using hi)
    have hi2 : i < xs.length := by
      have := (List.getElem?_eq_some_iff.1 hi).1
      simp at this
      omega
    rw [List.getElem?_eq_getElem hi2] at this
    exact ⟨_, this⟩)
  rw [hcs] at hy
  exact ⟨k y, by show d.K w (g (k y)) cs; rw [hgk]; exact hy, by show F (g (k y)); rw [hgk]; exact hF⟩
end Go.Proofs.Ytmlbihhaikknnaa.Open
