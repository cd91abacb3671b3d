/- Rows of a call's own whose blocks lie between two bounds: what other calls make, or write elsewhere, leaves them. No condition. -/
import Derived.Test.YtdnidldinafakaaWWords
import Derived.Test.YtdnidldinafakaaWApart
import Derived.Test.YtdnidldinafakaaWKept
import Derived.Test.YtdnidldinafakaaWLast
import Derived.Test.YtdnidldinafakaaWMore
namespace Go.Proofs.Ytdnidldinafakaa.Iv
open Go.RowKit Go.Proofs.YtdnidldinafakaaW.PrintWords
set_option linter.unusedVariables false
set_option linter.unusedSimpArgs false
def Ob {α : Type} (d : Kd α) (e : Nat) (w : World) (lo hi : Nat) (q : Nat → Prop) (v : Value) (xs : List α) : Prop :=
  Kd.S d e w lo (fun k => k < hi ∧ q k) v xs ∧ hi ≤ w.heap.size
section
variable {α : Type} {d : Kd α} {e lo hi lo2 hi2 : Nat} {q ok : Nat → Prop} {w w1 W : World} {v : Value} {xs : List α}
theorem Ob.of_S (h : Kd.S d e w1 W.heap.size ok v xs) (hq : ∀ k, ok k → q k) : Ob d e w1 W.heap.size w1.heap.size q v xs :=
  ⟨Kd.S_mono (Kd.S_bound h) (fun k hk => ⟨hk.2.2.1, hq k hk.1⟩), Nat.le_refl _⟩
theorem Ob.below (h : Ob d e w lo hi q v xs) (hb : Below w.heap.size w w1) : Ob d e w1 lo hi q v xs := ⟨Kd.S_below h.1 hb, Nat.le_trans h.2 hb.size⟩
theorem Ob.alloc (h : Ob d e w lo hi q v xs) (o : Obj) : Ob d e (w.alloc o) lo hi q v xs := h.below (below_alloc (Below.refl _ _) o)
theorem Ob.drew (h : Ob d e w lo hi q v xs) : Ob d e w.drew lo hi q v xs := h.below (below_drew (Below.refl _ _))
theorem Ob.drewN (h : Ob d e w lo hi q v xs) (m : Nat) : Ob d e (w.drewN m) lo hi q v xs := h.below (pw_below_drewN (Below.refl _ _) m)
theorem Ob.kept (h : Ob d e w lo hi q v xs) (hk : Kept w w1 (fun k => lo2 ≤ k ∧ k < hi2)) (hd : hi ≤ lo2 ∨ hi2 ≤ lo) : Ob d e w1 lo hi q v xs :=
  ⟨Kd.S_mono (Kd.S_kept (Kd.S_bound h.1) hk (fun k hk2 hs => by have := hk2.1.1; have := hk2.2.1; omega)) (fun k hk2 => hk2.1), Nat.le_trans h.2 hk.1⟩
theorem Ob.slice (h : Ob d e w lo hi q v xs) : ∃ A c, v = .slice A xs.length c := Kd.S_slice h.1
theorem Ob.C {A : Option Addr} {n c : Nat} (h : Ob d e w lo hi q (.slice A n c) xs) : d.C w A xs.length xs := (Kd.S_reads' h.1).2.2
theorem Ob.le {A : Option Addr} {n c : Nat} (h : Ob d e w lo hi q (.slice A n c) xs) : xs.length ≤ c := by
  have := (Kd.S_reads' h.1)
  omega
theorem Ob.R (h : Ob d e w lo hi q v xs) : d.R e w lo (fun k => k < hi ∧ q k) v xs := Kd.S_R h.1
theorem Ob.size (h : Ob d e w lo hi q v xs) : hi ≤ w.heap.size := h.2
theorem Ob.mono {q2 : Nat → Prop} (h : Ob d e w lo hi q v xs) (hq : ∀ k, q k → q2 k) : Ob d e w lo hi q2 v xs := ⟨Kd.S_mono h.1 (fun k hk => ⟨hk.1, hq k hk.2⟩), h.2⟩
theorem Ob.V {A : Option Addr} {n c e' base : Nat} (h : Ob d e w lo hi q (.slice A n c) xs) : Kd.V d e' w base (fun k => k < hi ∧ q k) (.slice A xs.length c) xs := by
  have hl := Kd.S_reads' h.1
  obtain ⟨h1, h2, h3⟩ := hl
  subst h1
  exact Kd.V_mk h2 (Kd.S_F h.1)
end
def ObV {α : Type} (d : Kd α) (e : Nat) (w : World) (hi : Nat) (v : Value) (xs : List α) : Prop := Kd.V d e w 0 (fun k => k < hi) v xs ∧ hi ≤ w.heap.size
section
variable {α : Type} {d : Kd α} {e base hi lo2 hi2 : Nat} {ok : Nat → Prop} {w w1 : World} {v : Value} {xs : List α}
theorem ObV.of_V (h : Kd.V d e w1 base ok v xs) : ObV d e w1 w1.heap.size v xs := ⟨Kd.V_mono (Kd.V_lower (Kd.V_bound h) (Nat.zero_le _)) (fun k hk => hk.2), Nat.le_refl _⟩
theorem ObV.below (h : ObV d e w hi v xs) (hb : Below w.heap.size w w1) : ObV d e w1 hi v xs := ⟨Kd.V_below h.1 hb, Nat.le_trans h.2 hb.size⟩
theorem ObV.kept (h : ObV d e w hi v xs) (hk : Kept w w1 (fun k => lo2 ≤ k ∧ k < hi2)) (hd : hi ≤ lo2) : ObV d e w1 hi v xs :=
  ⟨Kd.V_kept h.1 hk (fun k hk2 hs => by have := hs.1; omega), Nat.le_trans h.2 hk.1⟩
theorem ObV.slice (h : ObV d e w hi v xs) : ∃ A c, v = .slice A xs.length c := Kd.V_slice h.1
theorem ObV.C {A : Option Addr} {n c : Nat} (h : ObV d e w hi (.slice A n c) xs) : d.C w A xs.length xs := (Kd.V_reads' h.1).2.2
theorem ObV.le {A : Option Addr} {n c : Nat} (h : ObV d e w hi (.slice A n c) xs) : xs.length ≤ c := by
  have := Kd.V_reads' h.1
  omega
theorem ObV.size (h : ObV d e w hi v xs) : hi ≤ w.heap.size := h.2
end
end Go.Proofs.Ytdnidldinafakaa.Iv
namespace Go.Proofs.Ytdnidldinafakaa.Bx
open Go.RowKit Go.Proofs.YtdnidldinafakaaW.PrintWords Go.Proofs.YtdnidldinafakaaW.PrintLast
set_option linter.unusedVariables false
set_option linter.unusedSimpArgs false
theorem box_new (W : World) (cs : Array Value) (t : TypeId) (j : Nat) (v : Value) (h : cs[j]? = some v) : (W.alloc (.cells cs t)).cell? ⟨W.heap.size, j, none⟩ = some v := (blk_cell (blk_new W (.cells cs t)) j).trans h
theorem box_later {w wx : World} {a : Addr} {v : Value} (h : w.cell? a = some v) (hb : Below w.heap.size w wx) : wx.cell? a = some v := (hb.cell (World.block_lt_of_cell? _ _ h)).trans h
theorem start_any {P : Program} {ops : Array Oper} {Q : Exit → Act → World → Prop} {S : World → Prop} {ds : List Nat} {id n : Nat} {a : Act} {w : World} (l : Array Bool) (hm : P.follows .mixedOrders = true) (hn : ops.size = n) (hl : Array.replicate n false = l) (hS : S w.drew)
    (h : ∀ w', Below w.heap.size w w' → S w' → wpAnyLast P .any ops Q S ds n l a w') : (Code.region id ops true).wp P Q a w :=
  start_ l hm hn hl hS (fun hS => h _ (below_drew (Below.refl _ _)) hS)
theorem calls_at {P : Program} {f : FuncId} {vs vs' : Array Value} {w : World} {Q : Ending → World → Prop} (h : vs' = vs) (hc : Calls P f vs' w Q) : Calls P f vs w Q := h ▸ hc
end Go.Proofs.Ytdnidldinafakaa.Bx
