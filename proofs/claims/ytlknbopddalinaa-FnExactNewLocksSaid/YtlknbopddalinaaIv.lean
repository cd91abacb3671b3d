/- Rows of a call's own whose blocks lie between two bounds: what other calls make, or write elsewhere, leaves them. No condition. -/
import Derived.Test.YtlknbopddalinaaWWords
import Derived.Test.YtlknbopddalinaaWApart
import Derived.Test.YtlknbopddalinaaWKept
namespace Go.Proofs.Ytlknbopddalinaa.Iv
open Go.RowKit Go.Proofs.YtlknbopddalinaaW.PrintWords
set_option linter.unusedVariables false
set_option linter.unusedSimpArgs false

/-- A row of one's own: its blocks lie from lo on and below hi, and q holds of them. -/
def Ob {α : Type} (d : Kd α) (e : Nat) (w : World) (lo hi : Nat) (q : Nat → Prop) (v : Value) (xs : List α) : Prop :=
  Kd.S d e w lo (fun k => k < hi ∧ q k) v xs ∧ hi ≤ w.heap.size
section
variable {α : Type} {d : Kd α} {e lo hi lo2 hi2 : Nat} {q ok : Nat → Prop} {w w1 W : World} {v : Value} {xs : List α}
theorem Ob.of_S (h : Kd.S d e w1 W.heap.size ok v xs) (hq : ∀ k, ok k → q k) : Ob d e w1 W.heap.size w1.heap.size q v xs :=
  ⟨Kd.S_mono (Kd.S_bound h) (fun k hk => ⟨hk.2.2.1, hq k hk.1⟩), Nat.le_refl _⟩
theorem Ob.of_Rint {k : IntKind} {xs : List Int} (h : (Kd.int k).R e w1 W.heap.size ok v xs) (hq : ∀ k, ok k → q k) : Ob (Kd.int k) e w1 W.heap.size w1.heap.size q v xs :=
  Ob.of_S (Kd.S_bare (d := Kd.int k) (show (Kd.bare (Kd.int k)).R e w1 W.heap.size ok v xs from h)) hq
theorem Ob.lo_le (h : Ob d e w lo hi q v xs) (k : Nat) (hk : v.ownBlock = some k) : lo ≤ k ∧ k < hi := by
  have h2 := Kd.S_R h.1
  exact ⟨Kd.R_base h2 k hk, (h2.1 k hk).1⟩
theorem Ob.below (h : Ob d e w lo hi q v xs) (hb : Below w.heap.size w w1) : Ob d e w1 lo hi q v xs := ⟨Kd.S_below h.1 hb, Nat.le_trans h.2 hb.size⟩
theorem Ob.alloc (h : Ob d e w lo hi q v xs) (o : Obj) : Ob d e (w.alloc o) lo hi q v xs := h.below (below_alloc (Below.refl _ _) o)
theorem Ob.drew (h : Ob d e w lo hi q v xs) : Ob d e w.drew lo hi q v xs := h.below (below_drew (Below.refl _ _))
theorem Ob.drewN (h : Ob d e w lo hi q v xs) (m : Nat) : Ob d e (w.drewN m) lo hi q v xs := h.below (pw_below_drewN (Below.refl _ _) m)
/-- What lies elsewhere is written. -/
theorem Ob.kept (h : Ob d e w lo hi q v xs) (hk : Kept w w1 (fun k => lo2 ≤ k ∧ k < hi2)) (hd : hi ≤ lo2 ∨ hi2 ≤ lo) : Ob d e w1 lo hi q v xs :=
  ⟨Kd.S_mono (Kd.S_kept (Kd.S_bound h.1) hk (fun k hk2 hs => by have := hk2.1.1; have := hk2.2.1; omega)) (fun k hk2 => hk2.1), Nat.le_trans h.2 hk.1⟩
theorem Ob.slice (h : Ob d e w lo hi q v xs) : ∃ A c, v = .slice A xs.length c := Kd.S_slice h.1
theorem Ob.C {A : Option Addr} {n c : Nat} (h : Ob d e w lo hi q (.slice A n c) xs) : d.C w A xs.length xs := (Kd.S_reads' h.1).2.2
theorem Ob.le {A : Option Addr} {n c : Nat} (h : Ob d e w lo hi q (.slice A n c) xs) : xs.length ≤ c := by
  have := (Kd.S_reads' h.1)
  omega
theorem Ob.R (h : Ob d e w lo hi q v xs) : d.R e w lo (fun k => k < hi ∧ q k) v xs := Kd.S_R h.1
theorem Ob.size (h : Ob d e w lo hi q v xs) : hi ≤ w.heap.size := h.2
theorem Ob.mono {q2 : Nat → Prop} (h : Ob d e w lo hi q v xs) (hq : ∀ k, q k → q2 k) : Ob d e w lo hi q2 v xs := ⟨Kd.S_mono h.1 (fun k hk => ⟨hk.1, hq k hk.2⟩), h.2⟩
end
/-- The world behind a write within bounds that lie behind the entry's. -/
theorem kept_le {w W : World} {S : Nat → Prop} (h : Kept w W S) : w.heap.size ≤ W.heap.size := h.1
end Go.Proofs.Ytlknbopddalinaa.Iv
