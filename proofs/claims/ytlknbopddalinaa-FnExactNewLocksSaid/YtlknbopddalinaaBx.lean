/- Boxes of variables: their cells in the worlds behind them. No condition. -/
import Derived.Test.YtlknbopddalinaaIv
import Derived.Test.YtlknbopddalinaaWLast
namespace Go.Proofs.Ytlknbopddalinaa.Bx
open Go.RowKit Go.Proofs.YtlknbopddalinaaW.PrintWords Go.Proofs.YtlknbopddalinaaW.PrintLast
set_option linter.unusedVariables false
set_option linter.unusedSimpArgs false
theorem box_new (W : World) (cs : Array Value) (t : TypeId) (j : Nat) (v : Value) (h : cs[j]? = some v) : (W.alloc (.cells cs t)).cell? ⟨W.heap.size, j, none⟩ = some v := (blk_cell (blk_new W (.cells cs t)) j).trans h
theorem box_new' (W : World) (cs : Array Value) (t : TypeId) (j : Nat) (v : Value) (n : Nat) (hn : n = W.heap.size) (h : cs[j]? = some v) : (W.alloc (.cells cs t)).cell? ⟨n, j, none⟩ = some v := hn ▸ box_new W cs t j v h
theorem box_later {w wx : World} {a : Addr} {v : Value} (h : w.cell? a = some v) (hb : Below w.heap.size w wx) : wx.cell? a = some v := (hb.cell (World.block_lt_of_cell? _ _ h)).trans h
theorem box_alloc {w : World} {a : Addr} {v : Value} (o : Obj) (h : w.cell? a = some v) : (w.alloc o).cell? a = some v := box_later h (below_alloc (Below.refl _ _) o)
theorem box_kept {W W2 : World} {lo hi : Nat} {a : Addr} {v : Value} (h : W.cell? a = some v) (hk : Kept W W2 (fun k => lo ≤ k ∧ k < hi)) (hd : a.block < lo ∨ hi ≤ a.block) : W2.cell? a = some v :=
  cell_kept h hk (fun hs => by have := hs.1; have := hs.2; omega)
theorem box_lt {W : World} {a : Addr} {v : Value} (h : W.cell? a = some v) : a.block < W.heap.size := World.block_lt_of_cell? _ _ h
/-- A drawn region's start, the world behind it a variable. -/
theorem start_any {P : Program} {ops : Array Oper} {Q : Exit → Act → World → Prop} {S : World → Prop} {ds : List Nat} {id n : Nat} {a : Act} {w : World} (l : Array Bool) (hm : P.follows .mixedOrders = true) (hn : ops.size = n) (hl : Array.replicate n false = l) (hS : S w.drew)
    (h : ∀ w', Below w.heap.size w w' → S w' → wpAnyLast P .any ops Q S ds n l a w') : (Code.region id ops true).wp P Q a w :=
  start_ l hm hn hl hS (fun hS => h _ (below_drew (Below.refl _ _)) hS)
theorem calls_at {P : Program} {f : FuncId} {vs vs' : Array Value} {w : World} {Q : Ending → World → Prop} (h : vs' = vs) (hc : Calls P f vs' w Q) : Calls P f vs w Q := h ▸ hc
end Go.Proofs.Ytlknbopddalinaa.Bx
