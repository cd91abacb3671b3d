/- A row of the call's own whose elements (of one cell) are put into another order. No condition. -/
import Derived.Test.YtcengijoicmldaaIv
import Derived.Sort.OwnSorted
import Derived.ChangeSame
namespace Go.Proofs.Ytcengijoicmldaa.Sp
open Go.RowKit Go.Proofs.YtcengijoicmldaaW.PrintWords Go.Proofs.YtcengijoicmldaaW.PrintLast Go.Proofs.YtcengijoicmldaaW.PrintMore
set_option linter.unusedVariables false
set_option linter.unusedSimpArgs false
theorem S_perm {α : Type} {d : Kd α} {e base g n cap : Nat} {ok : Nat → Prop} {W : World} {xs : List α} (hsz : d.sz = 1) (z : α) (h : Kd.S d e W base ok (.slice (some ⟨g, 0, none⟩) n cap) xs) :
  ∃ inner : List Value, inner.length = xs.length ∧ W.ownsRow base e 1 (.slice (some ⟨g, 0, none⟩) n cap) xs.length inner ∧ (∀ i, i < xs.length → ∀ W2 : World, W.grownBy W2 (some g) → d.M W2 base ok (xs.getD i z) [inner.getD i undef]) ∧
   ∀ (σ : List Nat), σ.Nodup → (∀ i ∈ σ, i < xs.length) → ∀ (W2 : World) (n2 : Nat), W.grownBy W2 (some g) → W2.ownsRow base e 1 (.slice (some ⟨g, 0, none⟩) n2 cap) σ.length (σ.map fun i => inner.getD i undef) → Kd.S d e W2 base ok (.slice (some ⟨g, 0, none⟩) n2 cap) (σ.map fun i => xs.getD i z) := by
 obtain ⟨f, h0, inner, hown, hr⟩ := h
 rw [List.length_zipIdx, show (Kd.tag f d).sz = 1 from hsz] at hown
 have hl : inner.length = xs.length := by
  have := hr.1
  rw [List.length_zipIdx, show (Kd.tag f d).sz = 1 from hsz, Nat.mul_one] at this
  exact this
 refine ⟨inner, hl, hown, fun i hix W2 hg => ?_, fun σ hσn hσb W2 n2 hg hown2 => ?_⟩
 ·have hM := hr.2 i (xs.getD i z, i) (by rw [List.getElem?_zipIdx, List.getElem?_eq_getElem hix, Nat.zero_add]; simp [List.getD_eq_getElem?_getD, List.getElem?_eq_getElem hix])
  have hM3 := Kd.M_step hM (w1 := W2) (fun k hk hlt => hg.block k hlt (fun he => hk.2 (by injection he with he; rw [he]; rfl)))
  have hii : i < inner.length := by omega
  have a2 : (inner.drop (i * (Kd.tag f d).sz)).take (Kd.tag f d).sz = [inner.getD i undef] := by
   rw [show (Kd.tag f d).sz = 1 from hsz, Nat.mul_one, List.drop_eq_getElem_cons hii, List.getD_eq_getElem?_getD, List.getElem?_eq_getElem hii]
   rfl
  rw [a2] at hM3
  exact d.M_mono (fun k hk => hk.1.1) hM3
 refine ⟨fun k => σ.idxOf (f k), fun k hk => h0 k (by simpa [Value.ownBlock] using hk), σ.map (fun i => inner.getD i undef), ?_, ?_, fun m p hm => ?_⟩
 ·rw [List.length_zipIdx, List.length_map, show (Kd.tag (fun k => σ.idxOf (f k)) d).sz = 1 from hsz]
  exact hown2
 ·rw [List.length_zipIdx, List.length_map, List.length_map, show (Kd.tag (fun k => σ.idxOf (f k)) d).sz = 1 from hsz, Nat.mul_one]
 ·rw [List.getElem?_zipIdx, Nat.zero_add] at hm
  obtain ⟨q, hq, rfl⟩ := Option.map_eq_some_iff.1 hm
  rw [List.getElem?_map] at hq
  obtain ⟨i, hi, rfl⟩ := Option.map_eq_some_iff.1 hq
  have him : m < σ.length := (List.getElem?_eq_some_iff.1 hi).1
  have hie : σ[m] = i := (List.getElem?_eq_some_iff.1 hi).2
  have hix : i < xs.length := hσb i (hie ▸ List.getElem_mem him)
  have hM := hr.2 i (xs.getD i z, i) (by rw [List.getElem?_zipIdx, List.getElem?_eq_getElem hix, Nat.zero_add]; simp [List.getD_eq_getElem?_getD, List.getElem?_eq_getElem hix])
  have e1 : ((σ.map fun i => inner.getD i undef).drop (m * (Kd.tag (fun k => σ.idxOf (f k)) d).sz)).take (Kd.tag (fun k => σ.idxOf (f k)) d).sz = (inner.drop (i * (Kd.tag f d).sz)).take (Kd.tag f d).sz := by
   rw [show (Kd.tag (fun k => σ.idxOf (f k)) d).sz = 1 from hsz, show (Kd.tag f d).sz = 1 from hsz, Nat.mul_one, Nat.mul_one]
   have hii : i < inner.length := by omega
   have hmm : m < (σ.map fun i => inner.getD i undef).length := by rw [List.length_map]; exact him
   have a1 : ((σ.map fun i => inner.getD i undef).drop m).take 1 = [(σ.map fun i => inner.getD i undef)[m]] := by rw [List.drop_eq_getElem_cons hmm]; rfl
   have a2 : (inner.drop i).take 1 = [inner[i]] := by rw [List.drop_eq_getElem_cons hii]; rfl
   rw [a1, a2, List.getElem_map, hie, List.getD_eq_getElem?_getD, List.getElem?_eq_getElem hii]
   rfl
  rw [e1]
  have hM2 := (Kd.tag f d).M_bound hM
  have hM3 := Kd.M_step hM (w1 := W2) (fun k hk hlt => hg.block k hlt (fun he => hk.2 (by injection he with he; rw [he]; rfl)))
  show d.M W2 base _ _ _
  exact d.M_mono (fun k hk => ⟨⟨hk.1.1, fun he => hk.1.2 (by simpa [Value.ownBlock] using he)⟩, by
   have h3 : f k = i := hk.2
   show σ.idxOf (f k) = m
   rw [h3, ← hie]
   exact hσn.idxOf_getElem m him⟩) hM3
open Go.Sort
section
variable {α : Type} [Inhabited α] (enc : α → Value)
theorem holds_of {w : World} {g : Nat} {cur : Array Value} {e : TypeId} {ss : List α} (hb : w.heap[g]? = some (.cells cur e (0, 0))) (ht : cur.toList.take ss.length = ss.map enc) : Holds enc w g 0 ss.toArray := by
 intro j hj
 have hj2 : j < ss.length := by simpa using hj
 have h1 : cur[j]? = some (enc ss[j]) := by
  have h2 := congrArg (fun l => l[j]?) ht
  simp only [List.getElem?_take_of_lt hj2, Array.getElem?_toList, List.getElem?_map, List.getElem?_eq_getElem hj2, Option.map_some] at h2
  exact h2
 constructor
 ·rw [blk_cell hb, Nat.zero_add, h1]
  simp [hj2]
 ·rw [blk_frozen hb]
theorem put_heap {w : World} {g n : Nat} {os : Array Obj} {cur : Array Value} {e : TypeId} (d : Array α) (hb : w.heap[g]? = some (.cells cur e (0, 0))) :
  (grow (putRow enc (Sort.ahead w n) g 0 d) os).heap[g]? = some (.cells (putCells enc 0 d cur) e (0, 0)) := by
 rw [heap_grow_old _ _ (by have := blk_lt hb; simpa using this)]
 simp [putRow, mapBlock, Sort.ahead, Array.getElem?_modify, hb, onCells]
theorem put_grown {w : World} {g n : Nat} {os : Array Obj} (d : Array α) : w.grownBy (grow (putRow enc (Sort.ahead w n) g 0 d) os) (some g) := by
 refine ⟨rfl, rfl, rfl, by simp, fun k hk hne => ?_⟩
 have h1 : g ≠ k := fun e => hne (congrArg some e.symm)
 rw [heap_grow_old _ _ (by simpa using hk)]
 simp [putRow, mapBlock, Sort.ahead, Array.getElem?_modify, h1]
theorem put_owns {w : World} {base g cap n : Nat} {e : TypeId} {os : Array Obj} {cur : Array Value} {ts : List α} (hbase : base ≤ g) (hb : w.heap[g]? = some (.cells cur e (0, 0))) (h1 : ts.length ≤ cap) (h2 : cap ≤ maxLen) (h3 : cur.size = cap * 1) :
  (grow (putRow enc (Sort.ahead w n) g 0 ts.toArray) os).ownsRow base e 1 (.slice (some ⟨g, 0, none⟩) ts.length cap) ts.length (ts.map enc) := by
 refine ⟨by simp, .inr ⟨g, cap, _, rfl, hbase, put_heap enc _ hb, h1, h2, by simp [putCells, h3], ?_⟩⟩
 rw [Nat.mul_one]
 apply List.ext_getElem?
 intro j
 by_cases hj : j < ts.length
 ·rw [List.getElem?_take_of_lt hj, Array.getElem?_toList]
  simp [putCells, hj, show j < cur.size by omega]
 ·rw [List.getElem?_take_eq_none (by omega), List.getElem?_eq_none (by simp; omega)]
end
end Go.Proofs.Ytcengijoicmldaa.Sp
