/- Several small texts together: Pm, Mx0. No condition but those they name. -/
import Derived.Test.YtmlbihhaikknnaaWWords
import Derived.Laws.IdiomCopy
import Derived.Test.YtmlbihhaikknnaaMx6
import Derived.Sort.OwnSorted
import Derived.ChangeSame
import Derived.Test.YtmlbihhaikknnaaPr0
import Derived.KernelRfl
/- Small words on memory that the kit lacks: clear on a slice of elements of several cells; a row of one's own cut short, what lies behind it overwritten. -/
namespace Go.Proofs.Ytmlbihhaikknnaa.Pm
open Go.RowKit Go.Proofs.YtmlbihhaikknnaaW.PrintWords
set_option linter.unusedVariables false
set_option linter.unusedSimpArgs false
theorem zeroCells_len (zc : Array Value) (n : Nat) : (Builtin.zeroCells zc n).toList.length = n * zc.size := by simp [Builtin.zeroCells]
theorem zeroCells_one (zc : Array Value) (n : Nat) (h1 : ∀ u ∈ zc, u.oneCell' = true) : ∀ u ∈ (Builtin.zeroCells zc n).toList, u.oneCell' = true := by
  intro u hu
  simp only [Builtin.zeroCells, Array.toList_map, List.mem_map] at hu
  obtain ⟨i, hi, rfl⟩ := hu
  have hi2 : i < n * zc.size := by simpa using hi
  have hpos : 0 < zc.size := by
    rcases Nat.eq_zero_or_pos zc.size with h | h
    · rw [h] at hi2
      simp at hi2
    · exact h
  have hlt : i % zc.size < zc.size := Nat.mod_lt _ hpos
  rw [getElem!_pos zc _ hlt]
  exact h1 _ (Array.getElem_mem hlt)
theorem run_clear {P : Program} (w : World) (t e ty : TypeId) (z : Value) (ht : P.underlying t = some (.slice e)) (hv : ∀ w, (zeroValue e).run P w = .ok z w) (h1 : ∀ u ∈ z.cells, u.oneCell' = true) (b o n c : Nat) (hn : 0 < n)
    (hc : ∀ j, j < n * z.cells.size → (w.cell? ⟨b, o + j, none⟩).isSome = true) (hf : ∀ j, j < n * z.cells.size → w.frozen? ⟨b, o + j, none⟩ = false) :
    ∃ L : List Value, L.length = n * z.cells.size ∧ (Builtin.clear_ #[t] ty #[.slice (some ⟨b, o, none⟩) n c]).run P w = .ok (.tuple #[]) (w.setCells b o L) := by
  refine ⟨(Builtin.zeroCells z.cells n).toList, zeroCells_len _ _, ?_⟩
  have hst := run_storeCells_cells (P := P) b o (Builtin.zeroCells z.cells n).toList 0 w (by rw [zeroCells_len]; simpa using hc) (by rw [zeroCells_len]; simpa using hf) (zeroCells_one _ _ h1)
  simp only [Nat.add_zero] at hst
  obtain ⟨m, rfl⟩ : ∃ m, n = m + 1 := ⟨n - 1, by omega⟩
  simp [Builtin.clear_, run_underlying ht, hv, hst]
section
variable {α : Type} {d : Kd α} {e base g n cap : Nat} {ok : Nat → Prop} {W : World} {xs : List α}
theorem R_behind (h : d.R e W base ok (.slice (some ⟨g, 0, none⟩) n cap) xs) (m : Nat) (hm : m ≤ n) (L : List Value) (hL : m * d.sz + L.length ≤ cap * d.sz) :
    d.R e (W.setCells g (m * d.sz) L) base ok (.slice (some ⟨g, 0, none⟩) m cap) (xs.take m) ∧ W.grownBy (W.setCells g (m * d.sz) L) (some g) := by
  obtain ⟨hn, hnc, _⟩ := Kd.R_reads' h
  obtain ⟨hok, inner, ho, hr⟩ := Kd.R_take (m := m) h (by omega)
  obtain ⟨ho1, ho2⟩ := ho
  have hml : (xs.take m).length = m := by rw [List.length_take]; omega
  rcases ho2 with ⟨hv, _⟩ | ⟨g', cap', cur, hv, hb, hh, hnc', hcm, hcs, ht⟩
  · cases hv
  injection hv with ha _ hc
  injection ha with ha
  injection ha with hg
  subst hg; subst hc
  obtain ⟨cur', h3, h4, h5⟩ := setCells_row L (m * d.sz) W cur hh (by omega)
  obtain ⟨s1, s2, s3, s4⟩ := setCells_same g L (m * d.sz) W
  have hfar : ∀ k, k ≠ g → (W.setCells g (m * d.sz) L).heap[k]? = W.heap[k]? := fun k hk => setCells_far L _ k hk
  refine ⟨⟨hok, inner, ⟨ho1, .inr ⟨g, cap, cur', by rw [hml], hb, h3, hnc', hcm, by rw [h4, hcs], ?_⟩⟩, hr.imp_ (fun p c hp => d.M_move (fun k hk => hfar k (fun he => hk.2 (by rw [he]; simp [Value.ownBlock]))) hp)⟩,
    ⟨s1, s2, s3, by rw [s4]; exact Nat.le_refl _, fun k _ hk => hfar k (fun he => hk (by rw [he]))⟩⟩
  rw [hml] at ht ⊢
  have hle : m * d.sz ≤ cap * d.sz := by omega
  rw [h5, List.append_assoc, List.take_append_of_le_length (by rw [List.length_take, Array.length_toList]; omega), List.take_take, Nat.min_self, ht]
end
end Go.Proofs.Ytmlbihhaikknnaa.Pm

/- Several small texts together: Sp, Ops. No condition but those they name. -/
/- A row of the call's own whose elements (of one cell) are put into another order. No condition. -/

namespace Go.Proofs.Ytmlbihhaikknnaa.Sp
open Go.RowKit Go.Proofs.YtmlbihhaikknnaaW.PrintWords Go.Proofs.YtmlbihhaikknnaaW.PrintLast Go.Proofs.YtmlbihhaikknnaaW.PrintMore
set_option linter.unusedVariables false
set_option linter.unusedSimpArgs false
open Go.Sort
section
variable {α : Type} [Inhabited α] (enc : α → Value)
theorem holds_of {w : World} {g : Nat} {cur : Array Value} {e : TypeId} {ss : List α} (hb : w.heap[g]? = some (.cells cur e (0, 0))) (ht : cur.toList.take ss.length = ss.map enc) : Holds enc w g 0 ss.toArray := by
  intro j hj
  have hj2 : j < ss.length := by simpa using hj
  have h1 : cur[j]? = some (enc ss[j]) := by
    have h2 := congrArg (fun l => l[j]?) ht
    simp only [List.getElem?_take_of_lt hj2, Array.getElem?_toList, List.getElem?_map, List.getElem?_eq_getElem hj2, Option.map_some] at h2
    exact h2
  constructor
  · rw [blk_cell hb, Nat.zero_add, h1]
    simp [hj2]
  · rw [blk_frozen hb]
theorem put_heap {w : World} {g n : Nat} {os : Array Obj} {cur : Array Value} {e : TypeId} (d : Array α) (hb : w.heap[g]? = some (.cells cur e (0, 0))) :
    (grow (putRow enc (Sort.ahead w n) g 0 d) os).heap[g]? = some (.cells (putCells enc 0 d cur) e (0, 0)) := by
  rw [heap_grow_old _ _ (by have := blk_lt hb; simpa using this)]
  simp [putRow, mapBlock, Sort.ahead, Array.getElem?_modify, hb, onCells]
theorem put_grown {w : World} {g n : Nat} {os : Array Obj} (d : Array α) : w.grownBy (grow (putRow enc (Sort.ahead w n) g 0 d) os) (some g) := by
  refine ⟨rfl, rfl, rfl, by simp, fun k hk hne => ?_⟩
  have h1 : g ≠ k := fun e => hne (congrArg some e.symm)
  rw [heap_grow_old _ _ (by simpa using hk)]
  simp [putRow, mapBlock, Sort.ahead, Array.getElem?_modify, h1]
end
end Go.Proofs.Ytmlbihhaikknnaa.Sp

/- Each struct type among the laws' parameters: what it reads as. No condition. -/
namespace Go.Proofs.Ytmlbihhaikknnaa.Ops
open Go.RowKit Go.Proofs.YtmlbihhaikknnaaW.PrintWords Go.Proofs.Ytmlbihhaikknnaa.Open Go.Proofs.Ytmlbihhaikknnaa.Pr
set_option linter.unusedVariables false
def Fii64 (x : Int) : Prop := (Lit.int .i64 x).wf = true
def Fb (x : Bool) : Prop := True
def F45 (x : S45) : Prop := Fb x.f0 ∧ Fii64 x.f1
def FL45 (x : (List S45)) : Prop := x.length < 9223372036854775808 ∧ ∀ e_ ∈ x, F45 e_
def F49 (x : S49) : Prop := Fii64 x.f0 ∧ FL45 x.f1
def FL49 (x : (List S49)) : Prop := x.length < 9223372036854775808 ∧ ∀ e_ ∈ x, F49 e_
theorem op45 : Opn Try.prog k45 F45 45 := op_struct _ (fun x => ⟨x.1, x.2⟩) (fun x => rfl) Try.underlying45 (by kernel_rfl) (sg_cons rfl (by kernel_rfl) (op_bool Try.underlying4) (sg_one rfl (by kernel_rfl) (op_int Try.underlying3)))
theorem op49 : Opn Try.prog k49 F49 49 := op_struct _ (fun x => ⟨x.1, x.2⟩) (fun x => rfl) Try.underlying49 (by kernel_rfl) (sg_cons rfl (by kernel_rfl) (op_int Try.underlying3) (sg_one rfl (by kernel_rfl) (op_slice Try.underlying22 (by kernel_rfl) op45)))
end Go.Proofs.Ytmlbihhaikknnaa.Ops
