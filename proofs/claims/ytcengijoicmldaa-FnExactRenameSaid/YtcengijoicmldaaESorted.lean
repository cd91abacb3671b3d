/- slices.Sorted(slices.Values(l)) over numbers, the rest: the box of the slice, Collect, Sort. Conditions: a length that Go can make room for. -/

import Derived.Test.YtcengijoicmldaaFVals
namespace Go.Proofs.Ytcengijoicmldaa.Pr
open Go.RowKit Go.Shelf Go.Proofs Go.Proofs.YtcengijoicmldaaW.PrintWords Go.Proofs.YtcengijoicmldaaW.PrintLast Go.Proofs.YtcengijoicmldaaW.PrintMore
set_option linter.unusedVariables false
set_option linter.unusedSimpArgs false
attribute [local go_sem] Oper.semAt_some
set_option maxRecDepth 100000 in
set_option maxHeartbeats 1000000 in
theorem values_in (F : Fence) (n : Nat) (hf : F.fn 51) (hro : F.round = none) (A : Option Addr) (len cap : Nat) (w : World) :
    CallsIn F n Try.prog 51 #[.slice A len cap] w fun e w' => e = .returned (.func (.func 73) #[] #[.pointer (some ⟨w.heap.size, 0, none⟩)]) ∧ w' = w.alloc (.cells #[.slice A len cap] 24) := by
  refine callsIn_of_wp Try.func51 rfl hf ?_ hro
  simp only [Try.ntmps51, List.size_toArray, List.length_cons, List.length_nil, Nat.reduceAdd, Nat.reduceSub, Array.replicate_succ, Array.replicate_zero, List.push_toArray, List.append_toArray, List.nil_append, List.cons_append]
  gi_wp2
  go_ret
  exact ⟨rfl, rfl⟩
set_option maxRecDepth 100000 in
set_option maxHeartbeats 1000000 in
theorem collect_calls (Bs n₀ c : Nat) (A : Option Addr) (l : List Int) (hbytes : l.length * 8 ≤ 140737488355328) (w : World) (hn₀ : n₀ ≤ w.heap.size)
    (hX : ∀ X, Below n₀ w X → Kd.C (Kd.int .i64) X A l.length l) (hlt : Bs < w.heap.size) (hBs : w.cell? ⟨Bs, 0, none⟩ = some (.slice A l.length c)) :
    Calls Try.prog 71 #[.func (.func 73) #[] #[.pointer (some ⟨Bs, 0, none⟩)]] w fun e W' => ∃ v, e = .returned v ∧ W'.ownsRow w.heap.size 3 1 v l.length (l.map (Value.int .i64)) ∧ Below w.heap.size w W' := by
  go_enter Try.func71, Try.ntmps71
  go_wp2_with (go_at_call 82; refine (callsIn_wide.1 (appendSeq_in Fence.wide 3 trivial trivial rfl (Nat.le_refl _) Bs n₀ c A l hbytes w hn₀ hX hlt hBs)).mono ?_; rintro e w1 ⟨v, rfl, ho, hb⟩)
  go_ret
  exact ⟨_, rfl, ho, hb⟩
set_option maxRecDepth 100000 in
set_option maxHeartbeats 1000000 in
theorem sorted_calls (Bs n₀ c : Nat) (A : Option Addr) (l : List Int) (hbytes : l.length * 8 ≤ 140737488355328) (w : World) (hn₀ : n₀ ≤ w.heap.size)
    (hX : ∀ X, Below n₀ w X → Kd.C (Kd.int .i64) X A l.length l) (hlt : Bs < w.heap.size) (hBs : w.cell? ⟨Bs, 0, none⟩ = some (.slice A l.length c)) :
    Calls Try.prog 50 #[.func (.func 73) #[] #[.pointer (some ⟨Bs, 0, none⟩)]] w fun e W' => ∃ v, e = .returned v ∧ Kd.R (Kd.int .i64) 3 W' w.heap.size (fun _ => True) v (sortI l) ∧ Below w.heap.size w W' := by
  go_enter Try.func50, Try.ntmps50
  go_wp2_with (go_at_call 71; refine (collect_calls Bs n₀ c A l hbytes w hn₀ hX hlt hBs).mono ?_; rintro e w1 ⟨v, rfl, ho, hb⟩; obtain ⟨A1, c1, rfl⟩ := own_slice ho)
  have hR : Kd.R (Kd.int .i64) 3 w1 w.heap.size (fun _ => True) (.slice A1 l.length c1) l := Kd.R_of_own ho (fun _ _ => trivial)
  go_wp2_with (go_at_call 72; refine (SortInt (fun _ => True) _ l w w1 hb hR (by omega)).mono ?_; rintro e w2 ⟨rfl, hR2, hb2, -⟩)
  go_ret
  exact ⟨_, rfl, hR2, hb2⟩
end Go.Proofs.Ytcengijoicmldaa.Pr
