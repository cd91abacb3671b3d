/- slices.Sorted(slices.Values(l)) over numbers: a new row of the same numbers, sorted. Conditions: a length that Go can make room for. -/

import Derived.Test.YtcengijoicmldaaPl
import Derived.Test.YtcengijoicmldaaFd
import Derived.Test.YtcengijoicmldaaPr0
import Derived.Test.YtcengijoicmldaaESortOnly
import Derived.Test.YtcengijoicmldaaIv
import Derived.RangeFuncNested
import Derived.RangeFuncBound
import Derived.RangeFuncCalls
import Derived.RangeFuncLeaves
import Derived.Maps.AppendAt
import Derived.Shelf.Abstract
import Derived.Shelf.RegionOpen
import Derived.WalkKit
import Derived.OwnWalkIn
import Derived.TacticsInMore
import Derived.LoopNIn
import Derived.LoopIn
namespace Go.Proofs.Ytcengijoicmldaa.Pr
open Go.RowKit Go.Shelf Go.Proofs Go.Proofs.YtcengijoicmldaaW.PrintWords Go.Proofs.YtcengijoicmldaaW.PrintLast Go.Proofs.YtcengijoicmldaaW.PrintMore
set_option linter.unusedVariables false
set_option linter.unusedSimpArgs false
attribute [local go_sem] Oper.semAt_some
set_option maxRecDepth 100000 in
set_option maxHeartbeats 4000000 in
theorem vals1 (F : Fence) (n : Nat) (hf : F.fn 73) (hro : F.round = none) (hn : 1 ≤ n) (ly Bs n₀ c : Nat) (A : Option Addr) (l : List Int) (hlen : l.length < 9223372036854775807) (J Jx : List Int → World → Prop)
    (hY : ∀ pre x W, J pre W → pre.length < l.length → YieldAt F (n - 1) Try.prog ly #[.int .i64 x] W fun e W' =>
      (e = .returned (.bool true) ∧ J (pre ++ [x]) W' ∧ Below n₀ W W') ∨ (e = .returned (.bool false) ∧ Jx (pre ++ [x]) W'))
    (W : World) (hX : ∀ X, Below n₀ W X → Kd.C (Kd.int .i64) X A l.length l) (hBs : W.cell? ⟨Bs, 0, none⟩ = some (.slice A l.length c)) (h0 : J [] W) :
    CallsIn F n Try.prog 73 #[.func (.yield ly) #[] #[], .pointer (some ⟨Bs, 0, none⟩)] W fun e W' => (∃ v, e = .returned v) ∧
      ((∃ ys, ys = l ∧ J ys W') ∨ (∃ pre, pre <+: l ∧ Jx pre W')) := by
  refine callsIn_of_wp Try.func73 rfl hf ?_ hro
  simp only [Try.ntmps73, List.size_toArray, List.length_cons, List.length_nil, Nat.reduceAdd, Nat.reduceSub, Array.replicate_succ, Array.replicate_zero, List.push_toArray, List.append_toArray, List.nil_append, List.cons_append]
  gi_wp2
  gi_loopw [7] (fun i wr => ∃ k : Nat, Aside0 (k ≤ l.length) ∧ i = .int .i64 k ∧ Aside0 (J (l.take k) wr) ∧ Aside0 (Below n₀ W wr))
    (fun i _ => l.length - (intOf i).toNat)
  case atStart => exact ⟨0, ⟨Nat.zero_le _⟩, rfl, ⟨by rw [List.take_zero]; exact h0⟩, ⟨Below.refl _ _⟩⟩
  case round =>
    obtain ⟨k, HK, rfl, HJ, HN⟩ := hrel
    by_cases hlt : k < l.length
    · have h1 : (k : Int) < (l.length : Int) := by omega
      obtain ⟨ad, e1, x0⟩ := Kd.at_int (hX wr HN.out) (k : Int) (by omega) h1
      cases e1
      simp only [Int.toNat_natCast] at x0
      have htk : l.take k ++ [rd l (k : Int)] = l.take (k + 1) := by
        rw [List.take_add_one, List.getElem?_eq_getElem hlt]
        simp [rd, List.getD_eq_getElem?_getD, List.getElem?_eq_getElem hlt]
      obtain ⟨fn, tmps, assign, body, hy, hR⟩ := hY _ (rd l (k : Int)) wr HJ.out (by rw [List.length_take]; omega)
      rw [htk] at hR
      have hw : wrap64 ((k : Int) + 1) = ((k + 1 : Nat) : Int) := Pl.wrap_succ (by omega)
      have HW := Aside0.mk hw
      have HLT := Aside0.mk hlt
      clear htk hw hlt
      generalize rd l (k : Int) = x at x0 hy hR
      gi_wp2
      refine hR.mono ?_
      rintro e W3 (⟨rfl, hJ3, hk3⟩ | ⟨rfl, hJx3⟩)
      · gi_wp2
        go_roundw
        case rel => exact ⟨k + 1, ⟨HLT.out⟩, by first | rw [HW.out] | simp, ⟨hJ3⟩, ⟨HN.out.trans hk3⟩⟩
        case measure => have := HLT.out; simp [intOf]; omega
      · gi_wp2
        refine bodyPost_ret (results_none rfl _ _ _) rfl ?_
        exact ⟨⟨_, rfl⟩, .inr ⟨_, List.take_prefix _ _, hJx3⟩⟩
    · have h1 : ¬ (k : Int) < (l.length : Int) := by omega
      have hJ2 := HJ.out
      rw [List.take_of_length_le (by omega)] at hJ2
      have HJ2 := Aside0.mk hJ2
      clear hJ2
      gi_wp2
      go_end0
      exact ⟨⟨_, rfl⟩, .inl HJ2.out⟩
theorem vals_stops (F : Fence) (n : Nat) (hf : F.fn 73) (hro : F.round = none) (hn : 1 ≤ n) (Bs n₀ c : Nat) (A : Option Addr) (l : List Int) (hlen : l.length < 9223372036854775807) (w : World) (hn₀ : n₀ ≤ w.heap.size)
    (hX : ∀ X, Below n₀ w X → Kd.C (Kd.int .i64) X A l.length l) (hlt : Bs < w.heap.size) (hBs : w.cell? ⟨Bs, 0, none⟩ = some (.slice A l.length c)) :
    SeqStopsK F n Try.prog 73 #[.pointer (some ⟨Bs, 0, none⟩)] (fun x : Int => #[Value.int .i64 x]) (Below n₀) (fun ys => ys = l) (fun pre => pre <+: l) l.length w := fun ly J Jx W hW _ _ hY h0 =>
  vals1 F n hf hro hn ly Bs n₀ c A l hlen J Jx hY W (fun X hb => hX X ((hW.mono hn₀).trans hb)) ((hW.cell (p := ⟨Bs, 0, none⟩) hlt).trans hBs) h0
theorem infoI : (Try.prog.info? 3).map (fun i => (i.zero, i.size, i.bytes)) = some (some (.int .i64 0), 1, 8) := by kernel_rfl
set_option maxRecDepth 100000 in
set_option maxHeartbeats 4000000 in
theorem appendSeq_in (F : Fence) (n : Nat) (hf : F.fn 73) (hfa : F.fn 82) (hro : F.round = none) (hn : 3 ≤ n) (Bs n₀ c : Nat) (A : Option Addr) (l : List Int) (hbytes : l.length * 8 ≤ 140737488355328) (w : World) (hn₀ : n₀ ≤ w.heap.size)
    (hX : ∀ X, Below n₀ w X → Kd.C (Kd.int .i64) X A l.length l) (hlt : Bs < w.heap.size) (hBs : w.cell? ⟨Bs, 0, none⟩ = some (.slice A l.length c)) :
    CallsIn F n Try.prog 82 #[.slice none 0 0, .func (.func 73) #[] #[.pointer (some ⟨Bs, 0, none⟩)]] w fun e W' => ∃ v, e = .returned v ∧ W'.ownsRow w.heap.size 3 1 v l.length (l.map (Value.int .i64)) ∧ Below w.heap.size w W' := by
  have h1 : 1 ≤ n := by omega
  obtain ⟨i0, hi, hz0, hz1, hz2⟩ := info_parts infoI
  refine callsIn_of_wp_marks Try.func82 rfl hfa ?_ hro
  simp only [Try.ntmps82, List.size_toArray, List.length_cons, List.length_nil, Nat.reduceAdd, Nat.reduceSub, Array.replicate_succ, Array.replicate_zero, List.push_toArray, List.append_toArray, List.nil_append, List.cons_append]
  gi_wp2
  have bO := Boxed.new w 24 (.slice none 0 0)
  have hB0 : Below w.heap.size w (w.alloc (.cells #[.slice none 0 0] 24)) := (Below.refl _ w).alloc (Nat.le_refl _) _
  have hsz : (w.alloc (.cells #[.slice none 0 0] 24)).heap.size = w.heap.size + 1 := boxed_size _ _
  have hXX : ∀ X, Below n₀ (w.alloc (.cells #[.slice none 0 0] 24)) X → Kd.C (Kd.int .i64) X A l.length l := fun X hb => hX X ((hB0.mono hn₀).trans hb)
  have hBs2 : (w.alloc (.cells #[.slice none 0 0] 24)).cell? ⟨Bs, 0, none⟩ = some (.slice A l.length c) := Go.Proofs.Ytcengijoicmldaa.Bx.box_alloc _ hBs
  refine wpIn_rangeFunc_ownG hro h1 (gf := 73) (lb := #[.pointer (some ⟨Bs, 0, none⟩)]) rfl hf (enters_of Try.func73 (by kernel_rfl) rfl)
    (vals_stops F (n - 1) hf hro (by omega) Bs n₀ c A l (by omega) _ (by omega) hXX (by omega) hBs2) belowK_t (belowK_b (by omega)) (Below.refl _ _) (fun _ => rfl)
    (fun pre W => (∃ v, Boxed W w.heap.size 24 v ∧ W.ownsRow w.heap.size 3 1 v pre.length (pre.map (Value.int .i64)) ∧ (v = .slice none 0 0 ↔ pre = [])) ∧ Below w.heap.size w W)
    (fun _ _ _ => False)
    (OwnFrom.and (Own.from (holdsRow_own w.heap.size w.heap.size 24 3 1 (fun pre => pre.length) (fun pre => pre.map (Value.int .i64)) (fun pre v => v = .slice none 0 0 ↔ pre = [])) _) (ownFrom_below (Nat.le_refl _) (by omega)))
    (fun _ _ _ _ _ hs _ _ => hs)
    ⟨⟨_, bO, World.ownsRow_nil _ _ _ _, by simp⟩, hB0⟩
    (fun x => { tmps := #[.slice none 0 0, .func (.func 73) #[] #[.pointer (some ⟨Bs, 0, none⟩)], .pointer (some ⟨w.heap.size, 0, none⟩), undef, .slice none 0 0, .int .i64 x, .func (.func 73) #[] #[.pointer (some ⟨Bs, 0, none⟩)], .int .i64 x, undef, undef, undef, undef, undef], defers := [] }) ?assign ?body ?done ?stop
  case assign =>
    intro ly x W K hK
    gi_wp2
    exact hK
  case body =>
    rintro ly pre x W ⟨⟨v, hv, hrow, hnil⟩, hB⟩ hlt
    have hc := hv.cell
    gi_wp2_with (gi_at_builtin; refine wpListIn_append_own _ rfl _ _ 24 rfl w.heap.size 3 i0 (.int .i64 0) 1 8 Try.underlying24 hi hz0 hz1 hz2 rfl (by decide) _ _ _ rfl (hrow.alloc _) ⟨W.heap.size, 0, none⟩ 1 1 [.int .i64 x] rfl rfl (cell_one_new _ _ _) (by simp [Value.oneCell']) (by unfold maxLen; omega) (by omega) (by have := hB.size; simp; omega) ?_; intro v' w1 hown' hgrow _; obtain ⟨g', cap', rfl⟩ := ownsRow_succ hown'; obtain ⟨hv1, hv2, hr2, hk2, hb2⟩ := hv.appended (by decide) hrow hB.size (Nat.le_refl _) hown' hgrow; have hc1 := hv1.cell; have hf1 := hv1.frozen)
    exact ⟨hk2.from _, hb2.mono hn₀, ⟨_, hv2, by simpa using hr2, by simp⟩, hB.trans hb2⟩
  case done =>
    rintro D ys W hD rfl ⟨⟨v, hv, hrow, hnil⟩, hB⟩ hK
    have hc := hv.cell
    gi_wp2
    refine ⟨by simp, .inl ⟨_, _, rfl, run_takeDeferred hK, ?_⟩⟩
    exact ⟨_, results_tmp rfl _ _ _, v, rfl, ownsRow_putObj hrow _ hK rfl, hB.trans (belowK_b (w := w) (Nat.le_refl _) W D _ _ (by omega) hK rfl rfl)⟩
  case stop =>
    rintro D cd pre W _ _ h _
    exact h.elim
end Go.Proofs.Ytcengijoicmldaa.Pr
