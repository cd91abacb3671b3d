/- slices.Backward over acts: the iterator hands out the elements from the last on. No condition but a slice that is kept. -/
import Derived.Test.YtpnlkmpoaboncaaPr0
import Derived.Test.YtpnlkmpoaboncaaPl
import Derived.Test.YtpnlkmpoaboncaaFd
import Derived.Test.YtpnlkmpoaboncaaPr0
import Derived.RangeFuncNested
import Derived.RangeFuncBound
import Derived.RangeFuncCalls
import Derived.RangeFuncLeaves
import Derived.Shelf.Abstract
import Derived.Shelf.RegionOpen
import Derived.WalkKit
import Derived.OwnWalkIn
import Derived.TacticsInMore
import Derived.LoopNIn
import Derived.LoopIn
namespace Go.Proofs.Ytpnlkmpoaboncaa.Pr
open Go.RowKit Go.Shelf Go.Proofs Go.Proofs.YtpnlkmpoaboncaaW.PrintWords Go.Proofs.YtpnlkmpoaboncaaW.PrintLast Go.Proofs.YtpnlkmpoaboncaaW.PrintMore
set_option linter.unusedVariables false
set_option linter.unusedSimpArgs false
attribute [local go_sem] Oper.semAt_some
/-- What has come behind k rounds: the last k elements, from the last on. -/
def bk (l : List S44) (k : Nat) : List (Int × S44) := (List.range k).map fun j => (((l.length - 1 - j : Nat) : Int), l.getD (l.length - 1 - j) z44)
theorem bk_succ (l : List S44) (k : Nat) : bk l (k + 1) = bk l k ++ [(((l.length - 1 - k : Nat) : Int), l.getD (l.length - 1 - k) z44)] := by simp [bk, List.range_succ]
theorem bk_length (l : List S44) (k : Nat) : (bk l k).length = k := by simp [bk]
abbrev actV (x : S44) : Value := .agg #[.int .i64 x.f0, .int .i64 x.f1, .bool x.f2]
set_option maxRecDepth 100000 in
set_option maxHeartbeats 4000000 in
theorem back1 (F : Fence) (n : Nat) (hf : F.fn 59) (hro : F.round = none) (hn : 1 ≤ n) (ly Bs n₀ c : Nat) (A : Option Addr) (l : List S44) (hlen : l.length < 9223372036854775807) (J Jx : List (Int × S44) → World → Prop)
    (hY : ∀ pre x W, J pre W → pre.length < l.length → YieldAt F (n - 1) Try.prog ly #[.int .i64 x.1, .agg #[.int .i64 x.2.f0, .int .i64 x.2.f1, .bool x.2.f2]] W fun e W' =>
      (e = .returned (.bool true) ∧ J (pre ++ [x]) W' ∧ Below n₀ W W') ∨ (e = .returned (.bool false) ∧ Jx (pre ++ [x]) W'))
    (W : World) (hX : ∀ X, Below n₀ W X → X.cell? ⟨Bs, 0, none⟩ = some (.slice A l.length c) ∧ Kd.C k44 X A l.length l) (h0 : J [] W) :
    CallsIn F n Try.prog 59 #[.func (.yield ly) #[] #[], .pointer (some ⟨Bs, 0, none⟩)] W fun e W' => (∃ v, e = .returned v) ∧
      ((∃ ys, ys = bk l l.length ∧ J ys W') ∨ (∃ pre, (∃ k, k ≤ l.length ∧ pre = bk l k) ∧ Jx pre W')) := by
  refine callsIn_of_wp Try.func59 rfl hf ?_ hro
  simp only [Try.ntmps59, List.size_toArray, List.length_cons, List.length_nil, Nat.reduceAdd, Nat.reduceSub, Array.replicate_succ, Array.replicate_zero, List.push_toArray, List.append_toArray, List.nil_append, List.cons_append]
  have hBs := (hX W (Below.refl _ _)).1
  have hlw : wrap64 ((l.length : Int) - 1) = (l.length : Int) - 1 := Pl.wrap_in (by omega) (by omega)
  gi_wp2
  gi_loopw [3] (fun i wr => ∃ (m : Nat) (v : Int), Aside0 (m ≤ l.length ∧ v = (m : Int) - 1) ∧ i = .int .i64 v ∧ Aside0 (J (bk l (l.length - m)) wr) ∧ Aside0 (Below n₀ W wr))
    (fun i _ => (intOf i + 1).toNat)
  case atStart => exact ⟨l.length, _, ⟨Nat.le_refl _, rfl⟩, by simp [hlw], ⟨by rw [Nat.sub_self]; exact h0⟩, ⟨Below.refl _ _⟩⟩
  case round =>
    obtain ⟨m, v, HM, rfl, HJ, HN⟩ := hrel
    obtain ⟨hbx, hC⟩ := hX wr HN.out
    by_cases hv0 : 0 ≤ v
    · have hvl : v < (l.length : Int) := by have := HM.out; omega
      obtain ⟨ad, e1, x0, x1, x2⟩ := at_T44 hC v hv0 hvl
      cases e1
      have hnext : wrap64 (v - 1) = v - 1 := Pl.wrap_in (by omega) (by omega)
      have hx : bk l (l.length - m) ++ [(v, rd_T44 l v)] = bk l (l.length - (m - 1)) := by
        obtain ⟨h1, h2⟩ := HM.out
        rw [show l.length - (m - 1) = (l.length - m) + 1 by omega, bk_succ]
        congr 2
        have e2 : l.length - 1 - (l.length - m) = v.toNat := by omega
        rw [e2]
        have e3 : ((v.toNat : Nat) : Int) = v := by omega
        rw [e3]
        rfl
      obtain ⟨fn, tmps, assign, body, hy, hR⟩ := hY _ (v, rd_T44 l v) wr HJ.out (by rw [bk_length]; have := HM.out; omega)
      rw [hx] at hR
      have HX := Aside0.mk hx
      clear hx hC
      generalize rd_T44 l v = x at x0 x1 x2 hy hR HX
      dsimp only at hy
      gi_wp2
      refine hR.mono ?_
      rintro e W3 (⟨rfl, hJ3, hk3⟩ | ⟨rfl, hJx3⟩)
      · gi_wp2
        go_roundw
        case rel => exact ⟨m - 1, v - 1, ⟨by have := HM.out; omega, by have := HM.out; omega⟩, by first | rfl | simp [hnext], ⟨hJ3⟩, ⟨HN.out.trans hk3⟩⟩
        case measure => simp [intOf]; omega
      · gi_wp2
        refine bodyPost_ret (results_none rfl _ _ _) rfl ?_
        exact ⟨⟨_, rfl⟩, .inr ⟨_, ⟨_, by omega, rfl⟩, hJx3⟩⟩
    · have hm0 : m = 0 := by have := HM.out; omega
      have HJ2 := HJ.out
      rw [hm0, Nat.sub_zero] at HJ2
      have HJ3 := Aside0.mk HJ2
      clear HJ2 hm0
      gi_wp2
      go_end0
      exact ⟨⟨_, rfl⟩, .inl HJ3.out⟩
set_option maxHeartbeats 1000000 in
/-- slices.Backward: the slice is boxed; the function value captures the box. -/
theorem back_in (F : Fence) (n : Nat) (hf : F.fn 47) (hro : F.round = none) (A : Option Addr) (len cap : Nat) (w : World) :
    CallsIn F n Try.prog 47 #[.slice A len cap] w fun e w' => e = .returned (.func (.func 59) #[] #[.pointer (some ⟨w.heap.size, 0, none⟩)]) ∧ w' = w.alloc (.cells #[.slice A len cap] 27) := by
  refine callsIn_of_wp Try.func47 rfl hf ?_ hro
  simp only [Try.ntmps47, List.size_toArray, List.length_cons, List.length_nil, Nat.reduceAdd, Nat.reduceSub, Array.replicate_succ, Array.replicate_zero, List.push_toArray, List.append_toArray, List.nil_append, List.cons_append]
  gi_wp2
  go_ret
  exact ⟨rfl, rfl⟩
theorem back_stops (F : Fence) (n : Nat) (hf : F.fn 59) (hro : F.round = none) (hn : 1 ≤ n) (Bs n₀ c : Nat) (A : Option Addr) (l : List S44) (hlen : l.length < 9223372036854775807) (w : World) (hn₀ : n₀ ≤ w.heap.size)
    (hX : ∀ X, Below n₀ w X → X.cell? ⟨Bs, 0, none⟩ = some (.slice A l.length c) ∧ Kd.C k44 X A l.length l) :
    SeqStopsK F n Try.prog 59 #[.pointer (some ⟨Bs, 0, none⟩)] (fun x : Int × S44 => #[Value.int .i64 x.1, .agg #[.int .i64 x.2.f0, .int .i64 x.2.f1, .bool x.2.f2]]) (Below n₀) (fun ys => ys = bk l l.length) (fun pre => ∃ k, k ≤ l.length ∧ pre = bk l k) l.length w := fun ly J Jx W hW _ _ hY h0 =>
  back1 F n hf hro hn ly Bs n₀ c A l hlen J Jx hY W (fun X hb => hX X ((hW.mono hn₀).trans hb)) h0
end Go.Proofs.Ytpnlkmpoaboncaa.Pr
