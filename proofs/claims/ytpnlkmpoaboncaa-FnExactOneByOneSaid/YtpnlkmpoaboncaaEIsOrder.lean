/- impl.isOrder: whether the numbers, sorted, are 0, 1, 2, 3. Condition: a length that Go can make room for. -/
import Derived.Test.YtpnlkmpoaboncaaPr1
import Derived.Test.YtpnlkmpoaboncaaESorted
import Derived.Test.YtpnlkmpoaboncaaPr1
import Derived.Test.YtpnlkmpoaboncaaAeq
namespace Go.Proofs.Ytpnlkmpoaboncaa.Pr
open Go.RowKit Go.Shelf Go.Proofs Go.Proofs.YtpnlkmpoaboncaaW.PrintWords Go.Proofs.YtpnlkmpoaboncaaW.PrintLast Go.Proofs.YtpnlkmpoaboncaaW.PrintMore
set_option linter.unusedVariables false
set_option linter.unusedSimpArgs false
def impl_isOrder.f (l0 : List Int) : Option Bool := if l0.length * 8 ≤ 140737488355328 then some (decide (sortI l0 = [0, 1, 2, 3])) else none
set_option maxRecDepth 100000 in
set_option maxHeartbeats 1000000 in
theorem impl_isOrder.calls (A0 : Option Addr) (c0 : Nat) (l0 : List Int) (r : Bool) (w : World) (hr0 : Kd.C (Kd.int .i64) w A0 l0.length l0) (hc0 : l0.length ≤ c0) (h : impl_isOrder.f l0 = some r) :
    Calls Try.prog 40 #[.slice A0 l0.length c0] w fun e w' => e = .returned (.bool r) ∧ Below w.heap.size w w' := by
  unfold impl_isOrder.f at h
  split at h
  · rename_i hl
    obtain rfl := Option.some.inj h
    clear h
    obtain ⟨k, hk⟩ := Ev.rounds (Ax.seq_ev (sortI l0) [0, 1, 2, 3] (by rw [show (sortI l0).length = l0.length by simp [sortI]]; omega))
    have hal_ := below_alloc (Below.refl w.heap.size w) (.cells #[.slice A0 l0.length c0] 24)
    have hsz := boxed_size w (.cells #[.slice A0 l0.length c0] 24)
    go_enter Try.func40, Try.ntmps40
    go_wp2_with (go_at_call 55; refine (callsIn_wide.1 (values_in Fence.wide 4 trivial rfl A0 l0.length c0 w)).mono ?_; rintro e w1 ⟨rfl, rfl⟩)
    go_wp2_with (go_at_call 54; refine (sorted_calls w.heap.size (w.alloc (.cells #[.slice A0 l0.length c0] 24)).heap.size c0 A0 l0 hl _ (Nat.le_refl _) (fun X hb => Kd.C_below hr0 (below_step hal_ hb)) (by omega) (Go.Proofs.Ytpnlkmpoaboncaa.Bx.box_new _ _ _ _ _ rfl)).mono ?_; rintro e w2 ⟨v2, rfl, ho, hb⟩; replace hal_ := below_step hal_ hb; clear hb; obtain ⟨A2, c2, rfl⟩ := Kd.R_slice ho)
    have hlen : (sortI l0).length = l0.length := by simp [sortI]
    have hrd := (Kd.R_reads' ho).2
    have hlit : (w2.alloc (.cells #[.int .i64 0, .int .i64 1, .int .i64 2, .int .i64 3] 3)).ownsRow 0 3 1 (.slice (some ⟨w2.heap.size, 0, none⟩) 4 4) 4 [.int .i64 0, .int .i64 1, .int .i64 2, .int .i64 3] := World.ownsRow_lit (base := 0) (e := 3) (size := 1) w2 #[.int .i64 0, .int .i64 1, .int .i64 2, .int .i64 3] 4 (Nat.zero_le _) (by simp [maxLen]) rfl
    have hl4 : (Kd.int .i64).R 3 (w2.alloc (.cells #[.int .i64 0, .int .i64 1, .int .i64 2, .int .i64 3] 3)) 0 (fun _ => True) (.slice (some ⟨w2.heap.size, 0, none⟩) ([0, 1, 2, 3] : List Int).length 4) [0, 1, 2, 3] := Kd.R_of_own hlit (fun _ _ => trivial)
    generalize hs : sortI l0 = s at hk ho hlen hrd ⊢
    refine Go.Proofs.Ytpnlkmpoaboncaa.Bx.calls_at (vs' := #[.slice A2 s.length c2, .slice (some ⟨w2.heap.size, 0, none⟩) ([0, 1, 2, 3] : List Int).length 4]) (by rw [hlen]; rfl) ((slices_Equal_int_int.calls k A2 c2 s (some ⟨w2.heap.size, 0, none⟩) 4 [0, 1, 2, 3] (decide (s = [0, 1, 2, 3])) _ (Kd.C_alloc hrd.2 _) hrd.1 (Kd.R_reads' hl4).2.2 (by simp) hk).mono ?_)
    rintro e w3 ⟨rfl, nd_, hd_⟩
    go_wp2
    go_ret
    refine ⟨by rw [hs]; rfl, ?_⟩
    exact hd_ ▸ pw_below_drewN (below_alloc hal_ _) nd_
  · cases h
end Go.Proofs.Ytpnlkmpoaboncaa.Pr
