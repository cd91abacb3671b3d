/- impl.actsOf: one dealer's acts. Condition: a length that Go can make room for. -/
import Derived.Test.YtpnlkmpoaboncaaPr0
import Derived.Test.YtpnlkmpoaboncaaFIdxAct
import Derived.Test.YtpnlkmpoaboncaaECloneAct
import Derived.Test.YtpnlkmpoaboncaaWFoot
namespace Go.Proofs.Ytpnlkmpoaboncaa.Pr
open Go.RowKit Go.Proofs.YtpnlkmpoaboncaaW.PrintWords Go.Proofs.YtpnlkmpoaboncaaW.PrintLast Go.Proofs.YtpnlkmpoaboncaaW.PrintMore
set_option linter.unusedVariables false
set_option linter.unusedSimpArgs false

set_option maxHeartbeats 1000000 in
set_option maxRecDepth 100000 in
theorem acts1 (x : S44) (who : Int) (B : Nat) (w : World) (hcell : w.cell? ⟨B, 0, none⟩ = some (.int .i64 who)) :
    Calls Try.prog 51 (#[.agg #[.int .i64 x.f0, .int .i64 x.f1, .bool x.f2]] ++ #[.pointer (some ⟨B, 0, none⟩)]) w fun e w' => e = .returned (.bool (x.f0 != who)) ∧ Below w.heap.size w w' := by
  have hcell2 := ((below_alloc (Below.refl w.heap.size w) (.cells #[.int .i64 x.f0, .int .i64 x.f1, .bool x.f2] 44)).cell (World.block_lt_of_cell? w _ hcell)).trans hcell
  obtain ⟨bx0, bx1, bx2⟩ := boxed_cell3 w (.int .i64 x.f0) (.int .i64 x.f1) (.bool x.f2) 44
  have HB := Aside0.mk (below_alloc (Below.refl w.heap.size w) (.cells #[.int .i64 x.f0, .int .i64 x.f1, .bool x.f2] 44))
  show Calls Try.prog 51 #[.agg #[.int .i64 x.f0, .int .i64 x.f1, .bool x.f2], .pointer (some ⟨B, 0, none⟩)] w _
  go_enter Try.func51, Try.ntmps51
  go_wp2
  go_ret
  exact ⟨by first | rfl | simp, HB.out⟩
set_option maxHeartbeats 1000000 in
theorem actsDel (who : Int) (l0 : List S44) (v : Value) (w w' : World)
    (hb : Below (w.alloc (.cells #[.int .i64 who] 3)).heap.size (w.alloc (.cells #[.int .i64 who] 3)) w')
    (ho : Kd.R k44 44 w' (w.alloc (.cells #[.int .i64 who] 3)).heap.size (fun _ => True) v l0) :
    Calls Try.prog 49 #[v, .func (.func 51) #[] #[.pointer (some ⟨w.heap.size, 0, none⟩)]] w' (DelPost k44 44 (l0.filter fun x => x.f0 == who) w) := by
  have hbx := boxed_cell w (.int .i64 who) 3
  have hsz := boxed_size w (.cells #[.int .i64 who] 3)
  have hal := below_alloc (Below.refl w.heap.size w) (.cells #[.int .i64 who] 3)
  generalize w.alloc (.cells #[.int .i64 who] 3) = w1 at hb ho hbx hsz hal
  have hcl : ∀ (W : World) (x : S44), Kept w' W (fun k => w1.heap.size ≤ k) → Calls Try.prog 51 (#[.agg #[.int .i64 x.f0, .int .i64 x.f1, .bool x.f2]] ++ #[.pointer (some ⟨w.heap.size, 0, none⟩)]) W fun e w2 => e = .returned (.bool (x.f0 != who)) ∧ Below W.heap.size W w2 := fun W x hk =>
    acts1 x who w.heap.size W (cell_kept ((hb.cell (by rw [hsz]; exact Nat.lt_succ_self _)).trans hbx) hk (by show ¬ w1.heap.size ≤ w.heap.size; omega))
  have hd := DelAct 51 #[.pointer (some ⟨w.heap.size, 0, none⟩)] (enters_of Try.func51 rfl rfl) (fun x => x.f0 != who) (fun k => w1.heap.size ≤ k) v l0 w1 w' hb (Kd.R_reok rfl ho (fun k hk => Kd.R_base ho k hk)) hcl
  have hfe : (l0.filter fun x => !(x.f0 != who)) = l0.filter fun x => x.f0 == who := by
    congr 1
    funext x
    simp [bne]
  rw [hfe] at hd
  refine hd.mono ?_
  rintro e w2 ⟨v2, rfl, ho2, hb2⟩
  exact ⟨v2, rfl, Kd.R_lower ho2 (by omega), ⟨hb2.os.trans hal.os, hb2.tape.trans hal.tape, hb2.output.trans hal.output, by have := hb2.size; omega, fun k hk => (hb2.block k (by omega)).trans (hal.block k hk)⟩⟩
def impl_actsOf.f (l0 : List S44) (a1 : Int) : Option (List S44) := if l0.length * 24 ≤ 140737488355328 then some (l0.filter fun x => x.f0 == a1) else none
set_option maxHeartbeats 1000000 in
set_option maxRecDepth 100000 in
theorem impl_actsOf.calls (A0 : Option Addr) (c0 : Nat) (l0 : List S44) (a1 : Int) (r : List S44) (w : World) (hr0 : Kd.C k44 w A0 l0.length l0) (hc0 : l0.length ≤ c0) (h : impl_actsOf.f l0 a1 = some r) :
    Calls Try.prog 35 #[.slice A0 l0.length c0, .int .i64 a1] w fun e w' => ∃ v0_ : Value, e = .returned (v0_) ∧ Kd.R k44 44 w' w.heap.size (fun _ => True) v0_ r ∧ Below w.heap.size w w' := by
  unfold impl_actsOf.f at h
  by_cases hb : l0.length * 24 ≤ 140737488355328
  · rw [if_pos hb] at h
    obtain rfl := Option.some.inj h
    clear h
    have hcl := fun (W : World) (hW : Kd.C k44 W A0 l0.length l0) => impl_Act_50.calls A0 c0 l0 l0 W hW hc0 (by unfold impl_Act_50.f; rw [if_pos hb])
    have HR0 := Aside0.mk hr0
    have HCL := Aside0.mk hcl
    clear hr0 hcl hb hc0
    go_enter Try.func35, Try.ntmps35
    go_wp2_with (first | (go_at_call 50; refine (HCL.out _ (Kd.C_alloc HR0.out _)).mono ?_; rintro e w' ⟨v, rfl, ho, hb'⟩; have HO := Aside0.mk ho; have HB := Aside0.mk hb'; clear ho hb'))
    go_wp2_with (first | (go_at_call 49; refine (actsDel a1 l0 v w w' HB.out HO.out).mono ?_; rintro e w2 ⟨v2, rfl, ho2, hb2⟩; have HO2 := Aside0.mk ho2; have HB2 := Aside0.mk hb2; clear ho2 hb2))
    go_ret
    exact ⟨_, rfl, HO2.out, HB2.out⟩
  · rw [if_neg hb] at h
    cases h
end Go.Proofs.Ytpnlkmpoaboncaa.Pr
