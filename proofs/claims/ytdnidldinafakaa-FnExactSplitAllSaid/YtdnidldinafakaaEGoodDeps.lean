/- impl.GoodDeps: a good number of columns, no more than eight sentences, each one of these columns. No condition. -/
import Derived.Test.YtdnidldinafakaaPr0
import Derived.Test.YtdnidldinafakaaPr1
import Derived.Test.YtdnidldinafakaaMx5
import Derived.Test.YtdnidldinafakaaMx9
import Derived.Test.YtdnidldinafakaaWFoot
namespace Go.Proofs.Ytdnidldinafakaa.Pr
open Go.RowKit Go.Proofs.YtdnidldinafakaaW.PrintWords Go.Proofs.YtdnidldinafakaaW.PrintLast Go.Proofs.YtdnidldinafakaaW.PrintMore
set_option linter.unusedVariables false
set_option linter.unusedSimpArgs false
def okD (a : Int) (x : S42) : Bool := Ax.rs 0 (wrap64 (a - 1)) none x.f0 && Ax.rs 0 (wrap64 (a - 1)) none x.f1
theorem isDep_ev (a : Int) (x : S42) (h0 : x.f0.length ≤ 9223372036854775807) (h1 : x.f1.length ≤ 9223372036854775807) : Ev (fun k => impl_isDep.f k a x.f0 x.f1) (okD a x) := by
  simp only [impl_isDep.f, impl_areColumns.f, okD]
  refine Ev.bind (Ev.bind (Ax.isRising_ev' x.f0 _ _ h0) (Pl.ev_now rfl)) ?_
  cases Ax.rs 0 (wrap64 (a - 1)) none x.f0
  · simp only [Bool.false_eq_true, if_false]
    exact Pl.ev_now rfl
  · simp only [if_true]
    exact Ev.bind (Ev.bind (Ax.isRising_ev' x.f1 _ _ h1) (Pl.ev_now rfl)) (Pl.ev_now (by simp))
set_option maxHeartbeats 1000000 in
set_option maxRecDepth 100000 in
theorem deps1 (a : Int) (x : S42) (B0 : Option Addr) (b0 : Nat) (B1 : Option Addr) (b1 : Nat) (B : Nat) (w : World) (hcell : w.cell? ⟨B, 0, none⟩ = some (.int .i64 a)) (hc0 : x.f0.length ≤ b0) (hr0 : Kd.C (Kd.int .i64) w B0 x.f0.length x.f0) (hc1 : x.f1.length ≤ b1) (hr1 : Kd.C (Kd.int .i64) w B1 x.f1.length x.f1) :
    Calls Try.prog 55 (#[.agg #[.slice B0 x.f0.length b0, .slice B1 x.f1.length b1]] ++ #[.pointer (some ⟨B, 0, none⟩)]) w fun e w' => e = .returned (.bool (!okD a x)) ∧ Below w.heap.size w w' := by
  obtain ⟨k, hk⟩ := Ev.rounds (isDep_ev a x hr0.2.1 hr1.2.1)
  have hcon := fun (W : World) (h0 : Kd.C (Kd.int .i64) W B0 x.f0.length x.f0) (h1 : Kd.C (Kd.int .i64) W B1 x.f1.length x.f1) => impl_isDep.calls k a B0 b0 x.f0 B1 b1 x.f1 _ W h0 hc0 h1 hc1 hk
  generalize okD a x = bb at hcon
  have HR0 := Aside0.mk hr0
  have HR1 := Aside0.mk hr1
  have HH := Aside0.mk hcon
  have HA := Aside0.mk (fun (o : Obj) => below_alloc (Below.refl w.heap.size w) o)
  have hcell2 := ((below_alloc (Below.refl w.heap.size w) (.cells #[.slice B0 x.f0.length b0, .slice B1 x.f1.length b1] 42)).cell (World.block_lt_of_cell? w _ hcell)).trans hcell
  clear hr0 hr1 hcon hk hc0 hc1
  show Calls Try.prog 55 #[.agg #[.slice B0 x.f0.length b0, .slice B1 x.f1.length b1], .pointer (some ⟨B, 0, none⟩)] w _
  go_enter Try.func55, Try.ntmps55
  go_wp2_with (first | (go_at_call 56; refine (HH.out _ (by repeat (first | exact HR0.out | refine Kd.C_alloc ?_ _)) (by repeat (first | exact HR1.out | refine Kd.C_alloc ?_ _))).mono ?_; rintro e w' ⟨rfl, hb⟩; have HB := Aside0.mk hb; clear hb))
  go_ret
  exact ⟨rfl, by first | exact HB.out | exact below_step (HA.out _) HB.out⟩
set_option maxHeartbeats 1000000 in
theorem depsCon (a : Int) (A0 : Option Addr) (c0 : Nat) (l0 : List S42) (w w1 : World) (hsz : w.heap.size < w1.heap.size) (hal : Below w.heap.size w w1) (hbx : w1.cell? ⟨w.heap.size, 0, none⟩ = some (.int .i64 a)) (hr0 : Kd.C k42 w A0 l0.length l0) :
    Calls Try.prog 54 #[.slice A0 l0.length c0, .func (.func 55) #[] #[.pointer (some ⟨w.heap.size, 0, none⟩)]] w1 fun e w' => e = .returned (.bool (l0.any fun x => !okD a x)) ∧ Below w.heap.size w w' := by
  have hr1 := Kd.C_below hr0 hal
  refine (ConDep 55 #[.pointer (some ⟨w.heap.size, 0, none⟩)] (enters_of Try.func55 rfl rfl) (fun x => !okD a x) A0 c0 l0 w1 hr1 (fun W x B0 b0 B1 b1 hb hx hc0 hC0 hc1 hC1 => ?_)).mono ?_
  · exact deps1 a x B0 b0 B1 b1 w.heap.size W ((hb.cell (by simpa using hsz)).trans hbx) hc0 (Kd.C_below hC0 hb) hc1 (Kd.C_below hC1 hb)
  · rintro e w2 ⟨rfl, hb2⟩
    exact ⟨rfl, ⟨hb2.os.trans hal.os, hb2.tape.trans hal.tape, hb2.output.trans hal.output, by have := hb2.size; omega, fun k hk => (hb2.block k (by omega)).trans (hal.block k hk)⟩⟩
def impl_GoodDeps.f (a0 : Int) (l1 : List S42) : Option Bool := some (Ax.win a0 1 6 && (decide (l1.length ≤ 8) && l1.all (okD a0)))
set_option maxHeartbeats 1000000 in
set_option maxRecDepth 100000 in
theorem impl_GoodDeps.calls (a0 : Int) (A1 : Option Addr) (c1 : Nat) (l1 : List S42) (r : Bool) (w : World) (hr1 : Kd.C k42 w A1 l1.length l1) (hc1 : l1.length ≤ c1) (h : impl_GoodDeps.f a0 l1 = some r) :
    Calls Try.prog 25 #[.int .i64 a0, .slice A1 l1.length c1] w fun e w' => e = .returned (.bool r) ∧ Below w.heap.size w w' := by
  unfold impl_GoodDeps.f at h
  obtain rfl := Option.some.inj h
  clear h hc1
  have hal := below_alloc (Below.refl w.heap.size w) (.cells #[.int .i64 a0] 3)
  have hwin := fun (W : World) => impl_within.calls a0 1 6 _ W (Ax.within_eq a0 1 6)
  cases hw : Ax.win a0 1 6
  · rw [Bool.false_and]
    rw [hw] at hwin
    have HB := Aside0.mk hal
    clear hal hr1 hw
    go_enter Try.func25, Try.ntmps25
    go_wp2_with (first | (go_at_call 53; refine (hwin _).mono ?_; rintro e w' ⟨rfl, ⟨nd, rfl⟩⟩))
    go_ret
    exact ⟨rfl, pw_below_drewN HB.out _⟩
  · rw [hw] at hwin
    by_cases hl : l1.length ≤ 8
    · have hcon := fun (m : Nat) => depsCon a0 A1 c1 l1 w ((w.alloc (.cells #[.int .i64 a0] 3)).drewN m) (by show w.heap.size < (w.alloc (.cells #[.int .i64 a0] 3)).heap.size; rw [boxed_size]; omega) (pw_below_drewN hal m) (boxed_cell w (.int .i64 a0) 3) hr1
      have hany : (l1.any fun x => !okD a0 x) = !(l1.all (okD a0)) := by rw [List.not_all_eq_any_not]
      rw [hany] at hcon
      rw [decide_eq_true hl, Bool.true_and, Bool.true_and]
      have h8 : (l1.length : Int) ≤ 8 := by omega
      generalize l1.all (okD a0) = bb at hcon ⊢
      have HC := Aside0.mk hcon
      clear hany hr1 hl hw hal hcon
      go_enter Try.func25, Try.ntmps25
      go_wp2_with (first | (go_at_call 53; refine (hwin _).mono ?_; rintro e w' ⟨rfl, ⟨nd, rfl⟩⟩) | (go_at_call 54; refine (HC.out nd).mono ?_; rintro e w' ⟨rfl, hb⟩; have HB := Aside0.mk hb; clear hb))
      go_ret
      exact ⟨by simp, HB.out⟩
    · rw [decide_eq_false hl, Bool.false_and, Bool.and_false]
      have h8 : ¬ (l1.length : Int) ≤ 8 := by omega
      have HB := Aside0.mk hal
      clear hal hr1 hl hw
      go_enter Try.func25, Try.ntmps25
      go_wp2_with (first | (go_at_call 53; refine (hwin _).mono ?_; rintro e w' ⟨rfl, ⟨nd, rfl⟩⟩))
      go_ret
      exact ⟨rfl, pw_below_drewN HB.out _⟩
end Go.Proofs.Ytdnidldinafakaa.Pr
