/- impl.GoodLinks: no more than twelve rows, each rising among the places. No condition. -/
import Derived.Test.YtleckpfdfngjcaaPr1
import Derived.Test.YtleckpfdfngjcaaAr
import Derived.Test.YtleckpfdfngjcaaFIdxRow
import Derived.Test.YtleckpfdfngjcaaWFoot
namespace Go.Proofs.Ytleckpfdfngjcaa.Pr
open Go.RowKit Go.Proofs.YtleckpfdfngjcaaW.PrintWords Go.Proofs.YtleckpfdfngjcaaW.PrintLast Go.Proofs.YtleckpfdfngjcaaW.PrintMore
set_option linter.unusedVariables false
set_option linter.unusedSimpArgs false

theorem boxed_cell (w : World) (u : Value) (t : TypeId) : (w.alloc (.cells #[u] t)).cell? ⟨w.heap.size, 0, none⟩ = some u := by
  have h := blk_new w (.cells #[u] t)
  simp only [World.cell?]
  rw [h]
  rfl
theorem boxed_size (w : World) (o : Obj) : (w.alloc o).heap.size = w.heap.size + 1 := by simp
set_option maxHeartbeats 1000000 in
set_option maxRecDepth 100000 in
theorem links1 (x : List Int) (A : Option Addr) (c : Nat) (B : Nat) (AL : Option Addr) (n cL : Nat) (w : World) (hcell : w.cell? ⟨B, 0, none⟩ = some (.slice AL n cL)) (hn : n < 1000) (hr : Kd.C (Kd.int .i64) w A x.length x) (hc : x.length ≤ c) :
    Calls Try.prog 45 (#[.slice A x.length c] ++ #[.pointer (some ⟨B, 0, none⟩)]) w fun e w' => e = .returned (.bool (!Ax.rs 0 ((n : Int) - 1) none x)) ∧ Below w.heap.size w w' := by
  obtain ⟨k, hk⟩ := Ev.rounds (Ax.isRising_ev' x 0 ((n : Int) - 1) hr.2.1)
  have hcon := fun (W : World) (hW : Kd.C (Kd.int .i64) W A x.length x) => impl_isRising.calls k A c x 0 ((n : Int) - 1) _ W hW hc hk
  generalize Ax.rs 0 ((n : Int) - 1) none x = bb at hcon
  have hw : wrap64 ((n : Int) - 1) = (n : Int) - 1 := Pl.wrap_in (by omega) (by omega)
  have HR := Aside0.mk hr
  have HH := Aside0.mk hcon
  clear hr hcon hk hc hn
  show Calls Try.prog 45 #[.slice A x.length c, .pointer (some ⟨B, 0, none⟩)] w _
  go_enter Try.func45, Try.ntmps45
  go_wp2_with (first | (go_at_call 34; (try rw [hw]); refine (HH.out _ HR.out).mono ?_; rintro e w' ⟨rfl, ⟨nd, rfl⟩⟩))
  go_ret
  exact ⟨rfl, pw_below_drewN (Below.refl _ _) _⟩
set_option maxHeartbeats 1000000 in
theorem linksCon (A0 : Option Addr) (c0 : Nat) (l0 : List (List Int)) (w : World) (hl : l0.length ≤ 12) (hr0 : Kd.C (Kd.slice 3 (Kd.int .i64)) w A0 l0.length l0) :
    Calls Try.prog 44 #[.slice A0 l0.length c0, .func (.func 45) #[] #[.pointer (some ⟨w.heap.size, 0, none⟩)]] (w.alloc (.cells #[.slice A0 l0.length c0] 22)) fun e w' => e = .returned (.bool (l0.any fun x => !Ax.rs 0 ((l0.length : Int) - 1) none x)) ∧ Below w.heap.size w w' := by
  have hbx := boxed_cell w (.slice A0 l0.length c0) 22
  have hsz := boxed_size w (.cells #[.slice A0 l0.length c0] 22)
  have hal := below_alloc (Below.refl w.heap.size w) (.cells #[.slice A0 l0.length c0] 22)
  generalize w.alloc (.cells #[.slice A0 l0.length c0] 22) = w1 at hbx hsz hal ⊢
  have hr1 := Kd.C_below hr0 hal
  refine (ConRow 45 #[.pointer (some ⟨w.heap.size, 0, none⟩)] (enters_of Try.func45 rfl rfl) (fun x => !Ax.rs 0 ((l0.length : Int) - 1) none x) A0 c0 l0 w1 hr1 (fun W x Ax_ cx hb hx hcx hC => ?_)).mono ?_
  · exact links1 x Ax_ cx w.heap.size A0 l0.length c0 W ((hb.cell (by rw [hsz]; exact Nat.lt_succ_self _)).trans hbx) (by omega) (Kd.C_below hC hb) hcx
  · rintro e w2 ⟨rfl, hb2⟩
    exact ⟨rfl, ⟨hb2.os.trans hal.os, hb2.tape.trans hal.tape, hb2.output.trans hal.output, by have := hb2.size; omega, fun k hk => (hb2.block k (by omega)).trans (hal.block k hk)⟩⟩
def impl_GoodLinks.f (l0 : List (List Int)) : Option Bool := some (decide (l0.length ≤ 12) && l0.all fun x => Ax.rs 0 ((l0.length : Int) - 1) none x)
set_option maxHeartbeats 1000000 in
set_option maxRecDepth 100000 in
theorem impl_GoodLinks.calls (A0 : Option Addr) (c0 : Nat) (l0 : List (List Int)) (r : Bool) (w : World) (hr0 : Kd.C (Kd.slice 3 (Kd.int .i64)) w A0 l0.length l0) (hc0 : l0.length ≤ c0) (h : impl_GoodLinks.f l0 = some r) :
    Calls Try.prog 24 #[.slice A0 l0.length c0] w fun e w' => e = .returned (.bool r) ∧ Below w.heap.size w w' := by
  unfold impl_GoodLinks.f at h
  obtain rfl := Option.some.inj h
  clear h hc0
  by_cases hl : l0.length ≤ 12
  · have hcon := linksCon A0 c0 l0 w hl hr0
    have hany : (l0.any fun x => !Ax.rs 0 ((l0.length : Int) - 1) none x) = !(l0.all fun x => Ax.rs 0 ((l0.length : Int) - 1) none x) := by rw [List.not_all_eq_any_not]
    rw [hany] at hcon
    rw [decide_eq_true hl, Bool.true_and]
    have h12 : (l0.length : Int) ≤ 12 := by omega
    generalize (l0.all fun x => Ax.rs 0 ((l0.length : Int) - 1) none x) = bb at hcon ⊢
    clear hany hr0 hl
    go_enter Try.func24, Try.ntmps24
    go_wp2_with (first | (go_at_call 44; refine hcon.mono ?_; rintro e w' ⟨rfl, hb⟩; have HB := Aside0.mk hb; clear hb))
    go_ret
    exact ⟨by simp, HB.out⟩
  · rw [decide_eq_false hl, Bool.false_and]
    have h12 : ¬ (l0.length : Int) ≤ 12 := by omega
    have hal := below_alloc (Below.refl w.heap.size w) (.cells #[.slice A0 l0.length c0] 22)
    have HB := Aside0.mk hal
    clear hal hr0 hl
    go_enter Try.func24, Try.ntmps24
    go_wp2
    go_ret
    exact ⟨rfl, HB.out⟩
end Go.Proofs.Ytleckpfdfngjcaa.Pr
