/- impl.both: the elements that stand in the other list, too. Condition: a length that Go can make room for. -/
import Derived.Test.YtdnidldinafakaaPr1
import Derived.Test.YtdnidldinafakaaMx8
import Derived.Test.YtdnidldinafakaaWFoot
import Derived.Test.YtdnidldinafakaaFIdxInt
import Derived.Test.YtdnidldinafakaaMx3
namespace Go.Proofs.Ytdnidldinafakaa.Pr
open Go.RowKit Go.Proofs.YtdnidldinafakaaW.PrintWords Go.Proofs.YtdnidldinafakaaW.PrintLast Go.Proofs.YtdnidldinafakaaW.PrintMore
set_option linter.unusedVariables false
set_option linter.unusedSimpArgs false
set_option maxHeartbeats 1000000 in
set_option maxRecDepth 100000 in
theorem both1 (x : Int) (B : Nat) (A1 : Option Addr) (c1 : Nat) (l1 : List Int) (w : World) (hcell : w.cell? ⟨B, 0, none⟩ = some (.slice A1 l1.length c1)) (hr : Kd.C (Kd.int .i64) w A1 l1.length l1) (hc : l1.length ≤ c1) :
    Calls Try.prog 77 (#[.int .i64 x] ++ #[.pointer (some ⟨B, 0, none⟩)]) w fun e w' => e = .returned (.bool (!l1.contains x)) ∧ Below w.heap.size w w' := by
  obtain ⟨k, hk⟩ := Ev.rounds (Ax.contains_ev l1 x (by have := hr.2.1; omega))
  have hcon := fun (W : World) (hW : Kd.C (Kd.int .i64) W A1 l1.length l1) => slices_Contains_int_int.calls k A1 c1 l1 x _ W hW hc hk
  generalize l1.contains x = bb at hcon
  have HR := Aside0.mk hr
  have HH := Aside0.mk hcon
  clear hr hcon hk hc
  show Calls Try.prog 77 #[.int .i64 x, .pointer (some ⟨B, 0, none⟩)] w _
  go_enter Try.func77, Try.ntmps77
  go_wp2_with (first | (go_at_call 61; refine (HH.out _ HR.out).mono ?_; rintro e w' ⟨rfl, ⟨nd, rfl⟩⟩))
  go_ret
  exact ⟨rfl, pw_below_drewN (Below.refl _ _) _⟩
set_option maxHeartbeats 1000000 in
theorem bothDel (A1 : Option Addr) (c1 : Nat) (l0 l1 : List Int) (v : Value) (w w' : World) (hr1 : Kd.C (Kd.int .i64) w A1 l1.length l1) (hc1 : l1.length ≤ c1)
    (hb : Below (w.alloc (.cells #[.slice A1 l1.length c1] 37)).heap.size (w.alloc (.cells #[.slice A1 l1.length c1] 37)) w')
    (ho : Kd.R (Kd.int .i64) 3 w' (w.alloc (.cells #[.slice A1 l1.length c1] 37)).heap.size (fun _ => True) v l0) :
    Calls Try.prog 59 #[v, .func (.func 77) #[] #[.pointer (some ⟨w.heap.size, 0, none⟩)]] w' (DelPost (Kd.int .i64) 3 (l0.filter fun x => l1.contains x) w) := by
  have hbx := boxed_cell w (.slice A1 l1.length c1) 37
  have hsz := boxed_size w (.cells #[.slice A1 l1.length c1] 37)
  have hal := below_alloc (Below.refl w.heap.size w) (.cells #[.slice A1 l1.length c1] 37)
  generalize w.alloc (.cells #[.slice A1 l1.length c1] 37) = w1 at hb ho hbx hsz hal
  have hcl : ∀ (W : World) (x : Int), Kept w' W (fun k => w1.heap.size ≤ k) → Calls Try.prog 77 (#[.int .i64 x] ++ #[.pointer (some ⟨w.heap.size, 0, none⟩)]) W fun e w2 => e = .returned (.bool (!l1.contains x)) ∧ Below W.heap.size W w2 := fun W x hk => by
    refine both1 x w.heap.size A1 c1 l1 W ?_ ?_ hc1
    · exact cell_kept ((hb.cell (by rw [hsz]; exact Nat.lt_succ_self _)).trans hbx) hk (by show ¬ w1.heap.size ≤ w.heap.size; omega)
    · exact (Kd.heap_int .i64).C (fun k hlt => (hk.2 k (by have := hb.size; omega) (by show ¬ w1.heap.size ≤ k; omega)).trans ((hb.block k (by omega)).trans (hal.block k hlt))) hr1
  have hd := DelInt 77 #[.pointer (some ⟨w.heap.size, 0, none⟩)] (enters_of Try.func77 rfl rfl) (fun x => !l1.contains x) (fun k => w1.heap.size ≤ k) v l0 w1 w' hb (Kd.R_reok rfl ho (fun k hk => Kd.R_base ho k hk)) hcl
  have hfe : (l0.filter fun x => !(!l1.contains x)) = l0.filter fun x => l1.contains x := by simp
  rw [hfe] at hd
  refine hd.mono ?_
  rintro e w2 ⟨v2, rfl, ho2, hb2⟩
  exact ⟨v2, rfl, Kd.R_lower ho2 (by omega), ⟨hb2.os.trans hal.os, hb2.tape.trans hal.tape, hb2.output.trans hal.output, by have := hb2.size; omega, fun k hk => (hb2.block k (by omega)).trans (hal.block k hk)⟩⟩
def impl_both.f (l0 : List Int) (l1 : List Int) : Option (List Int) := if l0.length * 8 ≤ 140737488355328 then some (l0.filter fun x => l1.contains x) else none
set_option maxHeartbeats 1000000 in
set_option maxRecDepth 100000 in
theorem impl_both.calls (A0 : Option Addr) (c0 : Nat) (l0 : List Int) (A1 : Option Addr) (c1 : Nat) (l1 : List Int) (r : List Int) (w : World) (hr0 : Kd.C (Kd.int .i64) w A0 l0.length l0) (hc0 : l0.length ≤ c0) (hr1 : Kd.C (Kd.int .i64) w A1 l1.length l1) (hc1 : l1.length ≤ c1) (h : impl_both.f l0 l1 = some r) :
    Calls Try.prog 64 #[.slice A0 l0.length c0, .slice A1 l1.length c1] w fun e w' => ∃ v0_ : Value, e = .returned (v0_) ∧ Kd.R (Kd.int .i64) 3 w' w.heap.size (fun _ => True) v0_ r ∧ Below w.heap.size w w' := by
  unfold impl_both.f at h
  by_cases hb : l0.length * 8 ≤ 140737488355328
  · rw [if_pos hb] at h
    obtain rfl := Option.some.inj h
    clear h
    have hcl := fun (W : World) (hW : Kd.C (Kd.int .i64) W A0 l0.length l0) => slices_Clone_int_int.calls A0 c0 l0 l0 W hW hc0 (by unfold slices_Clone_int_int.f; rw [if_pos hb])
    have HR0 := Aside0.mk hr0
    have HR1 := Aside0.mk hr1
    have HC1 := Aside0.mk hc1
    have HCL := Aside0.mk hcl
    clear hr0 hr1 hc1 hcl hb hc0
    go_enter Try.func64, Try.ntmps64
    go_wp2_with (first | (go_at_call 29; refine (HCL.out _ (Kd.C_alloc HR0.out _)).mono ?_; rintro e w' ⟨v, rfl, ho, hb'⟩; have HO := Aside0.mk ho; have HB := Aside0.mk hb'; clear ho hb'))
    go_wp2_with (first | (go_at_call 59; refine (bothDel A1 c1 l0 l1 v w w' HR1.out HC1.out HB.out HO.out).mono ?_; rintro e w2 ⟨v2, rfl, ho2, hb2⟩; have HO2 := Aside0.mk ho2; have HB2 := Aside0.mk hb2; clear ho2 hb2))
    go_ret
    exact ⟨_, rfl, HO2.out, HB2.out⟩
  · rw [if_neg hb] at h
    cases h
end Go.Proofs.Ytdnidldinafakaa.Pr
