/- slices.ContainsFunc over numbers, and impl.hasAll. No condition. -/
import Derived.Test.YtdnidldinafakaaPr1
import Derived.Test.YtdnidldinafakaaMx8
import Derived.Test.YtdnidldinafakaaMx4
import Derived.Test.YtdnidldinafakaaWFoot
namespace Go.Proofs.Ytdnidldinafakaa.Pr
open Go.RowKit Go.Proofs.YtdnidldinafakaaW.PrintWords Go.Proofs.YtdnidldinafakaaW.PrintLast Go.Proofs.YtdnidldinafakaaW.PrintMore
set_option linter.unusedVariables false
set_option linter.unusedSimpArgs false
set_option maxHeartbeats 1000000 in
theorem ConInt (g : Nat) (lb : Array Value) (eg : ∀ args w, (callFunc g args).run Try.prog w = .ok (.enter g args) w) (p : Int → Bool) (A : Option Addr) (c : Nat) (l : List Int) (w : World) (hr : Kd.C (Kd.int .i64) w A l.length l)
    (hp : ∀ (W : World) (x : Int), Below w.heap.size w W → Calls Try.prog g (#[.int .i64 x] ++ lb) W fun e w' => e = .returned (.bool (p x)) ∧ Below W.heap.size W w') :
    Calls Try.prog 37 #[.slice A l.length c, .func (.func g) #[] lb] w fun e w' => e = .returned (.bool (l.any p)) ∧ Below w.heap.size w w' := by
  have hi := IdxInt g lb eg p A c l w hr hp
  clear hr hp
  go_enter Try.func37, Try.ntmps37
  go_wp2_with (first | (go_at_call 58; refine hi.mono ?_; rintro e w' ⟨i, rfl, hx, hb'⟩; have HB' := Aside0.mk hb'; have HX := Aside0.mk (IsIdx_any hx); clear hb' hi hx))
  go_ret
  exact ⟨by rw [← HX.out]; first | rfl | simp | (congr 2; simp) , HB'.out⟩
set_option maxHeartbeats 1000000 in
set_option maxRecDepth 100000 in
theorem hasAll1 (x : Int) (B : Nat) (A1 : Option Addr) (c1 : Nat) (l1 : List Int) (w : World) (hcell : w.cell? ⟨B, 0, none⟩ = some (.slice A1 l1.length c1)) (hr : Kd.C (Kd.int .i64) w A1 l1.length l1) (hc : l1.length ≤ c1) :
    Calls Try.prog 75 (#[.int .i64 x] ++ #[.pointer (some ⟨B, 0, none⟩)]) w fun e w' => e = .returned (.bool (!l1.contains x)) ∧ Below w.heap.size w w' := by
  obtain ⟨k, hk⟩ := Ev.rounds (Ax.contains_ev l1 x (by have := hr.2.1; omega))
  have hcon := fun (W : World) (hW : Kd.C (Kd.int .i64) W A1 l1.length l1) => slices_Contains_int_int.calls k A1 c1 l1 x _ W hW hc hk
  generalize l1.contains x = bb at hcon
  have HR := Aside0.mk hr
  have HH := Aside0.mk hcon
  clear hr hcon hk hc
  show Calls Try.prog 75 #[.int .i64 x, .pointer (some ⟨B, 0, none⟩)] w _
  go_enter Try.func75, Try.ntmps75
  go_wp2_with (first | (go_at_call 61; refine (HH.out _ HR.out).mono ?_; rintro e w' ⟨rfl, ⟨nd, rfl⟩⟩))
  go_ret
  exact ⟨rfl, pw_below_drewN (Below.refl _ _) _⟩
set_option maxHeartbeats 1000000 in
theorem hasAllCon (A0 : Option Addr) (c0 : Nat) (l0 : List Int) (A1 : Option Addr) (c1 : Nat) (l1 : List Int) (w : World) (hr0 : Kd.C (Kd.int .i64) w A0 l0.length l0) (hc0 : l0.length ≤ c0) (hr1 : Kd.C (Kd.int .i64) w A1 l1.length l1) :
    Calls Try.prog 37 #[.slice A1 l1.length c1, .func (.func 75) #[] #[.pointer (some ⟨w.heap.size, 0, none⟩)]] (w.alloc (.cells #[.slice A0 l0.length c0] 37)) fun e w' => e = .returned (.bool (l1.any fun x => !l0.contains x)) ∧ Below w.heap.size w w' := by
  have hbx := boxed_cell w (.slice A0 l0.length c0) 37
  have hsz := boxed_size w (.cells #[.slice A0 l0.length c0] 37)
  have hal := below_alloc (Below.refl w.heap.size w) (.cells #[.slice A0 l0.length c0] 37)
  generalize w.alloc (.cells #[.slice A0 l0.length c0] 37) = w1 at hbx hsz hal ⊢
  have hra := Kd.C_below hr0 hal
  have hrb := Kd.C_below hr1 hal
  refine (ConInt 75 #[.pointer (some ⟨w.heap.size, 0, none⟩)] (enters_of Try.func75 rfl rfl) (fun x => !l0.contains x) A1 c1 l1 w1 hrb (fun W x hb => ?_)).mono ?_
  · exact hasAll1 x w.heap.size A0 c0 l0 W ((hb.cell (by rw [hsz]; exact Nat.lt_succ_self _)).trans hbx) (Kd.C_below hra hb) hc0
  · rintro e w2 ⟨rfl, hb2⟩
    exact ⟨rfl, ⟨hb2.os.trans hal.os, hb2.tape.trans hal.tape, hb2.output.trans hal.output, by have := hb2.size; omega, fun k hk => (hb2.block k (by omega)).trans (hal.block k hk)⟩⟩
def impl_hasAll.f (l0 : List Int) (l1 : List Int) : Option Bool := some (l1.all fun x => l0.contains x)
set_option maxHeartbeats 1000000 in
set_option maxRecDepth 100000 in
theorem impl_hasAll.calls (A0 : Option Addr) (c0 : Nat) (l0 : List Int) (A1 : Option Addr) (c1 : Nat) (l1 : List Int) (r : Bool) (w : World) (hr0 : Kd.C (Kd.int .i64) w A0 l0.length l0) (hc0 : l0.length ≤ c0) (hr1 : Kd.C (Kd.int .i64) w A1 l1.length l1) (hc1 : l1.length ≤ c1) (h : impl_hasAll.f l0 l1 = some r) :
    Calls Try.prog 57 #[.slice A0 l0.length c0, .slice A1 l1.length c1] w fun e w' => e = .returned (.bool r) ∧ Below w.heap.size w w' := by
  unfold impl_hasAll.f at h
  obtain rfl := Option.some.inj h
  have hcon := hasAllCon A0 c0 l0 A1 c1 l1 w hr0 hc0 hr1
  have hany : (l1.any fun x => !l0.contains x) = !(l1.all fun x => l0.contains x) := by rw [List.not_all_eq_any_not]
  rw [hany] at hcon
  generalize (l1.all fun x => l0.contains x) = bb at hcon ⊢
  clear hany hr0 hr1 hc0 hc1 h
  go_enter Try.func57, Try.ntmps57
  go_wp2_with (first | (go_at_call 37; refine hcon.mono ?_; rintro e w' ⟨rfl, hb⟩; have HB := Aside0.mk hb; clear hb))
  go_ret
  exact ⟨by simp, HB.out⟩
end Go.Proofs.Ytdnidldinafakaa.Pr
