/- slices.Grow at numbers, for the nil slice alone (slices.Concat hands it no other): a row of one's own without elements. Condition: a length that Go can make room for. -/
import Derived.Test.YtdnidldinafakaaPr0
import Derived.Test.YtdnidldinafakaaMx2
import Derived.Test.YtdnidldinafakaaWZeros
namespace Go.Proofs.Ytdnidldinafakaa.Pr
open Go.RowKit Go.Proofs.YtdnidldinafakaaW.PrintWords Go.Proofs.YtdnidldinafakaaW.PrintLast Go.Proofs.YtdnidldinafakaaW.PrintMore
set_option linter.unusedVariables false
set_option linter.unusedSimpArgs false
def slices_Grow_int_int.f (l0 : List Int) (a1 : Int) : Option (List Int) := if l0 = [] ∧ 0 ≤ a1 ∧ a1 * 8 ≤ 140737488351232 then some [] else none
set_option maxHeartbeats 2000000 in
set_option maxRecDepth 100000 in
theorem slices_Grow_int_int.calls (A0 : Option Addr) (c0 : Nat) (l0 : List Int) (a1 : Int) (r : List Int) (w : World) (hr0 : match A0 with | none => Kd.C (Kd.int .i64) w none l0.length l0 | some _ => False) (hc0 : c0 ≤ l0.length) (h : slices_Grow_int_int.f l0 a1 = some r) :
    Calls Try.prog 79 #[.slice A0 l0.length c0, .int .i64 a1] w fun e w' => ∃ v0_ : Value, e = .returned (v0_) ∧ Kd.R (Kd.int .i64) 3 w' w.heap.size (fun _ => True) v0_ r ∧ Below w.heap.size w w' := by
  unfold slices_Grow_int_int.f at h
  by_cases hb : l0 = [] ∧ 0 ≤ a1 ∧ a1 * 8 ≤ 140737488351232
  · rw [if_pos hb] at h
    obtain rfl := Option.some.inj h
    obtain ⟨rfl, h0, h1⟩ := hb
    obtain rfl : c0 = 0 := by simpa using hc0
    cases A0 with
    | some _ => exact hr0.elim
    | none =>
      have b1 : decide (a1 < 0) = false := decide_eq_false (by omega)
      have hw0 : wrap64 (0 - 0) = 0 := by rw [Pl.wrap_in (by omega) (by omega)]; rfl
      have hw : wrap64 (a1 - 0) = a1 := by rw [Pl.wrap_in (by omega) (by omega)]; omega
      have hw0' : wrap64 0 = 0 := Pl.wrap_in (by omega) (by omega)
      have hw' : wrap64 a1 = a1 := Pl.wrap_in (by omega) (by omega)
      by_cases hz : 0 < a1
      · have b2 : decide (0 < a1) = true := decide_eq_true hz
        obtain ⟨i0, hi0, _, hsz, _⟩ := info_parts info3
        have hcut := fun (A : Option Addr) (n c : Nat) (hc : n ≤ c) => cut_to (P := Try.prog) 37 3 .i64 Try.underlying37 hi0 A n c 0 (by omega) (by omega) hc
        have HCUT := Aside0.mk hcut
        clear hcut hi0 hsz
        have H0 := Aside0.mk h0
        have H1 := Aside0.mk h1
        have HW := Aside0.mk hw'
        clear h hr0 hc0 h0 h1 hz
        go_enter Try.func79, Try.ntmps79
        go_wp2_with (first | ((with_reducible refine gate_builtin (b := .append) (xs := #[.tmp 20, .tmp 21]) rfl ?_); at_builtin; go_loud (refine Kd.R_append_zeros (Kd.int .i64) (w0 := w) w.heap.size rfl (.tmp 20) (.tmp 21) 37 3 3 (.int .i64 0) 8 rfl Try.underlying37 Try.underlying3 info3 rfl (by decide) (by omega) _ ([] : List Int) (0 : Int) (wrap64 a1) (fun _ => True) rfl rfl rfl (fun _ _ => trivial) (Kd.R_nil _ _ _ _ _) (by rw [HW.out]; exact H0.out) (Below.refl _ _) (Nat.le_refl _) ?aL ?_); (case aL => have := H1.out; have := H0.out; rw [HW.out]; simp; omega); intro v22 w22 ho hb22 hg22 hat22; go_loud (obtain ⟨A22, c22, rfl⟩ := Kd.R_slice ho; have hsl := HCUT.out A22 _ c22 (Kd.R_reads' ho).2.1); have HO := Aside0.mk ho; have HB := Aside0.mk hb22; clear ho hb22 hg22 hat22))
        go_ret
        exact ⟨_, rfl, by simpa using Kd.R_take (m := 0) HO.out (Nat.zero_le _), HB.out⟩
      · have b2 : decide (0 < a1) = false := decide_eq_false hz
        clear h hr0 hc0 h0 h1 hz
        go_enter Try.func79, Try.ntmps79
        go_wp2
        go_ret
        exact ⟨_, rfl, Kd.R_nil _ _ _ _ _, Below.refl _ _⟩
  · rw [if_neg hb] at h
    cases h
end Go.Proofs.Ytdnidldinafakaa.Pr
