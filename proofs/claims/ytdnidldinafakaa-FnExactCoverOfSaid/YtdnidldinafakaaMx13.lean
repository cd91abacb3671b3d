/- Several small texts together: EGrowInt, Am. No condition but those they name. -/
import Derived.Test.YtdnidldinafakaaPr0
import Derived.Test.YtdnidldinafakaaMx17
import Derived.Test.YtdnidldinafakaaWZeros
import Derived.Test.YtdnidldinafakaaPr12
/- slices.Grow at numbers, for the nil slice alone (slices.Concat hands it no other): a row of one's own without elements. Condition: a length that Go can make room for. -/
namespace Go.Proofs.Ytdnidldinafakaa.Pr
open Go.RowKit Go.Proofs.YtdnidldinafakaaW.PrintWords Go.Proofs.YtdnidldinafakaaW.PrintLast Go.Proofs.YtdnidldinafakaaW.PrintMore
set_option linter.unusedVariables false
set_option linter.unusedSimpArgs false
def slices_Grow_int_int.f (l0 : List Int) (a1 : Int) : Option (List Int) := if l0 = [] ∧ 0 ≤ a1 ∧ a1 * 8 ≤ 140737488351232 then some [] else none
set_option maxHeartbeats 2000000 in
set_option maxRecDepth 100000 in
theorem slices_Grow_int_int.calls (A0 : Option Addr) (c0 : Nat) (l0 : List Int) (a1 : Int) (r : List Int) (w : World) (hr0 : match A0 with | none => Kd.C (Kd.int .i64) w none l0.length l0 | some _ => False) (hc0 : c0 ≤ l0.length) (h : slices_Grow_int_int.f l0 a1 = some r) :
    Calls Try.prog 79 #[.slice A0 l0.length c0, .int .i64 a1] w fun e w' => ∃ v0_ : Value, e = .returned (v0_) ∧ Kd.R (Kd.int .i64) 3 w' w.heap.size (fun _ => True) v0_ r ∧ Below w.heap.size w w' := by
  unfold slices_Grow_int_int.f at h
  by_cases hb : l0 = [] ∧ 0 ≤ a1 ∧ a1 * 8 ≤ 140737488351232
  · rw [if_pos hb] at h
    obtain rfl := Option.some.inj h
    obtain ⟨rfl, h0, h1⟩ := hb
    obtain rfl : c0 = 0 := by simpa using hc0
    cases A0 with
    | some _ => exact hr0.elim
    | none =>
      have b1 : decide (a1 < 0) = false := decide_eq_false (by omega)
      have hw0 : wrap64 (0 - 0) = 0 := by rw [Pl.wrap_in (by omega) (by omega)]; rfl
      have hw : wrap64 (a1 - 0) = a1 := by rw [Pl.wrap_in (by omega) (by omega)]; omega
      have hw0' : wrap64 0 = 0 := Pl.wrap_in (by omega) (by omega)
      have hw' : wrap64 a1 = a1 := Pl.wrap_in (by omega) (by omega)
      by_cases hz : 0 < a1
      · have b2 : decide (0 < a1) = true := decide_eq_true hz
        obtain ⟨i0, hi0, _, hsz, _⟩ := info_parts info3
        have hcut := fun (A : Option Addr) (n c : Nat) (hc : n ≤ c) => cut_to (P := Try.prog) 37 3 .i64 Try.underlying37 hi0 A n c 0 (by omega) (by omega) hc
        have HCUT := Aside0.mk hcut
        clear hcut hi0 hsz
        have H0 := Aside0.mk h0
        have H1 := Aside0.mk h1
        have HW := Aside0.mk hw'
        clear h hr0 hc0 h0 h1 hz
        go_enter Try.func79, Try.ntmps79
        go_wp2_with (first | ((with_reducible refine gate_builtin (b := .append) (xs := #[.tmp 20, .tmp 21]) rfl ?_); at_builtin; go_loud (refine Kd.R_append_zeros (Kd.int .i64) (w0 := w) w.heap.size rfl (.tmp 20) (.tmp 21) 37 3 3 (.int .i64 0) 8 rfl Try.underlying37 Try.underlying3 info3 rfl (by decide) (by omega) _ ([] : List Int) (0 : Int) (wrap64 a1) (fun _ => True) rfl rfl rfl (fun _ _ => trivial) (Kd.R_nil _ _ _ _ _) (by rw [HW.out]; exact H0.out) (Below.refl _ _) (Nat.le_refl _) ?aL ?_); (case aL => have := H1.out; have := H0.out; rw [HW.out]; simp; omega); intro v22 w22 ho hb22 hg22 hat22; go_loud (obtain ⟨A22, c22, rfl⟩ := Kd.R_slice ho; have hsl := HCUT.out A22 _ c22 (Kd.R_reads' ho).2.1); have HO := Aside0.mk ho; have HB := Aside0.mk hb22; clear ho hb22 hg22 hat22))
        go_ret
        exact ⟨_, rfl, by simpa using Kd.R_take (m := 0) HO.out (Nat.zero_le _), HB.out⟩
      · have b2 : decide (0 < a1) = false := decide_eq_false hz
        clear h hr0 hc0 h0 h1 hz
        go_enter Try.func79, Try.ntmps79
        go_wp2
        go_ret
        exact ⟨_, rfl, Kd.R_nil _ _ _ _ _, Below.refl _ _⟩
  · rw [if_neg hb] at h
    cases h
end Go.Proofs.Ytdnidldinafakaa.Pr

/- What the marks in a list of numbers tell. Conditions: marks that Go can hold. -/
namespace Go.Proofs.Ytdnidldinafakaa.Ax
open Go.RowKit Go.Proofs.Ytdnidldinafakaa.Pr Go.Proofs.Ytdnidldinafakaa.Pl Go.Proofs.YtdnidldinafakaaW.PrintWords Go.Proofs.YtdnidldinafakaaW.PrintLast Go.Proofs.YtdnidldinafakaaW.PrintMore
set_option linter.unusedVariables false
set_option linter.unusedSimpArgs false
def mkL : Nat → Int → List Int
  | 0, _ => []
  | n + 1, k => k :: mkL n (k + 1)
theorem mkL_length : ∀ (n : Nat) (k : Int), (mkL n k).length = n
  | 0, _ => rfl
  | n + 1, k => by rw [mkL, List.length_cons, mkL_length n]
theorem mkL_snoc : ∀ (n : Nat) (k : Int), mkL (n + 1) k = mkL n k ++ [k + n]
  | 0, k => by simp [mkL]
  | n + 1, k => by
    rw [mkL, mkL_snoc n (k + 1), mkL]
    simp
    omega
theorem markIntS_l0 (n : Nat) (k0 : Int) (h0 : 0 ≤ k0) (hb : k0 + n < 9223372036854775807) : ∀ (d j : Nat) (xs : List Int), xs.length = n → n - j = d → j ≤ n → xs.take j = mkL j k0 →
    Ev (fun k => laws_markIntS.l0 k xs (k0 + j) (j : Int)) (k0 + n, mkL n k0)
  | 0, j, xs, hl, hd, hj, hp => by
    obtain rfl : j = n := by omega
    refine ev_succ ?_
    simp only [laws_markIntS.l0]
    simp only [if_neg (show ¬ ((j : Int) < (xs.length : Int)) by omega)]
    refine ev_now ?_
    rw [← hp, List.take_of_length_le (by omega)]
  | d + 1, j, xs, hl, hd, hj, hp => by
    refine ev_succ ?_
    simp only [laws_markIntS.l0]
    simp only [if_pos (show (j : Int) < (xs.length : Int) by omega), if_pos (show (0 : Int) ≤ (j : Int) by omega), wrap_succ (show j < 9223372036854775807 by omega), wrap_in (show -9223372036854775808 ≤ k0 + j + 1 by omega) (show k0 + j + 1 < 9223372036854775808 by omega), Int.toNat_natCast]
    have := markIntS_l0 n k0 h0 hb d (j + 1) (xs.set j (k0 + j)) (by simpa using hl) (by omega) (by omega) (by
      rw [mkL_snoc, List.take_add_one, List.getElem?_set_self (by omega), List.take_set_of_le (Nat.le_refl _), hp]
      rfl)
    rwa [show k0 + ((j + 1 : Nat) : Int) = k0 + j + 1 by omega] at this
theorem markIntS_ev (xs : List Int) (k0 : Int) (h0 : 0 ≤ k0) (hb : k0 + xs.length < 9223372036854775807) : Ev (fun k => laws_markIntS.f k xs k0) (k0 + xs.length, mkL xs.length k0) := by
  have := markIntS_l0 xs.length k0 h0 hb xs.length 0 xs rfl (by omega) (by omega) rfl
  simpa [laws_markIntS.f] using this
theorem heldIntS_l0 (xs : List Int) (hx : xs.length < 9223372036854775807) (n : Nat) : ∀ (j : Nat) (k0 : Int), 0 ≤ k0 → k0 + n < 9223372036854775807 → xs.drop j = mkL n k0 →
    Ev (fun k => laws_heldIntS.l0 k xs k0 (j : Int)) (k0 + n) := by
  induction n with
  | zero =>
    intro j k0 h0 hb h
    rw [mkL] at h
    have h1 := drop_nil h
    refine ev_succ ?_
    simp only [laws_heldIntS.l0]
    simp only [if_neg (show ¬ ((j : Int) < (xs.length : Int)) by omega)]
    exact ev_now (by simp)
  | succ n ih =>
    intro j k0 h0 hb h
    rw [mkL] at h
    obtain ⟨h1, h2, h3⟩ := drop_cons h
    refine ev_succ ?_
    simp only [laws_heldIntS.l0]
    simp only [if_pos (show (j : Int) < (xs.length : Int) by omega), if_pos (show (0 : Int) ≤ (j : Int) by omega), rd_drop h, if_true, wrap_succ (show j < 9223372036854775807 by omega), wrap_in (show -9223372036854775808 ≤ k0 + 1 by omega) (show k0 + 1 < 9223372036854775808 by omega)]
    have := ih (j + 1) (k0 + 1) (by omega) (by omega) h3
    rwa [show k0 + 1 + (n : Int) = k0 + ((n + 1 : Nat) : Int) by omega] at this
theorem heldIntS_ev (n : Nat) (k0 : Int) (h0 : 0 ≤ k0) (hb : k0 + n < 9223372036854775807) : Ev (fun k => laws_heldIntS.f k (mkL n k0) k0) (k0 + n) := by
  have := heldIntS_l0 (mkL n k0) (by rw [mkL_length]; omega) n 0 k0 h0 hb rfl
  simpa [laws_heldIntS.f] using this
end Go.Proofs.Ytdnidldinafakaa.Ax
