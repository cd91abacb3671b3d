/- What the marks in a list of numbers tell. Conditions: marks that Go can hold. -/
import Derived.Test.YtfafegglmmkmbaaPr2
import Derived.Test.YtfafegglmmkmbaaPl
namespace Go.Proofs.Ytfafegglmmkmbaa.Ax
open Go.RowKit Go.Proofs.Ytfafegglmmkmbaa.Pr Go.Proofs.Ytfafegglmmkmbaa.Pl Go.Proofs.YtfafegglmmkmbaaW.PrintWords Go.Proofs.YtfafegglmmkmbaaW.PrintLast Go.Proofs.YtfafegglmmkmbaaW.PrintMore
set_option linter.unusedVariables false
set_option linter.unusedSimpArgs false
/-- Numbers that are counted up. -/
def mkL : Nat → Int → List Int
  | 0, _ => []
  | n + 1, k => k :: mkL n (k + 1)
theorem mkL_length : ∀ (n : Nat) (k : Int), (mkL n k).length = n
  | 0, _ => rfl
  | n + 1, k => by rw [mkL, List.length_cons, mkL_length n]
theorem mkL_snoc : ∀ (n : Nat) (k : Int), mkL (n + 1) k = mkL n k ++ [k + n]
  | 0, k => by simp [mkL]
  | n + 1, k => by
    rw [mkL, mkL_snoc n (k + 1), mkL]
    simp
    omega
theorem markIntS_l0 (n : Nat) (k0 : Int) (h0 : 0 ≤ k0) (hb : k0 + n < 9223372036854775807) : ∀ (d j : Nat) (xs : List Int), xs.length = n → n - j = d → j ≤ n → xs.take j = mkL j k0 →
    Ev (fun k => laws_markIntS.l0 k xs (k0 + j) (j : Int)) (k0 + n, mkL n k0)
  | 0, j, xs, hl, hd, hj, hp => by
    obtain rfl : j = n := by omega
    refine ev_succ ?_
    simp only [laws_markIntS.l0]
    simp only [if_neg (show ¬ ((j : Int) < (xs.length : Int)) by omega)]
    refine ev_now ?_
    rw [← hp, List.take_of_length_le (by omega)]
  | d + 1, j, xs, hl, hd, hj, hp => by
    refine ev_succ ?_
    simp only [laws_markIntS.l0]
    simp only [if_pos (show (j : Int) < (xs.length : Int) by omega), if_pos (show (0 : Int) ≤ (j : Int) by omega), wrap_succ (show j < 9223372036854775807 by omega), wrap_in (show -9223372036854775808 ≤ k0 + j + 1 by omega) (show k0 + j + 1 < 9223372036854775808 by omega), Int.toNat_natCast]
    have := markIntS_l0 n k0 h0 hb d (j + 1) (xs.set j (k0 + j)) (by simpa using hl) (by omega) (by omega) (by
      rw [mkL_snoc, List.take_add_one, List.getElem?_set_self (by omega), List.take_set_of_le (Nat.le_refl _), hp]
      rfl)
    rwa [show k0 + ((j + 1 : Nat) : Int) = k0 + j + 1 by omega] at this
theorem markIntS_ev (xs : List Int) (k0 : Int) (h0 : 0 ≤ k0) (hb : k0 + xs.length < 9223372036854775807) : Ev (fun k => laws_markIntS.f k xs k0) (k0 + xs.length, mkL xs.length k0) := by
  have := markIntS_l0 xs.length k0 h0 hb xs.length 0 xs rfl (by omega) (by omega) rfl
  simpa [laws_markIntS.f] using this
theorem heldIntS_l0 (xs : List Int) (hx : xs.length < 9223372036854775807) (n : Nat) : ∀ (j : Nat) (k0 : Int), 0 ≤ k0 → k0 + n < 9223372036854775807 → xs.drop j = mkL n k0 →
    Ev (fun k => laws_heldIntS.l0 k xs k0 (j : Int)) (k0 + n) := by
  induction n with
  | zero =>
    intro j k0 h0 hb h
    rw [mkL] at h
    have h1 := drop_nil h
    refine ev_succ ?_
    simp only [laws_heldIntS.l0]
    simp only [if_neg (show ¬ ((j : Int) < (xs.length : Int)) by omega)]
    exact ev_now (by simp)
  | succ n ih =>
    intro j k0 h0 hb h
    rw [mkL] at h
    obtain ⟨h1, h2, h3⟩ := drop_cons h
    refine ev_succ ?_
    simp only [laws_heldIntS.l0]
    simp only [if_pos (show (j : Int) < (xs.length : Int) by omega), if_pos (show (0 : Int) ≤ (j : Int) by omega), rd_drop h, if_true, wrap_succ (show j < 9223372036854775807 by omega), wrap_in (show -9223372036854775808 ≤ k0 + 1 by omega) (show k0 + 1 < 9223372036854775808 by omega)]
    have := ih (j + 1) (k0 + 1) (by omega) (by omega) h3
    rwa [show k0 + 1 + (n : Int) = k0 + ((n + 1 : Nat) : Int) by omega] at this
theorem heldIntS_ev (n : Nat) (k0 : Int) (h0 : 0 ≤ k0) (hb : k0 + n < 9223372036854775807) : Ev (fun k => laws_heldIntS.f k (mkL n k0) k0) (k0 + n) := by
  have := heldIntS_l0 (mkL n k0) (by rw [mkL_length]; omega) n 0 k0 h0 hb rfl
  simpa [laws_heldIntS.f] using this
end Go.Proofs.Ytfafegglmmkmbaa.Ax
