/- slices.Compare over numbers: what it comes to, and that it orders. Conditions: lengths that Go can hold. -/
import Derived.Test.YtcengijoicmldaaPr1
import Derived.Test.YtcengijoicmldaaPl
import Derived.Test.YtcengijoicmldaaESortRows
import Derived.Test.YtcengijoicmldaaOrd
namespace Go.Proofs.Ytcengijoicmldaa.Ax
open Go.RowKit Go.Sort Go.Proofs Go.Proofs.Ytcengijoicmldaa.Pr Go.Proofs.Ytcengijoicmldaa.Pl Go.Proofs.YtcengijoicmldaaW.PrintWords Go.Proofs.YtcengijoicmldaaW.PrintLast Go.Proofs.YtcengijoicmldaaW.PrintMore
set_option linter.unusedVariables false
set_option linter.unusedSimpArgs false
def cmpL : List Int → List Int → Int
  | [], [] => 0
  | [], _ :: _ => -1
  | _ :: _, [] => 1
  | x :: xs, y :: ys => if x < y then -1 else if x > y then 1 else cmpL xs ys
theorem cmpL_self : ∀ a : List Int, cmpL a a = 0
  | [] => rfl
  | x :: xs => by simp [cmpL, cmpL_self xs]
theorem cmpL_trans : ∀ a b c : List Int, cmpL a b < 0 → cmpL b c < 0 → cmpL a c < 0
  | [], [], c, h, _ => absurd h (by simp [cmpL])
  | [], _ :: _, [], _, h => absurd h (by simp [cmpL])
  | [], _ :: _, _ :: _, _, _ => by simp [cmpL]
  | _ :: _, [], _, h, _ => absurd h (by simp [cmpL])
  | _ :: _, _ :: _, [], _, h => absurd h (by simp [cmpL])
  | x :: xs, y :: ys, z :: zs, h1, h2 => by
    have ih := cmpL_trans xs ys zs
    simp only [cmpL] at h1 h2 ⊢
    split at h1
    · split at h2
      · rw [if_pos (by omega)]; omega
      · split at h2
        · omega
        · rw [if_pos (by omega)]; omega
    · split at h1
      · omega
      · split at h2
        · rw [if_pos (by omega)]; omega
        · split at h2
          · omega
          · rw [if_neg (by omega), if_neg (by omega)]
            exact ih h1 h2
theorem cmpL_ntrans : ∀ a b c : List Int, ¬ cmpL a b < 0 → ¬ cmpL b c < 0 → ¬ cmpL a c < 0
  | [], [], c, _, h => h
  | [], _ :: _, _, h, _ => absurd (by simp [cmpL]) h
  | _ :: _, _, [], _, _ => by simp [cmpL]
  | _ :: _, [], _ :: _, _, h => absurd (by simp [cmpL]) h
  | x :: xs, y :: ys, z :: zs, h1, h2 => by
    have ih := cmpL_ntrans xs ys zs
    simp only [cmpL] at h1 h2 ⊢
    split at h1
    · omega
    · split at h2
      · omega
      · rw [if_neg (by omega)]
        split at h1
        · rw [if_pos (by omega)]; omega
        · split at h2
          · rw [if_pos (by omega)]; omega
          · rw [if_neg (by omega)]
            exact ih h1 h2
theorem cmpL_tot : ∀ a b : List Int, ¬ cmpL a b < 0 → a ≠ b → cmpL b a < 0
  | [], [], _, h => absurd rfl h
  | [], _ :: _, h, _ => absurd (by simp [cmpL]) h
  | _ :: _, [], _, _ => by simp [cmpL]
  | x :: xs, y :: ys, h1, h2 => by
    have ih := cmpL_tot xs ys
    simp only [cmpL] at h1 ⊢
    split at h1
    · omega
    · split at h1
      · rw [if_pos (by omega)]; omega
      · rw [if_neg (by omega), if_neg (by omega)]
        have : x = y := by omega
        subst this
        exact ih h1 (fun h => h2 (by rw [h]))
def ltL (a b : List Int) : Bool := decide (cmpL a b < 0)
theorem ltL_ord : IsOrd ltL := ⟨fun a => by simp [ltL, cmpL_self], fun a b c h1 h2 => by
    simp only [ltL, decide_eq_true_eq] at h1 h2 ⊢
    exact cmpL_trans _ _ _ h1 h2, fun a b h1 h2 => by
    simp only [ltL, decide_eq_true_eq, decide_eq_false_iff_not] at h1 ⊢
    exact cmpL_tot _ _ h1 h2⟩
theorem cmpL_swo {β : Type} (r : β → List Int) : SWO (ltOf fun i j => cmpL (r i) (r j)) := by
  refine ⟨fun x => ?_, fun x y z h1 h2 => ?_, fun x y z h1 h2 => ?_⟩
  · simp [ltOf, cmpL_self]
  · simp only [ltOf, decide_eq_true_eq] at h1 h2 ⊢
    exact cmpL_trans _ _ _ h1 h2
  · simp only [ltOf, decide_eq_false_iff_not] at h1 h2 ⊢
    exact cmpL_ntrans _ _ _ h1 h2
theorem cmpL_int (x y : Int) : cmp_Compare_int.f x y = some (if x < y then -1 else if x > y then 1 else 0) := by
  simp only [cmp_Compare_int.f, cmp_isNaN_int.f, Option.bind_some]
  by_cases c1 : x < y
  · simp [c1]
  · by_cases c2 : x > y
    · simp [c1, c2]
    · simp [c1, c2]
theorem cmpL_l0 (a b : List Int) (ha : a.length ≤ 9223372036854775807) (hb : b.length ≤ 9223372036854775807) : ∀ (xs : List Int) (j : Nat), a.drop j = xs → j ≤ a.length → j ≤ b.length → Ev (fun k => slices_Compare_int_int.l0 k a b a (a.length : Int) (j : Int)) (cmpL xs (b.drop j))
  | [], j, h, hja, hj => by
    have h1 := drop_nil h
    refine ev_succ ?_
    simp only [slices_Compare_int_int.l0, if_neg (show ¬ ((j : Int) < (a.length : Int)) by omega)]
    cases e : b.drop j with
    | nil =>
      have h2 := drop_nil e
      rw [if_neg (by omega)]
      exact ev_now rfl
    | cons y ys =>
      obtain ⟨h2, _, _⟩ := drop_cons e
      rw [if_pos (by omega)]
      exact ev_now rfl
  | x :: xs, j, h, hja, hj => by
    obtain ⟨h1, _, h3⟩ := drop_cons h
    refine ev_succ ?_
    simp only [slices_Compare_int_int.l0, if_pos (show (j : Int) < (a.length : Int) by omega), if_pos (show (0 : Int) ≤ (j : Int) by omega)]
    cases e : b.drop j with
    | nil =>
      have h2 := drop_nil e
      simp only [if_pos (show (j : Int) ≥ (b.length : Int) by omega)]
      exact ev_now rfl
    | cons y ys =>
      obtain ⟨h2, _, h4⟩ := drop_cons e
      have ih := cmpL_l0 a b ha hb xs (j + 1) h3 (by omega) (by omega)
      rw [h4] at ih
      simp only [if_neg (show ¬ ((j : Int) ≥ (b.length : Int)) by omega), if_pos (show (j : Int) < (b.length : Int) by omega), rd_drop h, rd_drop e, cmpL_int, Option.bind_some, wrap_succ (show j < 9223372036854775807 by omega)]
      by_cases c1 : x < y
      · simp only [if_pos c1, cmpL]
        exact ev_now (by simp)
      · by_cases c2 : x > y
        · simp only [if_neg c1, if_pos c2, cmpL]
          exact ev_now (by simp)
        · simp only [if_neg c1, if_neg c2, if_true, cmpL]
          exact ih
theorem cmpL_ev (a b : List Int) (ha : a.length ≤ 9223372036854775807) (hb : b.length ≤ 9223372036854775807) : Ev (fun k => slices_Compare_int_int.f k a b) (cmpL a b) := cmpL_l0 a b ha hb a 0 rfl (Nat.zero_le _) (Nat.zero_le _)
end Go.Proofs.Ytcengijoicmldaa.Ax
