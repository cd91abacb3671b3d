/- What the laws' own helpers over lists of numbers tell: the copy, the comparison, the marks. Conditions: lengths that Go can hold. -/
import Derived.Test.YtmjcaajlklidmaaPr7
import Derived.Test.YtmjcaajlklidmaaPr8
import Derived.Test.YtmjcaajlklidmaaPl
namespace Go.Proofs.Ytmjcaajlklidmaa.Ax
open Go.RowKit Go.Proofs.Ytmjcaajlklidmaa.Pr Go.Proofs.Ytmjcaajlklidmaa.Pl Go.Proofs.YtmjcaajlklidmaaW.PrintWords Go.Proofs.YtmjcaajlklidmaaW.PrintLast Go.Proofs.YtmjcaajlklidmaaW.PrintMore
set_option linter.unusedVariables false
set_option linter.unusedSimpArgs false

theorem toIntS_l0 (xs : List Int) (hb : xs.length < 9223372036854775807) : ∀ (ys : List Int) (j : Nat) (out : List Int), xs.drop j = ys → j ≤ xs.length → out.length = xs.length → out.take j = xs.take j →
    Ev (fun k => laws_toIntS.l0 k xs out (j : Int)) xs
  | [], j, out, h, hj, ho, hp => by
    have h1 := drop_nil h
    refine ev_succ ?_
    simp only [laws_toIntS.l0]
    simp only [if_neg (show ¬ ((j : Int) < (xs.length : Int)) by omega)]
    refine ev_now ?_
    have e1 : out.take j = out := List.take_of_length_le (by omega)
    have e2 : xs.take j = xs := List.take_of_length_le (by omega)
    rw [← e1, hp, e2]
  | y :: ys, j, out, h, hj, ho, hp => by
    obtain ⟨h1, h2, h3⟩ := drop_cons h
    have hs := set_end h ho hp
    refine ev_succ ?_
    simp only [laws_toIntS.l0]
    simp only [if_pos (show (j : Int) < (xs.length : Int) by omega), if_pos (show (0 : Int) ≤ (j : Int) by omega), if_pos (show (j : Int) < (out.length : Int) by omega), rd_drop h, wrap_succ (show j < 9223372036854775807 by omega), Int.toNat_natCast]
    exact toIntS_l0 xs hb ys (j + 1) (out.set j y) h3 (by omega) hs.1 hs.2
theorem toIntS_ev (xs : List Int) (hb : xs.length ≤ 35184372088832) : Ev (fun k => laws_toIntS.f k xs) xs := by
  simp only [laws_toIntS.f]
  simp only [if_pos (show (0 : Int) ≤ (xs.length : Int) by omega), Int.toNat_natCast, if_pos hb]
  exact toIntS_l0 xs (by omega) xs 0 _ rfl (by omega) (by simp) (by simp)

theorem eqIntS_l0 (xs ys : List Int) (hl : xs.length = ys.length) (hb : xs.length < 9223372036854775807) : ∀ (us vs : List Int) (j : Nat), xs.drop j = us → ys.drop j = vs →
    Ev (fun k => laws_eqIntS.l0 k xs ys (j : Int)) (decide (us = vs))
  | [], vs, j, h, h' => by
    have h1 := drop_nil h
    have h2 : vs = [] := by rw [← h']; exact List.drop_of_length_le (by omega)
    refine ev_succ ?_
    simp only [laws_eqIntS.l0]
    simp only [if_neg (show ¬ ((j : Int) < (xs.length : Int)) by omega)]
    exact ev_now (by simp [h2])
  | u :: us, vs, j, h, h' => by
    obtain ⟨h1, h2, h3⟩ := drop_cons h
    cases vs with
    | nil =>
      have := drop_nil h'
      omega
    | cons v vs =>
      obtain ⟨k1, k2, k3⟩ := drop_cons h'
      refine ev_succ ?_
      simp only [laws_eqIntS.l0]
      simp only [if_pos (show (j : Int) < (xs.length : Int) by omega), if_pos (show (0 : Int) ≤ (j : Int) by omega), if_pos (show (j : Int) < (ys.length : Int) by omega), rd_drop h, rd_drop h', wrap_succ (show j < 9223372036854775807 by omega)]
      by_cases e : u = v
      · simp only [if_pos e]
        have := eqIntS_l0 xs ys hl hb us vs (j + 1) h3 k3
        simpa [e] using this
      · simp only [if_neg e]
        exact ev_now (by simp [e])
theorem eqIntS_ev (xs ys : List Int) (hb : xs.length < 9223372036854775807) : Ev (fun k => laws_eqIntS.f k xs ys) (decide (xs = ys)) := by
  simp only [laws_eqIntS.f]
  by_cases hl : xs.length = ys.length
  · simp only [if_pos (show (xs.length : Int) = (ys.length : Int) by omega)]
    exact eqIntS_l0 xs ys hl hb xs ys 0 rfl rfl
  · simp only [if_neg (show ¬ (xs.length : Int) = (ys.length : Int) by omega)]
    refine ev_now ?_
    rw [eq_comm, decide_eq_false_iff_not]
    exact fun e => hl (by rw [e])

end Go.Proofs.Ytmjcaajlklidmaa.Ax
