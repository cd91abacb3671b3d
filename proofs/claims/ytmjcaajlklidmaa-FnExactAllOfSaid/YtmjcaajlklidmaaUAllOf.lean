/- The law FnExactAllOf over numbers and lists alone. No condition. -/
import Derived.Test.YtmjcaajlklidmaaPr2
import Derived.Test.YtmjcaajlklidmaaPr7
import Derived.Test.YtmjcaajlklidmaaPr8
import Derived.Test.YtmjcaajlklidmaaOps
import Derived.Test.YtmjcaajlklidmaaA1t
import Derived.Test.YtmjcaajlklidmaaA1l
import Derived.Test.YtmjcaajlklidmaaAi
namespace Go.Proofs.Ytmjcaajlklidmaa.Pu
open Go.RowKit Go.Proofs.Ytmjcaajlklidmaa.Pr Go.Proofs.Ytmjcaajlklidmaa.Pl Go.Proofs.Ytmjcaajlklidmaa.Ax Go.Proofs.Ytmjcaajlklidmaa.Ops Go.Proofs.YtmjcaajlklidmaaW.PrintWords Go.Proofs.YtmjcaajlklidmaaW.PrintLast Go.Proofs.YtmjcaajlklidmaaW.PrintMore
set_option linter.unusedVariables false
set_option linter.unusedSimpArgs false
theorem sAllOf_l0 (xs : List Int) (hb : xs.length < 9223372036854775807) : ∀ (ys : List Int) (j : Nat) (m : Int), xs.drop j = ys →
    Ev (fun k => spec_AllOf.l0 k m xs (xs.length : Int) (j : Int)) (ys.foldl min m, true)
  | [], j, m, h => by
    have h1 := drop_nil h
    refine ev_succ ?_
    simp only [spec_AllOf.l0]
    simp only [if_neg (show ¬ ((j : Int) < (xs.length : Int)) by omega)]
    exact ev_now rfl
  | y :: ys, j, m, h => by
    obtain ⟨h1, h2, h3⟩ := drop_cons h
    have hm : spec_l1Least.f m y = some (min m y) := by
      unfold spec_l1Least.f
      split
      · rw [Int.min_eq_left (by omega)]
      · rw [Int.min_eq_right (by omega)]
    refine ev_succ ?_
    simp only [spec_AllOf.l0]
    simp only [if_pos (show (j : Int) < (xs.length : Int) by omega), if_pos (show (0 : Int) ≤ (j : Int) by omega), rd_drop h, hm, Option.bind_some, wrap_succ (show j < 9223372036854775807 by omega)]
    exact sAllOf_l0 xs hb ys (j + 1) (min m y) h3
theorem iAllOf_l0 (xs : List Int) (hb : xs.length < 9223372036854775807) : ∀ (ys : List Int) (j : Nat) (m : Int), xs.drop j = ys →
    Ev (fun k => impl_AllOf.l0 k m xs (xs.length : Int) (j : Int)) (if (ys.all fun n => win n 0 2) = true then (ys.foldl min m, true) else (0, false))
  | [], j, m, h => by
    have h1 := drop_nil h
    refine ev_succ ?_
    simp only [impl_AllOf.l0]
    simp only [if_neg (show ¬ ((j : Int) < (xs.length : Int)) by omega)]
    exact ev_now rfl
  | y :: ys, j, m, h => by
    obtain ⟨h1, h2, h3⟩ := drop_cons h
    refine ev_succ ?_
    simp only [impl_AllOf.l0]
    simp only [if_pos (show (j : Int) < (xs.length : Int) by omega), if_pos (show (0 : Int) ≤ (j : Int) by omega), rd_drop h, isTruth_eq, Option.bind_some, wrap_succ (show j < 9223372036854775807 by omega), mn_min]
    cases e : win y 0 2
    · simp only [Bool.false_eq_true, if_false]
      exact ev_now (by simp [e])
    · simp only [if_true]
      have := iAllOf_l0 xs hb ys (j + 1) (min m y) h3
      simpa [e] using this
/-- What both tell. -/
def allV (l : List Int) : Int × Bool := if l.length ≤ 20 ∧ (l.all fun n => win n 0 2) = true then (l.foldl min 2, true) else (0, false)
theorem sAllOf_ev (l : List Int) (hb : l.length < 9223372036854775807) : Ev (fun k => spec_AllOf.f k l) (allV l) := by
  simp only [spec_AllOf.f]
  by_cases hl : (l.length : Int) > 20
  · simp only [if_pos hl]
    refine ev_succ ?_
    simp only [spec_AllOf.j0, if_true]
    refine ev_now ?_
    unfold allV
    rw [if_neg (by omega)]
  · simp only [if_neg hl]
    refine Ev.bind (l1All_ev 0 2 l hb) ?_
    cases e : l.all fun n => win n 0 2
    · refine ev_succ ?_
      simp only [spec_AllOf.j0, Bool.not_false, if_true]
      exact ev_now (by unfold allV; rw [if_neg (by simp [e])])
    · refine ev_succ ?_
      simp only [spec_AllOf.j0, Bool.not_true, Bool.false_eq_true, if_false]
      have := sAllOf_l0 l hb l 0 2 rfl
      unfold allV
      rw [if_pos ⟨by omega, e⟩]
      exact this
theorem iAllOf_ev (l : List Int) (hb : l.length < 9223372036854775807) : Ev (fun k => impl_AllOf.f k l) (allV l) := by
  simp only [impl_AllOf.f]
  by_cases hl : (l.length : Int) > 20
  · simp only [if_pos hl]
    refine ev_now ?_
    unfold allV
    rw [if_neg (by omega)]
  · simp only [if_neg hl]
    have := iAllOf_l0 l hb l 0 2 rfl
    unfold allV
    simpa [show l.length ≤ 20 by omega] using this
theorem AllOf (y0 : (List Int)) (h0 : FLii64 y0) : ∃ k, laws_FnExactAllOf.f k y0 = some true := by
  refine Ev.rounds ?_
  simp only [laws_FnExactAllOf.f]
  by_cases hg : (y0.length : Int) > 1048576
  · simp only [if_pos hg]
    exact ev_now rfl
  · simp only [if_neg hg]
    have hc := toIntS_ev y0 (by omega)
    refine Ev.bind hc (Ev.bind (sAllOf_ev y0 (by omega)) (Ev.bind hc (Ev.bind (iAllOf_ev y0 (by omega)) ?_)))
    simp only [if_true]
    refine ev_succ ?_
    simp only [laws_FnExactAllOf.j0, bne_self_eq_false, Bool.false_eq_true, if_false]
    refine (Ev.bind (f := fun k t => (laws_eqIntS.f k y0 t).bind fun b => if b = true then some true else some false) (toIntS_ev y0 (by omega)) (Ev.bind (eqIntS_ev y0 y0 (by omega)) ?_))
    simp only [decide_true, if_true]
    exact ev_now rfl
end Go.Proofs.Ytmjcaajlklidmaa.Pu
