/- What l1All tells. Conditions: lengths that Go can hold. -/
import Derived.Test.YtlknbopddalinaaPr3
import Derived.Test.YtlknbopddalinaaAw
namespace Go.Proofs.Ytlknbopddalinaa.Ax
open Go.RowKit Go.Proofs.Ytlknbopddalinaa.Pr Go.Proofs.Ytlknbopddalinaa.Pl Go.Proofs.YtlknbopddalinaaW.PrintWords Go.Proofs.YtlknbopddalinaaW.PrintLast Go.Proofs.YtlknbopddalinaaW.PrintMore
set_option linter.unusedVariables false
set_option linter.unusedSimpArgs false
theorem l1All_l0 (lo hi : Int) (xs : List Int) (hb : xs.length < 9223372036854775807) : ∀ (ys : List Int) (j : Nat), xs.drop j = ys →
    Ev (fun k => spec_l1All.l0 k lo hi xs (xs.length : Int) (j : Int)) (ys.all fun n => win n lo hi)
  | [], j, h => by
    have h1 := drop_nil h
    refine ev_succ ?_
    simp only [spec_l1All.l0]
    simp only [if_neg (show ¬ ((j : Int) < (xs.length : Int)) by omega)]
    exact ev_now rfl
  | y :: ys, j, h => by
    obtain ⟨h1, h2, h3⟩ := drop_cons h
    refine ev_succ ?_
    simp only [spec_l1All.l0]
    simp only [if_pos (show (j : Int) < (xs.length : Int) by omega), if_pos (show (0 : Int) ≤ (j : Int) by omega), rd_drop h, l1In_eq, Option.bind_some, wrap_succ (show j < 9223372036854775807 by omega)]
    cases e : win y lo hi
    · simp only [Bool.false_eq_true, if_false]
      exact ev_now (by simp [e])
    · simp only [if_true]
      have := l1All_l0 lo hi xs hb ys (j + 1) h3
      simpa [e] using this
theorem l1All_ev (xs : List Int) (lo hi : Int) (hb : xs.length < 9223372036854775807) : Ev (fun k => spec_l1All.f k xs lo hi) (xs.all fun n => win n lo hi) := l1All_l0 lo hi xs hb xs 0 rfl
end Go.Proofs.Ytlknbopddalinaa.Ax
