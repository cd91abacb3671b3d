/- What the functions over lists of values tell. Conditions: lengths that Go can hold. -/
import Derived.Test.YtmlbihhaikknnaaPr0
import Derived.Test.YtmlbihhaikknnaaPr4
import Derived.Test.YtmlbihhaikknnaaA1
import Derived.Test.YtmlbihhaikknnaaCv
namespace Go.Proofs.Ytmlbihhaikknnaa.Ax
open Go.RowKit Go.Proofs.Ytmlbihhaikknnaa.Pr Go.Proofs.Ytmlbihhaikknnaa.Pl Go.Proofs.YtmlbihhaikknnaaW.PrintWords Go.Proofs.YtmlbihhaikknnaaW.PrintLast Go.Proofs.YtmlbihhaikknnaaW.PrintMore
set_option linter.unusedVariables false
set_option linter.unusedSimpArgs false
def gvS (x : S43) : Bool := gv x.f0 x.f1
theorem areValues_l0 (xs : List S43) (hb : xs.length < 9223372036854775807) : ∀ (ys : List S43) (j : Nat), xs.drop j = ys →
    Ev (fun k => impl_areValues.l0 k xs (xs.length : Int) (j : Int)) (ys.all gvS)
  | [], j, h => by
    have h1 := drop_nil h
    refine ev_succ ?_
    simp only [impl_areValues.l0]
    simp only [if_neg (show ¬ ((j : Int) < (xs.length : Int)) by omega)]
    exact ev_now rfl
  | y :: ys, j, h => by
    obtain ⟨h1, h2, h3⟩ := drop_cons h
    refine ev_succ ?_
    simp only [impl_areValues.l0]
    simp only [if_pos (show (j : Int) < (xs.length : Int) by omega), if_pos (show (0 : Int) ≤ (j : Int) by omega), rd_T43_drop h, iGoodValue_eq, Option.bind_some, wrap_succ (show j < 9223372036854775807 by omega)]
    have ih := areValues_l0 xs hb ys (j + 1) h3
    cases e : gvS y
    · simp only [gvS] at e
      simp only [e, Bool.false_eq_true, if_false]
      exact ev_now (by simp [gvS, e])
    · simp only [gvS] at e
      simp only [e, if_true]
      simpa [gvS, e] using ih
theorem areValues_ev (xs : List S43) (hb : xs.length < 9223372036854775807) : Ev (fun k => impl_areValues.f k xs) (xs.all gvS) := areValues_l0 xs hb xs 0 rfl
end Go.Proofs.Ytmlbihhaikknnaa.Ax
