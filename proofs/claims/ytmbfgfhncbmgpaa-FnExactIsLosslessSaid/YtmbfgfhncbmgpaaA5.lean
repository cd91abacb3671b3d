/- What GoodDeps tells. Conditions: lengths that Go can hold. -/
import Derived.Test.YtmbfgfhncbmgpaaPr0
import Derived.Test.YtmbfgfhncbmgpaaPr2
import Derived.Test.YtmbfgfhncbmgpaaAr
import Derived.Test.YtmbfgfhncbmgpaaCv
import Derived.Test.YtmbfgfhncbmgpaaEGoodDeps
namespace Go.Proofs.Ytmbfgfhncbmgpaa.Ax
open Go.RowKit Go.Proofs.Ytmbfgfhncbmgpaa.Pr Go.Proofs.Ytmbfgfhncbmgpaa.Pl Go.Proofs.YtmbfgfhncbmgpaaW.PrintWords Go.Proofs.YtmbfgfhncbmgpaaW.PrintLast Go.Proofs.YtmbfgfhncbmgpaaW.PrintMore
set_option linter.unusedVariables false
set_option linter.unusedSimpArgs false
theorem l5Dep_ev (a : Int) (x : S32) (hO : OkDep x) : Ev (fun k => spec_l5Dep.f k a x.f0 x.f1) (okD a x) := by
  simp only [spec_l5Dep.f, okD]
  refine Ev.bind (l1Rising_ev x.f0 _ _ hO.1.1) ?_
  cases rs 0 (wrap64 (a - 1)) none x.f0
  · simp only [Bool.false_eq_true, if_false]
    exact ev_now rfl
  · simp only [if_true]
    exact Ev.bind (l1Rising_ev x.f1 _ _ hO.2.1) (ev_now (by simp))
theorem sGD_l0 (a : Int) (xs : List S32) (hO : OkDepS xs) : ∀ (ys : List S32) (j : Nat), xs.drop j = ys → Ev (fun k => spec_GoodDeps.l0 k a xs (xs.length : Int) (j : Int)) (ys.all (okD a))
  | [], j, h => by
    have h1 := drop_nil h
    refine ev_succ ?_
    simp only [spec_GoodDeps.l0]
    simp only [if_neg (show ¬ ((j : Int) < (xs.length : Int)) by omega)]
    exact ev_now rfl
  | y :: ys, j, h => by
    obtain ⟨h1, h2, h3⟩ := drop_cons h
    have hb := hO.1
    have ih := sGD_l0 a xs hO ys (j + 1) h3
    refine ev_succ ?_
    simp only [spec_GoodDeps.l0]
    simp only [if_pos (show (j : Int) < (xs.length : Int) by omega), if_pos (show (0 : Int) ≤ (j : Int) by omega), rd_T32_drop h, wrap_succ (show j < 9223372036854775807 by omega)]
    refine Ev.bind (l5Dep_ev a y (hO.2 y (List.mem_of_getElem? h2))) ?_
    cases e : okD a y
    · simp only [Bool.false_eq_true, if_false]
      exact ev_now (by simp [e])
    · simp only [if_true]
      simpa [e] using ih
def gdV (a : Int) (l : List S32) : Bool := win a 1 6 && (decide (l.length ≤ 8) && l.all (okD a))
theorem sGD_ev (a : Int) (xs : List S32) (hO : OkDepS xs) : Ev (fun k => spec_GoodDeps.f k a xs) (gdV a xs) := by
  simp only [spec_GoodDeps.f, l1In_eq, Option.bind_some, gdV]
  cases e : win a 1 6
  · simp only [Bool.false_eq_true, if_false]
    refine ev_succ ?_
    simp only [spec_GoodDeps.j0, if_true]
    exact ev_now rfl
  · simp only [if_true]
    refine ev_succ ?_
    simp only [spec_GoodDeps.j0]
    by_cases h8 : xs.length ≤ 8
    · simp only [decide_eq_false (show ¬ ((xs.length : Int) > 8) by omega), Bool.false_eq_true, if_false]
      have := sGD_l0 a xs hO xs 0 rfl
      simpa [h8] using this
    · simp only [decide_eq_true (show ((xs.length : Int) > 8) by omega), if_true]
      exact ev_now (by simp [h8])
end Go.Proofs.Ytmbfgfhncbmgpaa.Ax
