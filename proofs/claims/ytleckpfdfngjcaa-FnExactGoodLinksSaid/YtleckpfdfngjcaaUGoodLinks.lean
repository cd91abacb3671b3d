/- The law FnExactGoodLinks over numbers and lists alone. No condition. -/
import Derived.Test.YtleckpfdfngjcaaPr2
import Derived.Test.YtleckpfdfngjcaaPr3
import Derived.Test.YtleckpfdfngjcaaOps
import Derived.Test.YtleckpfdfngjcaaAr
import Derived.Test.YtleckpfdfngjcaaCv
import Derived.Test.YtleckpfdfngjcaaEGoodLinks
namespace Go.Proofs.Ytleckpfdfngjcaa.Pu
open Go.RowKit Go.Proofs.Ytleckpfdfngjcaa.Pr Go.Proofs.Ytleckpfdfngjcaa.Pl Go.Proofs.Ytleckpfdfngjcaa.Ax Go.Proofs.Ytleckpfdfngjcaa.Ops Go.Proofs.YtleckpfdfngjcaaW.PrintWords Go.Proofs.YtleckpfdfngjcaaW.PrintLast Go.Proofs.YtleckpfdfngjcaaW.PrintMore
set_option linter.unusedVariables false
set_option linter.unusedSimpArgs false
theorem sGK_l0 (zs xs : List (List Int)) (hz : zs.length ≤ 1048576) (hO : OkIntSS xs) : ∀ (ys : List (List Int)) (j : Nat), xs.drop j = ys →
    Ev (fun k => spec_GoodLinks.l0 k zs xs (xs.length : Int) (j : Int)) ((ys.all fun x => rs 0 ((zs.length : Int) - 1) none x) && decide (zs.length ≤ 12))
  | [], j, h => by
    have h1 := drop_nil h
    refine ev_succ ?_
    simp only [spec_GoodLinks.l0]
    simp only [if_neg (show ¬ ((j : Int) < (xs.length : Int)) by omega)]
    refine ev_now ?_
    simp
    omega
  | y :: ys, j, h => by
    obtain ⟨h1, h2, h3⟩ := drop_cons h
    have hb := hO.1
    have ih := sGK_l0 zs xs hz hO ys (j + 1) h3
    refine ev_succ ?_
    simp only [spec_GoodLinks.l0]
    simp only [if_pos (show (j : Int) < (xs.length : Int) by omega), if_pos (show (0 : Int) ≤ (j : Int) by omega), rd_L1_drop h, wrap_succ (show j < 9223372036854775807 by omega), wrap_in (show -9223372036854775808 ≤ (zs.length : Int) - 1 by omega) (show (zs.length : Int) - 1 < 9223372036854775808 by omega)]
    refine Ev.bind (l1Rising_ev y _ _ (hO.2 y (List.mem_of_getElem? h2)).1) ?_
    cases e : rs 0 ((zs.length : Int) - 1) none y
    · simp only [Bool.false_eq_true, if_false]
      exact ev_now (by simp [e])
    · simp only [if_true]
      simpa [e] using ih
theorem sGK_ev (xs : List (List Int)) (hz : xs.length ≤ 1048576) (hO : OkIntSS xs) : Ev (fun k => spec_GoodLinks.f k xs) (decide (xs.length ≤ 12) && xs.all fun x => rs 0 ((xs.length : Int) - 1) none x) := by
  have := sGK_l0 xs xs hz hO xs 0 rfl
  rw [Bool.and_comm] at this
  exact this
theorem GoodLinks (y0 : (List (List Int))) (h0 : FLLii64 y0) : ∃ k, laws_FnExactGoodLinks.f k y0 = some true := by
  refine Ev.rounds ?_
  simp only [laws_FnExactGoodLinks.f]
  obtain ⟨r, e1, _, b⟩ := szIntSS_ev y0 1048576 h0 (by omega) (by omega)
  refine Ev.bind e1 ?_
  by_cases hr : r < 0
  · simp only [if_pos hr]
    exact ev_now rfl
  · simp only [if_neg hr]
    have hB := b (by omega)
    have hc := toIntSS_ev y0 hB
    have hO := ok_IntSS hB
    refine Ev.bind hc (Ev.bind (sGK_ev _ hB.1 hO) (Ev.bind hc ?_))
    simp only [impl_GoodLinks.f, Option.bind_some, bne_self_eq_false, Bool.false_eq_true, if_false]
    refine Ev.bind hc (Ev.bind (eqIntSS_ev _ hO) ?_)
    simp only [if_true]
    exact ev_now rfl
end Go.Proofs.Ytleckpfdfngjcaa.Pu
