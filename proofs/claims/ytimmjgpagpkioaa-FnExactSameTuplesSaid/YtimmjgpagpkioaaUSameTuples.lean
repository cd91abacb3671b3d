/- The law FnExactSameTuples over numbers and lists alone. No condition. -/
import Derived.Test.YtimmjgpagpkioaaPr0
import Derived.Test.YtimmjgpagpkioaaPr7
import Derived.Test.YtimmjgpagpkioaaPr8
import Derived.Test.YtimmjgpagpkioaaPr9
import Derived.Test.YtimmjgpagpkioaaOps
import Derived.Test.YtimmjgpagpkioaaA3
import Derived.Test.YtimmjgpagpkioaaAe
import Derived.Test.YtimmjgpagpkioaaCv
namespace Go.Proofs.Ytimmjgpagpkioaa.Pu
open Go.RowKit Go.Proofs.Ytimmjgpagpkioaa.Pr Go.Proofs.Ytimmjgpagpkioaa.Pl Go.Proofs.Ytimmjgpagpkioaa.Ax Go.Proofs.Ytimmjgpagpkioaa.Ops Go.Proofs.YtimmjgpagpkioaaW.PrintWords Go.Proofs.YtimmjgpagpkioaaW.PrintLast Go.Proofs.YtimmjgpagpkioaaW.PrintMore
set_option linter.unusedVariables false
set_option linter.unusedSimpArgs false
theorem sameT_l0 (na nb : List Int) (xs zs : List (List Int)) (hl : xs.length = zs.length) (hO : OkIntSS xs) : ∀ (ys us : List (List Int)) (j : Nat), xs.drop j = ys → zs.drop j = us →
    Ev (fun k => spec_SameTuples.l0 k true (j : Int) na xs nb zs) (decide (ys = us), true)
  | [], us, j, h, hu => by
    have h1 := drop_nil h
    have h2 : us = [] := by rw [← hu]; exact List.drop_of_length_le (by omega)
    refine ev_succ ?_
    simp only [spec_SameTuples.l0]
    simp only [if_true, if_neg (show ¬ ((j : Int) < (xs.length : Int)) by omega)]
    exact ev_now (by simp [h2])
  | y :: ys, [], j, h, hu => by
    have h1 := drop_nil hu
    have := (drop_cons h).1
    omega
  | y :: ys, u :: us, j, h, hu => by
    obtain ⟨h1, h2, h3⟩ := drop_cons h
    obtain ⟨g1, g2, g3⟩ := drop_cons hu
    have hb := hO.1
    refine ev_succ ?_
    simp only [spec_SameTuples.l0]
    simp only [if_true, if_pos (show (j : Int) < (xs.length : Int) by omega), if_pos (show (j : Int) < (zs.length : Int) by omega), if_pos (show (0 : Int) ≤ (j : Int) by omega), rd_L1_drop h, rd_L1_drop hu, wrap_succ (show j < 9223372036854775807 by omega)]
    refine Ev.bind (same_ev y u (hO.2 y (List.mem_of_getElem? h2)).1) ?_
    by_cases e : y = u
    · simp only [decide_eq_true e]
      have := sameT_l0 na nb xs zs hl hO ys us (j + 1) h3 g3
      simpa [e] using this
    · simp only [decide_eq_false e]
      refine ev_succ ?_
      simp only [spec_SameTuples.l0, Bool.false_eq_true, if_false]
      exact ev_now (by simp [e])
theorem eqT_l0 (xs zs : List (List Int)) (hl : xs.length = zs.length) (hO : OkIntSS xs) : ∀ (ys us : List (List Int)) (j : Nat), xs.drop j = ys → zs.drop j = us →
    Ev (fun k => slices_EqualFunc_int_int_int_int.l0 k zs xs (xs.length : Int) (j : Int)) (decide (ys = us))
  | [], us, j, h, hu => by
    have h1 := drop_nil h
    have h2 : us = [] := by rw [← hu]; exact List.drop_of_length_le (by omega)
    refine ev_succ ?_
    simp only [slices_EqualFunc_int_int_int_int.l0]
    simp only [if_neg (show ¬ ((j : Int) < (xs.length : Int)) by omega)]
    exact ev_now (by simp [h2])
  | y :: ys, [], j, h, hu => by
    have h1 := drop_nil hu
    have := (drop_cons h).1
    omega
  | y :: ys, u :: us, j, h, hu => by
    obtain ⟨h1, h2, h3⟩ := drop_cons h
    obtain ⟨g1, g2, g3⟩ := drop_cons hu
    have hb := hO.1
    refine ev_succ ?_
    simp only [slices_EqualFunc_int_int_int_int.l0]
    simp only [if_pos (show (j : Int) < (xs.length : Int) by omega), if_pos (show (j : Int) < (zs.length : Int) by omega), if_pos (show (0 : Int) ≤ (j : Int) by omega), rd_L1_drop h, rd_L1_drop hu, wrap_succ (show j < 9223372036854775807 by omega)]
    refine Ev.bind (equal_ev y u (hO.2 y (List.mem_of_getElem? h2)).1) ?_
    by_cases e : y = u
    · simp only [decide_eq_true e, if_true]
      have := eqT_l0 xs zs hl hO ys us (j + 1) h3 g3
      simpa [e] using this
    · simp only [decide_eq_false e, Bool.false_eq_true, if_false]
      exact ev_now (by simp [e])
def stV (na : List Int) (ta : List (List Int)) (nb : List Int) (tb : List (List Int)) : Bool × Bool := if gr na ta = true ∧ gr nb tb = true then (decide (na = nb ∧ ta = tb), true) else (false, false)
theorem sST_ev (na : List Int) (ta : List (List Int)) (nb : List Int) (tb : List (List Int)) (h1 : OkIntS na) (h2 : OkIntSS ta) (h3 : OkIntS nb) (h4 : OkIntSS tb) : Ev (fun k => spec_SameTuples.f k na ta nb tb) (stV na ta nb tb) := by
  simp only [spec_SameTuples.f]
  refine Ev.bind (sGR_ev na ta h1 h2) ?_
  cases e1 : gr na ta
  · simp only [Bool.false_eq_true, if_false]
    refine ev_succ ?_
    simp only [spec_SameTuples.j0, if_true]
    exact ev_now (by simp [stV, e1])
  · simp only [if_true]
    refine Ev.bind (sGR_ev nb tb h3 h4) (ev_succ ?_)
    simp only [spec_SameTuples.j0]
    cases e2 : gr nb tb
    · simp only [Bool.not_false, if_true]
      exact ev_now (by simp [stV, e2])
    · simp only [Bool.not_true, Bool.false_eq_true, if_false]
      refine Ev.bind (same_ev na nb h1.1) ?_
      unfold stV
      rw [if_pos ⟨e1, e2⟩]
      by_cases e3 : na = nb
      · simp only [decide_eq_true e3, if_true]
        refine ev_succ ?_
        simp only [spec_SameTuples.j1]
        by_cases hl : ta.length = tb.length
        · rw [show ((ta.length : Int) == (tb.length : Int)) = true by simp [hl]]
          have := sameT_l0 na nb ta tb hl h2 ta tb 0 rfl rfl
          simpa [e3] using this
        · rw [show ((ta.length : Int) == (tb.length : Int)) = false by simp; omega]
          refine ev_succ ?_
          simp only [spec_SameTuples.l0, Bool.false_eq_true, if_false]
          exact ev_now (by simp; intro _ h; exact hl (by rw [h]))
      · simp only [decide_eq_false e3, Bool.false_eq_true, if_false]
        refine ev_succ ?_
        simp only [spec_SameTuples.j1]
        refine ev_succ ?_
        simp only [spec_SameTuples.l0, Bool.false_eq_true, if_false]
        exact ev_now (by simp [e3])
theorem iST_ev (na : List Int) (ta : List (List Int)) (nb : List Int) (tb : List (List Int)) (h1 : OkIntS na) (h2 : OkIntSS ta) (h3 : OkIntS nb) (h4 : OkIntSS tb) : Ev (fun k => impl_SameTuples.f k na ta nb tb) (stV na ta nb tb) := by
  simp only [impl_SameTuples.f]
  refine Ev.bind (iGR_ev na ta h1 h2) ?_
  cases e1 : gr na ta
  · simp only [Bool.false_eq_true, if_false]
    refine ev_succ ?_
    simp only [impl_SameTuples.j0, if_true]
    exact ev_now (by simp [stV, e1])
  · simp only [if_true]
    refine Ev.bind (iGR_ev nb tb h3 h4) (ev_succ ?_)
    simp only [impl_SameTuples.j0]
    cases e2 : gr nb tb
    · simp only [Bool.not_false, if_true]
      exact ev_now (by simp [stV, e2])
    · simp only [Bool.not_true, Bool.false_eq_true, if_false]
      refine Ev.bind (equal_ev na nb h1.1) ?_
      unfold stV
      rw [if_pos ⟨e1, e2⟩]
      by_cases e3 : na = nb
      · simp only [decide_eq_true e3, if_true, slices_EqualFunc_int_int_int_int.f]
        by_cases hl : ta.length = tb.length
        · simp only [if_pos (show (ta.length : Int) = (tb.length : Int) by omega)]
          refine Ev.bind (eqT_l0 ta tb hl h2 ta tb 0 rfl rfl) ?_
          exact ev_now (by simp [e3])
        · simp only [if_neg (show ¬ (ta.length : Int) = (tb.length : Int) by omega)]
          exact ev_now (by simp; intro _ h; exact hl (by rw [h]))
      · simp only [decide_eq_false e3, Bool.false_eq_true, if_false]
        exact ev_now (by simp [e3])
theorem SameTuples (y0 : S25) (y1 : S25) (h0 : F25 y0) (h1 : F25 y1) : ∃ k, laws_FnExactSameTuples.f k y0.f0 y0.f1 y1.f0 y1.f1 = some true := by
  refine Ev.rounds ?_
  simp only [laws_FnExactSameTuples.f]
  obtain ⟨r, e1, l1, b⟩ := szRelation_ev y0 1048576 h0 (by omega) (by omega)
  refine Ev.bind e1 ?_
  by_cases hr : r < 0
  · simp only [if_pos hr]
    exact ev_now rfl
  · simp only [if_neg hr]
    obtain ⟨r2, e2, _, b2⟩ := szRelation_ev y1 r h1 (by omega) l1
    refine Ev.bind e2 ?_
    by_cases hr2 : r2 < 0
    · simp only [if_pos hr2]
      exact ev_now rfl
    · simp only [if_neg hr2]
      have hB := b (by omega)
      have hc := toRelation_ev y0 hB
      have hO := ok_Relation hB
      have hB2 := b2 (by omega)
      have hc2 := toRelation_ev y1 hB2
      have hO2 := ok_Relation hB2
      refine Ev.bind hc (Ev.bind hc2 (Ev.bind (sST_ev _ _ _ _ hO.1 hO.2 hO2.1 hO2.2) (Ev.bind hc (Ev.bind hc2 (Ev.bind (iST_ev _ _ _ _ hO.1 hO.2 hO2.1 hO2.2) ?_)))))
      simp only [bne_self_eq_false, Bool.false_eq_true, if_false]
      refine ev_succ ?_
      simp only [laws_FnExactSameTuples.j0, Bool.false_eq_true, if_false]
      refine Ev.bind hc (Ev.bind (eqRelation_ev _ hO) ?_)
      simp only [if_true]
      refine Ev.bind hc2 (Ev.bind (eqRelation_ev _ hO2) ?_)
      simp only [if_true]
      exact ev_now rfl
end Go.Proofs.Ytimmjgpagpkioaa.Pu
