/- The law FnExactHasRound over numbers and lists alone. No condition. -/
import Derived.Test.YtilkklbocjhdoaaPr1
import Derived.Test.YtilkklbocjhdoaaPr10
import Derived.Test.YtilkklbocjhdoaaPr11
import Derived.Test.YtilkklbocjhdoaaPr12
import Derived.Test.YtilkklbocjhdoaaOps
import Derived.Test.YtilkklbocjhdoaaAw
import Derived.Test.YtilkklbocjhdoaaAm
import Derived.Test.YtilkklbocjhdoaaCv
namespace Go.Proofs.Ytilkklbocjhdoaa.Pu
open Go.RowKit Go.Proofs.Ytilkklbocjhdoaa.Pr Go.Proofs.Ytilkklbocjhdoaa.Pl Go.Proofs.Ytilkklbocjhdoaa.Ax Go.Proofs.Ytilkklbocjhdoaa.Ops Go.Proofs.YtilkklbocjhdoaaW.PrintWords Go.Proofs.YtilkklbocjhdoaaW.PrintLast Go.Proofs.YtilkklbocjhdoaaW.PrintMore
set_option linter.unusedVariables false
set_option linter.unusedSimpArgs false
/-- Do both answer, and alike? -/
def alike (l : List Int) : Bool := match spec_HasRound.f 40 l, impl_HasRound.f 80 l with
  | some a, some b => (decide (a = b)) && decide (a.1.length ≤ 16)
  | _, _ => false
def five : List Int := [-1, 0, 1, 2, 3]
theorem alike_all : (five.all fun a => five.all fun b => five.all fun c => five.all fun d => alike [a, b, c, d]) = true := by decide +kernel
theorem in_five {x : Int} (h : win x (-1) 3 = true) : x ∈ five := by
  rw [win_iff] at h
  have : x = -1 ∨ x = 0 ∨ x = 1 ∨ x = 2 ∨ x = 3 := by omega
  rcases this with rfl | rfl | rfl | rfl | rfl <;> decide
theorem l1All_l0 (lo hi : Int) (xs : List Int) (hb : xs.length < 9223372036854775807) : ∀ (ys : List Int) (j : Nat), xs.drop j = ys →
    Ev (fun k => spec_l1All.l0 k lo hi xs (xs.length : Int) (j : Int)) (ys.all fun n => win n lo hi)
  | [], j, h => by
    have h1 := drop_nil h
    refine ev_succ ?_
    simp only [spec_l1All.l0]
    simp only [if_neg (show ¬ ((j : Int) < (xs.length : Int)) by omega)]
    exact ev_now rfl
  | y :: ys, j, h => by
    obtain ⟨h1, h2, h3⟩ := drop_cons h
    refine ev_succ ?_
    simp only [spec_l1All.l0]
    simp only [if_pos (show (j : Int) < (xs.length : Int) by omega), if_pos (show (0 : Int) ≤ (j : Int) by omega), rd_drop h, l1In_eq, Option.bind_some, wrap_succ (show j < 9223372036854775807 by omega)]
    cases e : win y lo hi
    · simp only [Bool.false_eq_true, if_false]
      exact ev_now (by simp [e])
    · simp only [if_true]
      have := l1All_l0 lo hi xs hb ys (j + 1) h3
      simpa [e] using this
theorem idx1_l0 (xs : List Int) (hb : xs.length < 9223372036854775807) : ∀ (ys : List Int) (j : Nat), xs.drop j = ys →
    ∃ r : Int, Ev (fun k => slices_IndexFunc_int_int.l0 k xs (xs.length : Int) (j : Int)) r ∧ decide (r ≥ 0) = !ys.all fun n => win n (-1) 3
  | [], j, h => by
    have h1 := drop_nil h
    refine ⟨-1, ev_succ ?_, by simp⟩
    simp only [slices_IndexFunc_int_int.l0]
    simp only [if_neg (show ¬ ((j : Int) < (xs.length : Int)) by omega)]
    exact ev_now rfl
  | y :: ys, j, h => by
    obtain ⟨h1, h2, h3⟩ := drop_cons h
    cases e : win y (-1) 3
    · refine ⟨(j : Int), ev_succ ?_, by simp [e]⟩
      simp only [slices_IndexFunc_int_int.l0]
      simp only [if_pos (show (j : Int) < (xs.length : Int) by omega), if_pos (show (0 : Int) ≤ (j : Int) by omega), rd_drop h, impl_HasRound_1.f, within_eq, e, Option.bind_some, Bool.not_false, if_true]
      exact ev_now rfl
    · obtain ⟨r, h4, h5⟩ := idx1_l0 xs hb ys (j + 1) h3
      refine ⟨r, ev_succ ?_, by simp [e, h5]⟩
      simp only [slices_IndexFunc_int_int.l0]
      simp only [if_pos (show (j : Int) < (xs.length : Int) by omega), if_pos (show (0 : Int) ≤ (j : Int) by omega), rd_drop h, impl_HasRound_1.f, within_eq, e, Option.bind_some, Bool.not_true, Bool.false_eq_true, if_false, wrap_succ (show j < 9223372036854775807 by omega)]
      exact h4
theorem HasRound_both (l : List Int) : ∃ out ok, Ev (fun k => spec_HasRound.f k l) (out, ok) ∧ Ev (fun k => impl_HasRound.f k l) (out, ok) ∧ out.length ≤ 16 := by
  by_cases h4 : l.length = 4
  · cases e : l.all fun n => win n (-1) 3
    · refine ⟨[], false, ?_, ?_, by simp⟩
      · simp only [spec_HasRound.f, spec_l1All.f]
        simp only [if_pos (show (l.length : Int) = 4 by omega)]
        refine Ev.bind (l1All_l0 (-1) 3 l (by omega) l 0 rfl) (ev_succ ?_)
        simp only [spec_HasRound.j0, e, Bool.not_false, if_true]
        exact ev_now rfl
      · simp only [impl_HasRound.f, slices_ContainsFunc_int_int.f, slices_IndexFunc_int_int.f]
        simp only [if_pos (show (l.length : Int) = 4 by omega)]
        obtain ⟨r, h5, h6⟩ := idx1_l0 l (by omega) l 0 rfl
        refine Ev.bind (Ev.bind h5 (ev_now rfl)) (ev_succ ?_)
        simp only [impl_HasRound.j0, h6, e, Bool.not_false, if_true]
        exact ev_now rfl
    · obtain ⟨a, b, c, d, rfl⟩ : ∃ a b c d, l = [a, b, c, d] := by
        match l, h4 with
        | [a, b, c, d], _ => exact ⟨a, b, c, d, rfl⟩
      simp only [List.all_cons, List.all_nil, Bool.and_eq_true] at e
      have h := alike_all
      simp only [List.all_eq_true] at h
      have h := h a (in_five e.1) b (in_five e.2.1) c (in_five e.2.2.1) d (in_five e.2.2.2.1)
      unfold alike at h
      split at h
      · rename_i x y hx hy
        simp only [Bool.and_eq_true, decide_eq_true_eq] at h
        obtain ⟨rfl, h2⟩ := h
        exact ⟨x.1, x.2, Ev.of (spec_HasRound.mono _) hx, Ev.of (impl_HasRound.mono _) hy, h2⟩
      · cases h
  · refine ⟨[], false, ?_, ?_, by simp⟩
    · simp only [spec_HasRound.f]
      simp only [if_neg (show ¬ (l.length : Int) = 4 by omega)]
      refine ev_succ ?_
      simp only [spec_HasRound.j0, if_true]
      exact ev_now rfl
    · simp only [impl_HasRound.f]
      simp only [if_neg (show ¬ (l.length : Int) = 4 by omega)]
      refine ev_succ ?_
      simp only [impl_HasRound.j0, if_true]
      exact ev_now rfl
theorem HasRound (y0 : (List Int)) (h0 : FLii64 y0) : ∃ k, laws_FnExactHasRound.f k y0 = some true := by
  refine Ev.rounds ?_
  simp only [laws_FnExactHasRound.f]
  by_cases hr : (y0.length : Int) > 1048576
  · simp only [if_pos hr]
    exact ev_now rfl
  · simp only [if_neg hr]
    have hB : BdIntS y0 := ⟨by omega, fun _ _ => trivial⟩
    have hc := toIntS_ev y0 hB
    obtain ⟨out, ok, es, ei, hlo⟩ := HasRound_both y0
    have ho : OkIntS out := ⟨by omega, fun _ _ => trivial⟩
    refine Ev.bind hc (Ev.bind es (Ev.bind hc (Ev.bind ei (Ev.bind (eqIntS_ev out ho) ?_))))
    simp only [if_true, bne_self_eq_false]
    refine ev_succ ?_
    simp only [laws_FnExactHasRound.j0, Bool.false_eq_true, if_false]
    refine Ev.bind hc (Ev.bind (eqIntS_ev _ (ok_IntS hB)) ?_)
    simp only [if_true]
    refine Ev.bind (markIntS_ev y0 1 (by omega) (by omega)) ?_
    simp only [if_neg (show ¬ (1 + (y0.length : Int) < 0) by omega)]
    refine Ev.bind (eqIntS_ev out ho) ?_
    simp only [if_true, bne_self_eq_false]
    refine ev_succ ?_
    simp only [laws_FnExactHasRound.j1, Bool.false_eq_true, if_false]
    refine Ev.bind (markIntS_ev out 1 (by omega) (by omega)) (Ev.bind (heldIntS_ev _ 1 (by omega) (by omega)) ?_)
    simp only [if_neg (show ¬ (1 + (out.length : Int) < 0) by omega), if_true]
    refine Ev.bind hc (Ev.bind ei (Ev.bind (eqIntS_ev out ho) ?_))
    simp only [if_true, bne_self_eq_false]
    refine ev_succ ?_
    simp only [laws_FnExactHasRound.j2, Bool.false_eq_true, if_false]
    refine Ev.bind (heldIntS_ev _ 1 (by omega) (by omega)) ?_
    simp only [if_neg (show ¬ (1 + (out.length : Int) < 0) by omega), if_true]
    exact ev_now rfl
end Go.Proofs.Ytilkklbocjhdoaa.Pu
