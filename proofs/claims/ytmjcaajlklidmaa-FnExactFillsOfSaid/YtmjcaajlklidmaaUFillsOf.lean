/- The law FnExactFillsOf over numbers and lists alone. No condition. -/
import Derived.Test.YtmjcaajlklidmaaPr0
import Derived.Test.YtmjcaajlklidmaaPr11
import Derived.Test.YtmjcaajlklidmaaPr12
import Derived.Test.YtmjcaajlklidmaaPr13
import Derived.Test.YtmjcaajlklidmaaPr2
import Derived.Test.YtmjcaajlklidmaaOps
import Derived.Test.YtmjcaajlklidmaaA1
import Derived.Test.YtmjcaajlklidmaaA1l
import Derived.Test.YtmjcaajlklidmaaAi
import Derived.Test.YtmjcaajlklidmaaAm
namespace Go.Proofs.Ytmjcaajlklidmaa.Pu
open Go.RowKit Go.Proofs.Ytmjcaajlklidmaa.Pr Go.Proofs.Ytmjcaajlklidmaa.Pl Go.Proofs.Ytmjcaajlklidmaa.Ax Go.Proofs.Ytmjcaajlklidmaa.Ops Go.Proofs.YtmjcaajlklidmaaW.PrintWords Go.Proofs.YtmjcaajlklidmaaW.PrintLast Go.Proofs.YtmjcaajlklidmaaW.PrintMore
set_option linter.unusedVariables false
set_option linter.unusedSimpArgs false
/-- What a value may be. -/
def fl (b : Bool) (n : Int) (l : List Int) : List Int := l.map fun x => if b = true then x else n
def flV (b : Bool) (n : Int) (l : List Int) : List Int × Bool := if gv b n = true ∧ l.length ≤ 10 ∧ (l.all fun n => win n (-1000) 1000) = true then (fl b n l, true) else ([], false)
theorem sFillsOf_l0 (b : Bool) (n : Int) (xs : List Int) (hb : xs.length < 1000) : ∀ (ys : List Int) (j : Nat) (out : List Int), xs.drop j = ys → out.length = j →
    Ev (fun k => spec_FillsOf.l0 k out xs (xs.length : Int) (j : Int) b n) (out ++ fl b n ys, true)
  | [], j, out, h, ho => by
    have h1 := drop_nil h
    refine ev_succ ?_
    simp only [spec_FillsOf.l0]
    simp only [if_neg (show ¬ ((j : Int) < (xs.length : Int)) by omega)]
    exact ev_now (by simp [fl])
  | y :: ys, j, out, h, ho => by
    obtain ⟨h1, h2, h3⟩ := drop_cons h
    refine ev_succ ?_
    simp only [spec_FillsOf.l0]
    simp only [if_pos (show (j : Int) < (xs.length : Int) by omega), if_pos (show (0 : Int) ≤ (j : Int) by omega), rd_drop h, if_pos (show out.length < 17592186044416 by omega), wrap_succ (show j < 9223372036854775807 by omega)]
    cases b
    · simp only [Bool.false_eq_true, if_false]
      have := sFillsOf_l0 false n xs hb ys (j + 1) (out ++ [n]) h3 (by simp [ho])
      simpa [fl] using this
    · simp only [if_true]
      have := sFillsOf_l0 true n xs hb ys (j + 1) (out ++ [y]) h3 (by simp [ho])
      simpa [fl] using this
theorem iFillsOf_l0 (b : Bool) (n : Int) (xs : List Int) (hb : xs.length < 1000) : ∀ (ys : List Int) (j : Nat) (out : List Int), xs.drop j = ys → out.length = j →
    Ev (fun k => impl_FillsOf.l0 k out xs (xs.length : Int) (j : Int) b n) (if (ys.all fun n => win n (-1000) 1000) = true then (out ++ fl b n ys, true) else ([], false))
  | [], j, out, h, ho => by
    have h1 := drop_nil h
    refine ev_succ ?_
    simp only [impl_FillsOf.l0]
    simp only [if_neg (show ¬ ((j : Int) < (xs.length : Int)) by omega)]
    exact ev_now (by simp [fl])
  | y :: ys, j, out, h, ho => by
    obtain ⟨h1, h2, h3⟩ := drop_cons h
    refine ev_succ ?_
    simp only [impl_FillsOf.l0]
    simp only [if_pos (show (j : Int) < (xs.length : Int) by omega), if_pos (show (0 : Int) ≤ (j : Int) by omega), rd_drop h, isSmall_eq, Option.bind_some, if_pos (show out.length < 17592186044416 by omega), wrap_succ (show j < 9223372036854775807 by omega)]
    cases e : win y (-1000) 1000
    · simp only [Bool.false_eq_true, if_false]
      exact ev_now (by simp [e])
    · cases b
      · simp only [Bool.false_eq_true, if_false, if_true]
        have := iFillsOf_l0 false n xs hb ys (j + 1) (out ++ [n]) h3 (by simp [ho])
        simpa [fl, e] using this
      · simp only [if_true]
        have := iFillsOf_l0 true n xs hb ys (j + 1) (out ++ [y]) h3 (by simp [ho])
        simpa [fl, e] using this
theorem sFillsOf_ev (b : Bool) (n : Int) (l : List Int) (hb : l.length < 9223372036854775807) : Ev (fun k => spec_FillsOf.f k b n l) (flV b n l) := by
  simp only [spec_FillsOf.f, sGoodValue_eq, Option.bind_some]
  cases hg : gv b n
  · simp only [Bool.false_eq_true, if_false]
    refine ev_succ ?_
    simp only [spec_FillsOf.j0, if_true]
    exact ev_now (by simp [flV, hg])
  · simp only [if_true]
    by_cases hl : (l.length : Int) > 10
    · simp only [if_pos hl]
      refine ev_succ ?_
      simp only [spec_FillsOf.j0, if_true]
      exact ev_now (by unfold flV; rw [if_neg (by omega)])
    · simp only [if_neg hl]
      refine Ev.bind (l1All_ev (-1000) 1000 l hb) ?_
      cases e : l.all fun n => win n (-1000) 1000
      · refine ev_succ ?_
        simp only [spec_FillsOf.j0, Bool.not_false, if_true]
        exact ev_now (by unfold flV; rw [if_neg (by simp [e])])
      · refine ev_succ ?_
        simp only [spec_FillsOf.j0, Bool.not_true, Bool.false_eq_true, if_false]
        have := sFillsOf_l0 b n l (by omega) l 0 [] rfl rfl
        unfold flV
        rw [if_pos ⟨hg, by omega, e⟩]
        simpa using this
theorem iFillsOf_ev (b : Bool) (n : Int) (l : List Int) : Ev (fun k => impl_FillsOf.f k b n l) (flV b n l) := by
  simp only [impl_FillsOf.f, iGoodValue_eq, Option.bind_some]
  cases hg : gv b n
  · simp only [Bool.false_eq_true, if_false]
    refine ev_succ ?_
    simp only [impl_FillsOf.j0, if_true]
    exact ev_now (by simp [flV, hg])
  · simp only [if_true]
    by_cases hl : (l.length : Int) > 10
    · refine ev_succ ?_
      simp only [impl_FillsOf.j0, decide_eq_true hl, if_true]
      exact ev_now (by unfold flV; rw [if_neg (by omega)])
    · refine ev_succ ?_
      simp only [impl_FillsOf.j0, decide_eq_false hl, Bool.false_eq_true, if_false]
      have := iFillsOf_l0 b n l (by omega) l 0 [] rfl rfl
      unfold flV
      simpa [hg, show l.length ≤ 10 by omega] using this
theorem flV_len (b : Bool) (n : Int) (l : List Int) : (flV b n l).1.length ≤ 10 := by
  unfold flV
  split
  · rename_i h
    simpa [fl] using h.2.1
  · simp
theorem FillsOf (y0 : S24) (y1 : (List Int)) (h0 : F24 y0) (h1 : FLii64 y1) : ∃ k, laws_FnExactFillsOf.f k y0.f0 y0.f1 y1 = some true := by
  refine Ev.rounds ?_
  simp only [laws_FnExactFillsOf.f, laws_toValue.f, Option.bind_some]
  by_cases hg : (y1.length : Int) > 1048576
  · simp only [if_pos hg]
    exact ev_now rfl
  · simp only [if_neg hg]
    have hc := toIntS_ev y1 (by omega)
    have hl := flV_len y0.f0 y0.f1 y1
    refine Ev.bind hc (Ev.bind (sFillsOf_ev y0.f0 y0.f1 y1 (by omega)) (Ev.bind hc (Ev.bind (iFillsOf_ev y0.f0 y0.f1 y1) (Ev.bind (eqIntS_ev _ _ (by omega)) ?_))))
    simp only [decide_true, if_true, bne_self_eq_false]
    refine ev_succ ?_
    simp only [laws_FnExactFillsOf.j0, Bool.false_eq_true, if_false]
    refine Ev.bind hc (Ev.bind (eqIntS_ev y1 y1 (by omega)) ?_)
    simp only [decide_true, if_true]
    refine Ev.bind (markIntS_ev y1 1 (by omega) (by omega)) ?_
    simp only [if_neg (show ¬ (1 + (y1.length : Int) < 0) by omega)]
    refine Ev.bind (eqIntS_ev _ _ (by omega)) ?_
    simp only [decide_true, if_true, bne_self_eq_false]
    refine ev_succ ?_
    simp only [laws_FnExactFillsOf.j1, Bool.false_eq_true, if_false, laws_toValue.f, Option.bind_some]
    refine Ev.bind (markIntS_ev _ 1 (by omega) (by omega)) (Ev.bind (heldIntS_ev _ 1 (by omega) (by omega)) ?_)
    simp only [if_neg (show ¬ (1 + ((flV y0.f0 y0.f1 y1).1.length : Int) < 0) by omega), if_true]
    refine Ev.bind hc (Ev.bind (iFillsOf_ev y0.f0 y0.f1 y1) (Ev.bind (eqIntS_ev _ _ (by omega)) ?_))
    simp only [decide_true, if_true, bne_self_eq_false]
    refine ev_succ ?_
    simp only [laws_FnExactFillsOf.j2, Bool.false_eq_true, if_false]
    refine Ev.bind (heldIntS_ev _ 1 (by omega) (by omega)) ?_
    simp only [if_neg (show ¬ (1 + ((flV y0.f0 y0.f1 y1).1.length : Int) < 0) by omega), if_true]
    exact ev_now rfl
end Go.Proofs.Ytmjcaajlklidmaa.Pu
