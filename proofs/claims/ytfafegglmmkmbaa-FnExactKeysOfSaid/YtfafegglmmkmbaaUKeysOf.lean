/- The law FnExactKeysOf over numbers and lists alone. No condition. -/
import Derived.Test.YtfafegglmmkmbaaPr0
import Derived.Test.YtfafegglmmkmbaaPr1
import Derived.Test.YtfafegglmmkmbaaPr2
import Derived.Test.YtfafegglmmkmbaaOps
import Derived.Test.YtfafegglmmkmbaaA2t
namespace Go.Proofs.Ytfafegglmmkmbaa.Pu
open Go.RowKit Go.Proofs.Ytfafegglmmkmbaa.Pr Go.Proofs.Ytfafegglmmkmbaa.Pl Go.Proofs.Ytfafegglmmkmbaa.Ax Go.Proofs.Ytfafegglmmkmbaa.Ops Go.Proofs.YtfafegglmmkmbaaW.PrintWords Go.Proofs.YtfafegglmmkmbaaW.PrintLast Go.Proofs.YtfafegglmmkmbaaW.PrintMore
set_option linter.unusedVariables false
set_option linter.unusedSimpArgs false
theorem sKeys_l0 (xs : List S65) (hb : xs.length ≤ 20) : ∀ (ys : List S65) (j : Nat) (out : List Int), xs.drop j = ys → out.length ≤ j → j ≤ xs.length →
    Ev (fun k => spec_KeysOf.l0 k out xs (xs.length : Int) (j : Int)) (out ++ ys.map S65.f0, true)
  | [], j, out, h, ho, hj => by
    have h1 := drop_nil h
    refine ev_succ ?_
    simp only [spec_KeysOf.l0]
    simp only [if_neg (show ¬ ((j : Int) < (xs.length : Int)) by omega)]
    exact ev_now (by simp)
  | y :: ys, j, out, h, ho, hj => by
    obtain ⟨h1, h2, h3⟩ := drop_cons h
    refine ev_succ ?_
    simp only [spec_KeysOf.l0]
    simp only [if_pos (show (j : Int) < (xs.length : Int) by omega), if_pos (show (0 : Int) ≤ (j : Int) by omega), rd_T65_drop h, wrap_succ (show j < 9223372036854775807 by omega), if_pos (show out.length < 17592186044416 by omega)]
    have := sKeys_l0 xs hb ys (j + 1) (out ++ [y.f0]) h3 (by simp; omega) h1
    simpa using this
theorem iKeys_l0 (xs : List S65) (hb : xs.length ≤ 20) : ∀ (ys : List S65) (j : Nat) (out : List Int), xs.drop j = ys → out.length ≤ j → j ≤ xs.length →
    Ev (fun k => impl_KeysOf.l0 k out xs (xs.length : Int) (j : Int)) (out ++ ys.map S65.f0, true)
  | [], j, out, h, ho, hj => by
    have h1 := drop_nil h
    refine ev_succ ?_
    simp only [impl_KeysOf.l0]
    simp only [if_neg (show ¬ ((j : Int) < (xs.length : Int)) by omega)]
    exact ev_now (by simp)
  | y :: ys, j, out, h, ho, hj => by
    obtain ⟨h1, h2, h3⟩ := drop_cons h
    refine ev_succ ?_
    simp only [impl_KeysOf.l0]
    simp only [if_pos (show (j : Int) < (xs.length : Int) by omega), if_pos (show (0 : Int) ≤ (j : Int) by omega), rd_T65_drop h, wrap_succ (show j < 9223372036854775807 by omega), if_pos (show out.length < 17592186044416 by omega)]
    have := iKeys_l0 xs hb ys (j + 1) (out ++ [y.f0]) h3 (by simp; omega) h1
    simpa using this
theorem KeysOf_both (l : List S65) (hO : OkRowS l) : ∃ (y : List Int) (b : Bool), Ev (fun k => spec_KeysOf.f k l) (y, b) ∧ Ev (fun k => impl_KeysOf.f k l) (y, b) ∧ BdIntS y := by
  simp only [spec_KeysOf.f, impl_KeysOf.f]
  cases e : gt none l && decide (l.length ≤ 20)
  · refine ⟨[], false, Ev.bind (sGT_ev l hO) ?_, Ev.bind (iGT_ev l hO) ?_, ⟨by simp, fun _ _ => trivial⟩⟩
    · simp only [e, Bool.false_eq_true, if_false]
      exact ev_now rfl
    · simp only [e, Bool.false_eq_true, if_false]
      exact ev_now rfl
  · have hl : l.length ≤ 20 := by
      simp only [Bool.and_eq_true, decide_eq_true_eq] at e
      exact e.2
    refine ⟨l.map S65.f0, true, Ev.bind (sGT_ev l hO) ?_, Ev.bind (iGT_ev l hO) ?_, ⟨by simp; omega, fun _ _ => trivial⟩⟩
    · simp only [e, if_true]
      simpa using sKeys_l0 l hl l 0 [] rfl (Nat.zero_le _) (Nat.zero_le _)
    · simp only [e, if_true]
      simpa using iKeys_l0 l hl l 0 [] rfl (Nat.zero_le _) (Nat.zero_le _)
end Go.Proofs.Ytfafegglmmkmbaa.Pu
