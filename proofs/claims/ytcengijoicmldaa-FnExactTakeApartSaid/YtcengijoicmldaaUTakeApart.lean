/- The law FnExactTakeApart over numbers and lists alone. No condition. -/
import Derived.Test.YtcengijoicmldaaPr0
import Derived.Test.YtcengijoicmldaaPr2
import Derived.Test.YtcengijoicmldaaPr4
import Derived.Test.YtcengijoicmldaaOps
import Derived.Test.YtcengijoicmldaaMerge0
namespace Go.Proofs.Ytcengijoicmldaa.Pu
open Go.RowKit Go.Proofs.Ytcengijoicmldaa.Pr Go.Proofs.Ytcengijoicmldaa.Pl Go.Proofs.Ytcengijoicmldaa.Ax Go.Proofs.Ytcengijoicmldaa.Ops Go.Proofs.YtcengijoicmldaaW.PrintWords Go.Proofs.YtcengijoicmldaaW.PrintLast Go.Proofs.YtcengijoicmldaaW.PrintMore
set_option linter.unusedVariables false
set_option linter.unusedSimpArgs false
def taF (ns : List Int) (ts : List (List Int)) : List (List Int) → List S27 → List S27 × Bool
  | [], out => (out, true)
  | p :: ps, out => if (prV ns ts p).2.2 = true then taF ns ts ps (out ++ [⟨(prV ns ts p).1, (prV ns ts p).2.1⟩]) else ([], false)
def taV (ns : List Int) (ts parts : List (List Int)) : List S27 × Bool := if win (parts.length : Int) 1 10 then taF ns ts parts [] else ([], false)
theorem taS_l0 (ns : List Int) (ts : List (List Int)) (hN : LnS ns) (hT : LnSS ts) (ps : List (List Int)) (hM : LnSS ps) (hb : ps.length < 1000000) : ∀ (ys : List (List Int)) (j : Nat) (out : List S27), ps.drop j = ys → out.length ≤ j →
    Ev (fun k => spec_TakeApart.l0 k out ps (ps.length : Int) (j : Int) ns ts) (taF ns ts ys out)
  | [], j, out, h, ho => by
    have h2 := drop_nil h
    refine ev_succ ?_
    simp only [spec_TakeApart.l0]
    simp only [if_neg (show ¬ ((j : Int) < (ps.length : Int)) by omega)]
    exact ev_now rfl
  | y :: ys, j, out, h, ho => by
    obtain ⟨i1, i2, i3⟩ := drop_cons h
    refine ev_succ ?_
    simp only [spec_TakeApart.l0]
    simp only [if_pos (show (j : Int) < (ps.length : Int) by omega), if_pos (show (0 : Int) ≤ (j : Int) by omega), rdL1_drop h, wrap_succ (show j < 9223372036854775807 by omega), if_pos (show out.length < 2932031007402 by omega)]
    refine Ev.bind (projectS_ev ns ts y hN hT (hM.2 y (List.mem_of_getElem? i2))) ?_
    rw [taF]
    cases hp : (prV ns ts y).2.2
    · simp only [Bool.false_eq_true, if_false]
      exact ev_now rfl
    · simp only [if_true]
      exact taS_l0 ns ts hN hT ps hM hb ys (j + 1) _ i3 (by simp; omega)
theorem taI_l0 (ns : List Int) (ts : List (List Int)) (hN : LnS ns) (hT : LnSS ts) (ps : List (List Int)) (hM : LnSS ps) (hb : ps.length < 1000000) : ∀ (ys : List (List Int)) (j : Nat) (out : List S27), ps.drop j = ys → out.length ≤ j →
    Ev (fun k => impl_TakeApart.l0 k out ps (ps.length : Int) (j : Int) ns ts) (taF ns ts ys out)
  | [], j, out, h, ho => by
    have h2 := drop_nil h
    refine ev_succ ?_
    simp only [impl_TakeApart.l0]
    simp only [if_neg (show ¬ ((j : Int) < (ps.length : Int)) by omega)]
    exact ev_now rfl
  | y :: ys, j, out, h, ho => by
    obtain ⟨i1, i2, i3⟩ := drop_cons h
    refine ev_succ ?_
    simp only [impl_TakeApart.l0]
    simp only [if_pos (show (j : Int) < (ps.length : Int) by omega), if_pos (show (0 : Int) ≤ (j : Int) by omega), rdL1_drop h, wrap_succ (show j < 9223372036854775807 by omega), if_pos (show out.length < 2932031007402 by omega)]
    refine Ev.bind (projectI_ev ns ts y hN hT (hM.2 y (List.mem_of_getElem? i2))) ?_
    rw [taF]
    cases hp : (prV ns ts y).2.2
    · simp only [Bool.false_eq_true, if_false]
      exact ev_now rfl
    · simp only [if_true]
      exact taI_l0 ns ts hN hT ps hM hb ys (j + 1) _ i3 (by simp; omega)
theorem takeS_ev (ns : List Int) (ts ps : List (List Int)) (hN : LnS ns) (hT : LnSS ts) (hM : LnSS ps) : Ev (fun k => spec_TakeApart.f k ns ts ps) (taV ns ts ps) := by
  simp only [spec_TakeApart.f, l1In_eq, Option.bind_some]
  unfold taV
  cases hw : win (ps.length : Int) 1 10
  · simp only [Bool.not_false, Bool.false_eq_true, if_false, if_true]
    exact ev_now rfl
  · have := (win_iff _ _ _).1 hw
    simp only [Bool.not_true, Bool.false_eq_true, if_true, if_false]
    exact taS_l0 ns ts hN hT ps hM (by omega) ps 0 [] rfl (Nat.zero_le _)
theorem takeI_ev (ns : List Int) (ts ps : List (List Int)) (hN : LnS ns) (hT : LnSS ts) (hM : LnSS ps) : Ev (fun k => impl_TakeApart.f k ns ts ps) (taV ns ts ps) := by
  simp only [impl_TakeApart.f, within_eq, Option.bind_some]
  unfold taV
  cases hw : win (ps.length : Int) 1 10
  · simp only [Bool.not_false, Bool.false_eq_true, if_false, if_true]
    exact ev_now rfl
  · have := (win_iff _ _ _).1 hw
    simp only [Bool.not_true, Bool.false_eq_true, if_true, if_false]
    exact taI_l0 ns ts hN hT ps hM (by omega) ps 0 [] rfl (Nat.zero_le _)
theorem taF_bd (ns : List Int) (ts : List (List Int)) (b : Nat) : ∀ (ps : List (List Int)) (out : List S27), out.length + ps.length ≤ b → (∀ x ∈ out, BdIntS x.f0 ∧ BdIntSS x.f1) → BdRS b (taF ns ts ps out).1
  | [], out, hl, h => ⟨by simpa [taF] using hl, h⟩
  | p :: ps, out, hl, h => by
    rw [taF]
    split
    · refine taF_bd ns ts b ps _ (by simp at hl ⊢; omega) (fun x hx => ?_)
      rcases List.mem_append.1 hx with hx | hx
      · exact h x hx
      · rw [List.mem_singleton.1 hx]
        exact prV_bd ns ts p
    · exact ⟨Nat.zero_le _, by simp⟩
theorem taV_bd (ns : List Int) (ts ps : List (List Int)) : BdRS 10 (taV ns ts ps).1 := by
  unfold taV
  cases hw : win (ps.length : Int) 1 10
  · exact ⟨Nat.zero_le _, by simp⟩
  · have := (win_iff _ _ _).1 hw
    simp only [if_true]
    exact taF_bd ns ts 10 ps [] (by simp; omega) (by simp)
theorem TakeApart_both (ns : List Int) (ts l1 : List (List Int)) (h0 : BdIntS ns) (h1 : BdIntSS ts) (h2 : BdIntSS l1) : ∃ (y0 : List S27) (b : Bool), Ev (fun k => spec_TakeApart.f k ns ts l1) (y0, b) ∧ Ev (fun k => impl_TakeApart.f k ns ts l1) (y0, b) ∧ BdRS 10 y0 :=
  ⟨(taV ns ts l1).1, (taV ns ts l1).2, takeS_ev ns ts l1 (ok_IntS h0) (ok_IntSS h1) (ok_IntSS h2), takeI_ev ns ts l1 (ok_IntS h0) (ok_IntSS h1) (ok_IntSS h2), taV_bd ns ts l1⟩
end Go.Proofs.Ytcengijoicmldaa.Pu
