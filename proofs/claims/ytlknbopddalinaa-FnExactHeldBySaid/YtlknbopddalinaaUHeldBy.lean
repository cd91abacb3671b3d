/- The law FnExactHeldBy over numbers and lists alone. No condition. -/
import Derived.Test.YtlknbopddalinaaPr0
import Derived.Test.YtlknbopddalinaaPr3
import Derived.Test.YtlknbopddalinaaPr4
import Derived.Test.YtlknbopddalinaaPr5
import Derived.Test.YtlknbopddalinaaPr7
import Derived.Test.YtlknbopddalinaaOps
import Derived.Test.YtlknbopddalinaaAgl
import Derived.Test.YtlknbopddalinaaCv
namespace Go.Proofs.Ytlknbopddalinaa.Pu
open Go.RowKit Go.Proofs.Ytlknbopddalinaa.Pr Go.Proofs.Ytlknbopddalinaa.Pl Go.Proofs.Ytlknbopddalinaa.Ax Go.Proofs.Ytlknbopddalinaa.Ops Go.Proofs.YtlknbopddalinaaW.PrintWords Go.Proofs.YtlknbopddalinaaW.PrintLast Go.Proofs.YtlknbopddalinaaW.PrintMore
set_option linter.unusedVariables false
set_option linter.unusedSimpArgs false
/-- The items that somebody holds. -/
def hl (who : Int) (R : List (List Int)) (W : List Int) : Nat → Nat → List Int
  | 0, _ => []
  | d + 1, j => if rd W (j : Int) = who then (j : Int) :: hl who R W d (j + 1) else if (rd_L1 R (j : Int)).contains who = true then (j : Int) :: hl who R W d (j + 1) else hl who R W d (j + 1)
theorem hl_length (who : Int) (R : List (List Int)) (W : List Int) : ∀ d j, (hl who R W d j).length ≤ d
  | 0, j => Nat.le_refl _
  | d + 1, j => by
    have := hl_length who R W d (j + 1)
    unfold hl
    split
    · simp; omega
    · split
      · simp; omega
      · omega
theorem row_len {R : List (List Int)} (hO : ∀ r ∈ R, r.length ≤ 1048576) (j : Nat) : (rd_L1 R (j : Int)).length ≤ 1048576 := by
  unfold rd_L1
  rw [Int.toNat_natCast, List.getD_eq_getElem?_getD]
  cases h : R[j]? with
  | none => simp
  | some r => exact hO r (List.mem_of_getElem? h)
theorem sheld (who : Int) (R : List (List Int)) (W O : List Int) (hR : R.length = 4) (hW : W.length = 4) (hO : ∀ r ∈ R, r.length ≤ 1048576) : ∀ (d j : Nat) (out : List Int), j + d = 4 → out.length ≤ j →
    Ev (fun k => spec_l8Held.l0 k who out (W.length : Int) (j : Int) R W O) (out ++ hl who R W d j)
  | 0, j, out, hj, ho => by
    refine ev_succ ?_
    simp only [spec_l8Held.l0]
    simp only [if_neg (show ¬ ((j : Int) < (W.length : Int)) by omega)]
    exact ev_now (by simp [hl])
  | d + 1, j, out, hj, ho => by
    have i1 := sheld who R W O hR hW hO d (j + 1) (out ++ [(j : Int)]) (by omega) (by simp; omega)
    have i2 := sheld who R W O hR hW hO d (j + 1) out (by omega) (by omega)
    have hr := row_len hO j
    refine ev_succ ?_
    simp only [spec_l8Held.l0]
    simp only [if_pos (show (j : Int) < (W.length : Int) by omega), if_pos (show (j : Int) < (R.length : Int) by omega), if_pos (show (0 : Int) ≤ (j : Int) by omega), if_pos (show out.length < 17592186044416 by omega), wrap_succ (show j < 9223372036854775807 by omega)]
    unfold hl
    by_cases e1 : rd W (j : Int) = who
    · simp only [if_pos e1]
      simpa using i1
    · simp only [if_neg e1]
      refine Ev.bind (l1Has_ev _ who (by omega)) ?_
      cases e4 : (rd_L1 R (j : Int)).contains who
      · simp only [Bool.false_eq_true, if_false]
        exact i2
      · simp only [if_true]
        simpa using i1
theorem iheld (who : Int) (R : List (List Int)) (W O : List Int) (hR : R.length = 4) (hW : W.length = 4) (hO : ∀ r ∈ R, r.length ≤ 1048576) : ∀ (d j : Nat) (out : List Int), j + d = 4 → out.length ≤ j →
    Ev (fun k => impl_HeldBy.l0 k who out (j : Int) R W O) (out ++ hl who R W d j, true)
  | 0, j, out, hj, ho => by
    refine ev_succ ?_
    simp only [impl_HeldBy.l0]
    simp only [if_neg (show ¬ ((j : Int) < 4) by omega)]
    exact ev_now (by simp [hl])
  | d + 1, j, out, hj, ho => by
    have i1 := iheld who R W O hR hW hO d (j + 1) (out ++ [(j : Int)]) (by omega) (by simp; omega)
    have i2 := iheld who R W O hR hW hO d (j + 1) out (by omega) (by omega)
    have hr := row_len hO j
    refine ev_succ ?_
    simp only [impl_HeldBy.l0]
    simp only [if_pos (show (j : Int) < 4 by omega), if_pos (show (j : Int) < (W.length : Int) by omega), if_pos (show (j : Int) < (R.length : Int) by omega), if_pos (show (0 : Int) ≤ (j : Int) by omega), if_pos (show out.length < 17592186044416 by omega), wrap_succ (show j < 9223372036854775807 by omega)]
    unfold hl
    by_cases e1 : rd W (j : Int) = who
    · simp only [if_pos e1]
      simpa using i1
    · simp only [if_neg e1]
      refine Ev.bind (contains_ev _ who (by omega)) ?_
      cases e4 : (rd_L1 R (j : Int)).contains who
      · simp only [Bool.false_eq_true, if_false]
        exact i2
      · simp only [if_true]
        simpa using i1
theorem glV_len {R : List (List Int)} {W O : List Int} (h : glV R W O = true) : R.length = 4 ∧ W.length = 4 := by
  unfold glV at h
  simp only [Bool.and_eq_true, decide_eq_true_eq] at h
  exact ⟨h.1, h.2.1⟩
theorem HeldBy_both (R : List (List Int)) (W O : List Int) (who : Int) (hR : BdIntSS R) (hW : BdIntS W) (hO : BdIntS O) : ∃ (y : List Int) (b : Bool), Ev (fun k => spec_HeldBy.f k R W O who) (y, b) ∧ Ev (fun k => impl_HeldBy.f k R W O who) (y, b) ∧ BdIntS y := by
  have sG := sGL_ev R W O (ok_IntSS hR) (ok_IntS hW) (ok_IntS hO)
  have iG := iGL_ev R W O hR (ok_IntS hW) (ok_IntS hO)
  have no : ∀ b : Bool, b = true → Ev (fun k => impl_HeldBy.j0 k who b R W O) ([], false) := fun b hb => by
    subst hb
    refine ev_succ ?_
    simp only [impl_HeldBy.j0, if_true]
    exact ev_now rfl
  cases hg : glV R W O with
  | false =>
    rw [hg] at sG iG
    refine ⟨[], false, ?_, ?_, ⟨by simp, fun _ _ => trivial⟩⟩
    · simp only [spec_HeldBy.f]
      refine Ev.bind sG ?_
      simp only [Bool.false_eq_true, if_false]
      exact ev_now rfl
    · simp only [impl_HeldBy.f]
      refine Ev.bind iG ?_
      simp only [Bool.false_eq_true, if_false]
      exact no _ rfl
  | true =>
    rw [hg] at sG iG
    obtain ⟨h4, h5⟩ := glV_len hg
    cases hw : win who 0 3 with
    | false =>
      refine ⟨[], false, ?_, ?_, ⟨by simp, fun _ _ => trivial⟩⟩
      · simp only [spec_HeldBy.f]
        refine Ev.bind sG ?_
        simp only [if_true, l1In_eq, Option.bind_some, hw, Bool.false_eq_true, if_false]
        exact ev_now rfl
      · simp only [impl_HeldBy.f]
        refine Ev.bind iG ?_
        simp only [if_true, impl_isDealer.f, within_eq, Option.bind_some, hw]
        exact no _ rfl
    | true =>
      refine ⟨hl who R W 4 0, true, ?_, ?_, ⟨by have := hl_length who R W 4 0; omega, fun _ _ => trivial⟩⟩
      · simp only [spec_HeldBy.f]
        refine Ev.bind sG ?_
        simp only [if_true, l1In_eq, Option.bind_some, hw, spec_l8Held.f]
        exact Ev.bind (sheld who R W O h4 h5 (fun r hr => (hR.2 r hr).1) 4 0 [] rfl (Nat.le_refl _)) (ev_now rfl)
      · simp only [impl_HeldBy.f]
        refine Ev.bind iG ?_
        simp only [if_true, impl_isDealer.f, within_eq, Option.bind_some, hw]
        refine ev_succ ?_
        simp only [impl_HeldBy.j0, Bool.not_true, Bool.false_eq_true, if_false]
        exact iheld who R W O h4 h5 (fun r hr => (hR.2 r hr).1) 4 0 [] rfl (Nat.le_refl _)
end Go.Proofs.Ytlknbopddalinaa.Pu
