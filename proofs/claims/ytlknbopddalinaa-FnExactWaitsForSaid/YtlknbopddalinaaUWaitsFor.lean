/- The law FnExactWaitsFor over numbers and lists alone. No condition. -/
import Derived.Test.YtlknbopddalinaaPr0
import Derived.Test.YtlknbopddalinaaPr5
import Derived.Test.YtlknbopddalinaaPr7
import Derived.Test.YtlknbopddalinaaPr8
import Derived.Test.YtlknbopddalinaaOps
import Derived.Test.YtlknbopddalinaaAgl
import Derived.Test.YtlknbopddalinaaCv
namespace Go.Proofs.Ytlknbopddalinaa.Pu
open Go.RowKit Go.Proofs.Ytlknbopddalinaa.Pr Go.Proofs.Ytlknbopddalinaa.Pl Go.Proofs.Ytlknbopddalinaa.Ax Go.Proofs.Ytlknbopddalinaa.Ops Go.Proofs.YtlknbopddalinaaW.PrintWords Go.Proofs.YtlknbopddalinaaW.PrintLast Go.Proofs.YtlknbopddalinaaW.PrintMore
set_option linter.unusedVariables false
set_option linter.unusedSimpArgs false
/-- Those others who keep an ask from what it wants. -/
def wl (a0 a1 : Int) (a2 : Bool) (R : List (List Int)) (W : List Int) : Nat → Nat → List Int
  | 0, _ => []
  | d + 1, j => if (j : Int) = a0 then wl a0 a1 a2 R W d (j + 1) else if rd W a1 = (j : Int) then (j : Int) :: wl a0 a1 a2 R W d (j + 1) else if a2 = true then (if (rd_L1 R a1).contains (j : Int) = true then (j : Int) :: wl a0 a1 a2 R W d (j + 1) else wl a0 a1 a2 R W d (j + 1)) else wl a0 a1 a2 R W d (j + 1)
theorem wl_length (a0 a1 : Int) (a2 : Bool) (R : List (List Int)) (W : List Int) : ∀ d j, (wl a0 a1 a2 R W d j).length ≤ d
  | 0, j => Nat.le_refl _
  | d + 1, j => by
    have := wl_length a0 a1 a2 R W d (j + 1)
    unfold wl
    split
    · omega
    · split
      · simp; omega
      · split
        · split
          · simp; omega
          · omega
        · omega
theorem row_len {R : List (List Int)} (hO : ∀ r ∈ R, r.length ≤ 1048576) (j : Int) : (rd_L1 R j).length ≤ 1048576 := by
  unfold rd_L1
  rw [List.getD_eq_getElem?_getD]
  cases h : R[j.toNat]? with
  | none => simp
  | some r => exact hO r (List.mem_of_getElem? h)
section
variable (a0 a1 : Int) (a2 a3 : Bool) (R : List (List Int)) (W O : List Int) (h0 : 0 ≤ a1) (h3 : a1 ≤ 3) (hR : R.length = 4) (hW : W.length = 4) (hO : ∀ r ∈ R, r.length ≤ 1048576)
include h0 h3 hR hW hO
theorem swait : ∀ (d j : Nat) (out : List Int), j + d = 4 → out.length ≤ j → Ev (fun k => spec_l8Waits.l0 k out (j : Int) R W O a0 a1 a2 a3) (out ++ wl a0 a1 a2 R W d j)
  | 0, j, out, hj, ho => by
    refine ev_succ ?_
    simp only [spec_l8Waits.l0]
    simp only [if_neg (show ¬ ((j : Int) < 4) by omega)]
    exact ev_now (by simp [wl])
  | d + 1, j, out, hj, ho => by
    have i1 := swait d (j + 1) (out ++ [(j : Int)]) (by omega) (by simp; omega)
    have i2 := swait d (j + 1) out (by omega) (by omega)
    have hr := row_len hO a1
    refine ev_succ ?_
    simp only [spec_l8Waits.l0]
    simp only [if_pos (show (j : Int) < 4 by omega), if_pos (show a1 < (W.length : Int) by omega), if_pos (show a1 < (R.length : Int) by omega), if_pos h0, if_pos (show out.length < 17592186044416 by omega), wrap_succ (show j < 9223372036854775807 by omega)]
    unfold wl
    by_cases e0 : (j : Int) = a0
    · simp only [if_pos e0]
      exact i2
    · simp only [if_neg e0]
      by_cases e1 : rd W a1 = (j : Int)
      · simp only [if_pos e1]
        simpa using i1
      · simp only [if_neg e1]
        cases a2 with
        | false =>
          simp only [Bool.false_eq_true, if_false]
          exact i2
        | true =>
          simp only [if_true]
          refine Ev.bind (l1Has_ev _ _ (by omega)) ?_
          cases e4 : (rd_L1 R a1).contains (j : Int)
          · simp only [Bool.false_eq_true, if_false]
            exact i2
          · simp only [if_true]
            simpa using i1
theorem iwait : ∀ (d j : Nat) (out : List Int), j + d = 4 → out.length ≤ j → Ev (fun k => impl_Locks_keepers.l0 k out (j : Int) R W O a0 a1 a2 a3) (out ++ wl a0 a1 a2 R W d j)
  | 0, j, out, hj, ho => by
    refine ev_succ ?_
    simp only [impl_Locks_keepers.l0]
    simp only [if_neg (show ¬ ((j : Int) < 4) by omega)]
    exact ev_now (by simp [wl])
  | d + 1, j, out, hj, ho => by
    have i1 := iwait d (j + 1) (out ++ [(j : Int)]) (by omega) (by simp; omega)
    have i2 := iwait d (j + 1) out (by omega) (by omega)
    have hr := row_len hO a1
    refine ev_succ ?_
    simp only [impl_Locks_keepers.l0]
    simp only [if_pos (show (j : Int) < 4 by omega), if_pos (show a1 < (W.length : Int) by omega), if_pos (show a1 < (R.length : Int) by omega), if_pos h0, if_pos (show out.length < 17592186044416 by omega), wrap_succ (show j < 9223372036854775807 by omega)]
    unfold wl
    by_cases e0 : (j : Int) = a0
    · simp only [if_pos e0]
      exact i2
    · simp only [if_neg e0]
      by_cases e1 : rd W a1 = (j : Int)
      · simp only [if_pos e1]
        simpa using i1
      · simp only [if_neg e1]
        cases a2 with
        | false =>
          simp only [Bool.false_eq_true, if_false]
          exact i2
        | true =>
          simp only [if_true]
          refine Ev.bind (contains_ev _ _ (by omega)) ?_
          cases e4 : (rd_L1 R a1).contains (j : Int)
          · simp only [Bool.false_eq_true, if_false]
            exact i2
          · simp only [if_true]
            simpa using i1
end
/-- May something be asked? -/
def askV (O : List Int) (a0 a1 : Int) (a2 a3 : Bool) : Bool := win a0 0 3 && (!O.contains a0 && (win a1 0 3 && (if a3 = true then (if a1 = 0 then !a2 else false) else true)))
theorem sask (R : List (List Int)) (W O : List Int) (a0 a1 : Int) (a2 a3 : Bool) (hO : BdIntS O) : Ev (fun k => spec_l8Ask.f k R W O a0 a1 a2 a3) (askV O a0 a1 a2 a3) := by
  have hb := hO.1
  simp only [spec_l8Ask.f, l1In_eq, Option.bind_some, askV]
  cases win a0 0 3
  · simp only [Bool.false_eq_true, if_false]
    exact ev_now rfl
  · simp only [if_true]
    refine Ev.bind (l1Has_ev O a0 (by omega)) ?_
    cases O.contains a0
    · simp only [Bool.false_eq_true, if_false]
      cases win a1 0 3
      · simp only [Bool.false_eq_true, if_false]
        exact ev_now rfl
      · simp only [if_true]
        cases a3
        · simp only [Bool.false_eq_true, if_false]
          exact ev_now rfl
        · simp only [if_true]
          by_cases e : a1 = 0
          · simp only [if_pos e]
            exact ev_now (by simp)
          · simp only [if_neg e]
            exact ev_now (by simp)
    · simp only [if_true]
      exact ev_now rfl
theorem iask (R : List (List Int)) (W O : List Int) (a0 a1 : Int) (a2 a3 : Bool) (hO : BdIntS O) : Ev (fun k => impl_Locks_isAsk.f k R W O a0 a1 a2 a3) (askV O a0 a1 a2 a3) := by
  have hb := hO.1
  simp only [impl_Locks_isAsk.f, impl_isDealer.f, impl_isItem.f, within_eq, Option.bind_some, askV]
  cases win a0 0 3
  · simp only [Bool.false_eq_true, if_false]
    exact ev_now rfl
  · simp only [if_true]
    refine Ev.bind (contains_ev O a0 (by omega)) ?_
    cases O.contains a0
    · simp only [Bool.false_eq_true, if_false]
      cases win a1 0 3
      · simp only [Bool.false_eq_true, if_false]
        exact ev_now rfl
      · simp only [if_true]
        cases a3
        · simp only [Bool.false_eq_true, if_false]
          exact ev_now rfl
        · simp only [if_true]
          by_cases e : a1 = 0
          · simp only [if_pos e]
            exact ev_now (by simp)
          · simp only [if_neg e]
            exact ev_now (by simp)
    · simp only [if_true]
      exact ev_now rfl
theorem glV_len {R : List (List Int)} {W O : List Int} (h : glV R W O = true) : R.length = 4 ∧ W.length = 4 := by
  unfold glV at h
  simp only [Bool.and_eq_true, decide_eq_true_eq] at h
  exact ⟨h.1, h.2.1⟩
theorem WaitsFor_both (R : List (List Int)) (W O : List Int) (a0 a1 : Int) (a2 a3 : Bool) (hR : BdIntSS R) (hW : BdIntS W) (hO : BdIntS O) : ∃ (y : List Int) (b : Bool), Ev (fun k => spec_WaitsFor.f k R W O a0 a1 a2 a3) (y, b) ∧ Ev (fun k => impl_WaitsFor.f k R W O a0 a1 a2 a3) (y, b) ∧ BdIntS y := by
  have sG := sGL_ev R W O (ok_IntSS hR) (ok_IntS hW) (ok_IntS hO)
  have iG := iGL_ev R W O hR (ok_IntS hW) (ok_IntS hO)
  have sA := sask R W O a0 a1 a2 a3 hO
  have iA := iask R W O a0 a1 a2 a3 hO
  cases hg : glV R W O with
  | false =>
    rw [hg] at sG iG
    refine ⟨[], false, ?_, ?_, ⟨by simp, fun _ _ => trivial⟩⟩
    · simp only [spec_WaitsFor.f]
      refine Ev.bind sG ?_
      simp only [Bool.false_eq_true, if_false]
      exact ev_now rfl
    · simp only [impl_WaitsFor.f]
      refine Ev.bind iG ?_
      simp only [Bool.false_eq_true, if_false]
      exact ev_now rfl
  | true =>
    rw [hg] at sG iG
    obtain ⟨h4, h5⟩ := glV_len hg
    cases hq : askV O a0 a1 a2 a3 with
    | false =>
      rw [hq] at sA iA
      refine ⟨[], false, ?_, ?_, ⟨by simp, fun _ _ => trivial⟩⟩
      · simp only [spec_WaitsFor.f]
        refine Ev.bind sG ?_
        simp only [if_true]
        refine Ev.bind sA ?_
        simp only [Bool.false_eq_true, if_false]
        exact ev_now rfl
      · simp only [impl_WaitsFor.f]
        refine Ev.bind iG ?_
        simp only [if_true]
        refine Ev.bind iA ?_
        simp only [Bool.false_eq_true, if_false]
        exact ev_now rfl
    | true =>
      rw [hq] at sA iA
      have hw : win a1 0 3 = true := by
        unfold askV at hq
        simp only [Bool.and_eq_true] at hq
        exact hq.2.2.1
      have hw2 := (win_iff _ _ _).1 hw
      cases a3 with
      | true =>
        refine ⟨[], false, ?_, ?_, ⟨by simp, fun _ _ => trivial⟩⟩
        · simp only [spec_WaitsFor.f]
          refine Ev.bind sG ?_
          simp only [if_true]
          refine Ev.bind sA ?_
          simp only [if_true]
          exact ev_now rfl
        · simp only [impl_WaitsFor.f]
          refine Ev.bind iG ?_
          simp only [if_true]
          refine Ev.bind iA ?_
          simp only [if_true]
          exact ev_now rfl
      | false =>
        refine ⟨wl a0 a1 a2 R W 4 0, true, ?_, ?_, ⟨by have := wl_length a0 a1 a2 R W 4 0; omega, fun _ _ => trivial⟩⟩
        · simp only [spec_WaitsFor.f]
          refine Ev.bind sG ?_
          simp only [if_true]
          refine Ev.bind sA ?_
          simp only [if_true, Bool.false_eq_true, if_false, spec_l8Waits.f]
          exact Ev.bind (swait a0 a1 a2 false R W O hw2.1 hw2.2 h4 h5 (fun r hr => (hR.2 r hr).1) 4 0 [] rfl (Nat.le_refl _)) (ev_now rfl)
        · simp only [impl_WaitsFor.f]
          refine Ev.bind iG ?_
          simp only [if_true]
          refine Ev.bind iA ?_
          simp only [if_true, Bool.false_eq_true, if_false, impl_Locks_keepers.f]
          exact Ev.bind (iwait a0 a1 a2 false R W O hw2.1 hw2.2 h4 h5 (fun r hr => (hR.2 r hr).1) 4 0 [] rfl (Nat.le_refl _)) (ev_now rfl)
end Go.Proofs.Ytlknbopddalinaa.Pu
