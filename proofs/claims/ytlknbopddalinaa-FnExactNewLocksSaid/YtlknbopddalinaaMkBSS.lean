/- The marks in lists of lists are found again. No condition. -/
import Derived.Test.YtlknbopddalinaaPr2
import Derived.Test.YtlknbopddalinaaMkB
namespace Go.Proofs.Ytlknbopddalinaa.Ax
open Go.RowKit Go.Proofs.Ytlknbopddalinaa.Pr Go.Proofs.Ytlknbopddalinaa.Pl Go.Proofs.YtlknbopddalinaaW.PrintWords Go.Proofs.YtlknbopddalinaaW.PrintLast Go.Proofs.YtlknbopddalinaaW.PrintMore
set_option linter.unusedVariables false
theorem heldIntSS_l0 (xs : List (List Int)) (hx : xs.length < 9223372036854775807) : ∀ (ys : List (List Int)) (j : Nat) (m : Int), 0 ≤ m → m + (cntIntSS ys : Nat) < 9223372036854775807 → xs.drop j = mkIntSS ys m →
    Ev (fun k => laws_heldIntSS.l0 k xs m (j : Int)) (m + (cntIntSS ys : Nat))
  | [], j, m, h0, hb, h => by
    have h1 := drop_nil h
    refine ev_succ ?_
    simp only [laws_heldIntSS.l0]
    simp only [if_neg (show ¬ ((j : Int) < (xs.length : Int)) by omega)]
    exact ev_now (by simp [cntOf])
  | y :: ys, j, m, h0, hb, h => by
    rw [mkIntSS, mkOf] at h
    obtain ⟨h1, h2, h3⟩ := drop_cons h
    rw [cntIntSS, cntOf] at hb
    refine ev_succ ?_
    simp only [laws_heldIntSS.l0]
    simp only [if_pos (show (j : Int) < (xs.length : Int) by omega), if_pos (show (0 : Int) ≤ (j : Int) by omega), rd_L1_drop h]
    refine Ev.bind (heldIntS_ev' y m h0 (by omega)) ?_
    simp only [if_neg (show ¬ m + (cntIntS y : Nat) < 0 by omega), wrap_succ (show j < 9223372036854775807 by omega)]
    have := heldIntSS_l0 xs hx ys (j + 1) (m + (cntIntS y : Nat)) (by omega) (by show m + (cntIntS y : Nat) + ((cntOf cntIntS ys : Nat) : Int) < _; omega) h3
    rw [cntIntSS, cntOf]
    rwa [show m + (cntIntS y : Nat) + ((cntOf cntIntS ys : Nat) : Int) = m + ((cntIntS y + cntOf cntIntS ys : Nat) : Int) by omega] at this
theorem heldIntSS_ev' (l : List (List Int)) (m : Int) (hl : l.length < 9223372036854775807) (h0 : 0 ≤ m) (hb : m + (cntIntSS l : Nat) < 9223372036854775807) : Ev (fun k => laws_heldIntSS.f k (mkIntSS l m) m) (m + (cntIntSS l : Nat)) := by
  simp only [laws_heldIntSS.f]
  exact heldIntSS_l0 _ (by rw [mkOf_length]; exact hl) l 0 m h0 hb rfl
end Go.Proofs.Ytlknbopddalinaa.Ax
