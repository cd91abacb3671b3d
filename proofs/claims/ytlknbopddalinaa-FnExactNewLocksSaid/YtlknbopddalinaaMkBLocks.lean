/- The marks in locks: how many, and that they are found again. No condition. -/
import Derived.Test.YtlknbopddalinaaPr2
import Derived.Test.YtlknbopddalinaaMkBSS
import Derived.Test.YtlknbopddalinaaMkL
namespace Go.Proofs.Ytlknbopddalinaa.Ax
open Go.RowKit Go.Proofs.Ytlknbopddalinaa.Pr Go.Proofs.Ytlknbopddalinaa.Pl Go.Proofs.YtlknbopddalinaaW.PrintWords Go.Proofs.YtlknbopddalinaaW.PrintLast Go.Proofs.YtlknbopddalinaaW.PrintMore
set_option linter.unusedVariables false
theorem cntLocks_bd {l0 : List (List Int)} {l1 l2 : List Int} (h0 : BdIntSS l0) (h1 : BdIntS l1) (h2 : BdIntS l2) : cntLocks l0 l1 l2 ≤ 2199023255552 := by
  have := cntIntSS_bd h0
  have := cntIntS_bd h1
  have := cntIntS_bd h2
  unfold cntLocks
  omega
theorem heldLocks_ev' (l0 : List (List Int)) (l1 l2 : List Int) (m : Int) (hl : l0.length < 9223372036854775807) (h0 : 0 ≤ m) (hb : m + (cntLocks l0 l1 l2 : Nat) < 9223372036854775807) :
    Ev (fun k => laws_heldLocks.f k (mkLocks_0 l0 l1 l2 m) (mkLocks_1 l0 l1 l2 m) (mkLocks_2 l0 l1 l2 m) m) (m + (cntLocks l0 l1 l2 : Nat)) := by
  unfold cntLocks at hb ⊢
  simp only [laws_heldLocks.f]
  refine Ev.bind (heldIntSS_ev' l0 m hl h0 (by omega)) ?_
  simp only [if_neg (show ¬ m + (cntIntSS l0 : Nat) < 0 by omega)]
  refine Ev.bind (heldIntS_ev' l1 _ (by omega) (by omega)) ?_
  simp only [if_neg (show ¬ m + (cntIntSS l0 : Nat) + (cntIntS l1 : Nat) < 0 by omega)]
  refine Ev.bind (heldIntS_ev' l2 _ (by omega) (by omega)) ?_
  simp only [if_neg (show ¬ m + (cntIntSS l0 : Nat) + (cntIntS l1 : Nat) + (cntIntS l2 : Nat) < 0 by omega)]
  rw [show m + (cntIntSS l0 : Nat) + (cntIntS l1 : Nat) + (cntIntS l2 : Nat) = m + ((cntIntSS l0 + (cntIntS l1 + cntIntS l2) : Nat) : Int) by omega]
  exact ev_now rfl
end Go.Proofs.Ytlknbopddalinaa.Ax
