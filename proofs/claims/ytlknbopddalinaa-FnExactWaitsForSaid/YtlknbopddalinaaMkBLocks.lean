/- The marks in locks: how many, and that they are found again. No condition. -/
import Derived.Test.YtlknbopddalinaaPr2
import Derived.Test.YtlknbopddalinaaMkL
import Derived.Test.YtlknbopddalinaaCv
namespace Go.Proofs.Ytlknbopddalinaa.Ax
open Go.RowKit Go.Proofs.Ytlknbopddalinaa.Pr Go.Proofs.Ytlknbopddalinaa.Pl Go.Proofs.YtlknbopddalinaaW.PrintWords Go.Proofs.YtlknbopddalinaaW.PrintLast Go.Proofs.YtlknbopddalinaaW.PrintMore
set_option linter.unusedVariables false
theorem cntIntS_bd {l : List Int} (h : BdIntS l) : cntIntS l ≤ 1048576 := h.1
theorem cntIntSS_bd {l : List (List Int)} (h : BdIntSS l) : cntIntSS l ≤ 1099511627776 := cntIntSS_le ⟨h.1, fun e he => (h.2 e he).1⟩
theorem heldIntS_ev' (l : List Int) (m : Int) (h0 : 0 ≤ m) (hb : m + (cntIntS l : Nat) < 9223372036854775807) : Ev (fun k => laws_heldIntS.f k (mkIntS l m) m) (m + (cntIntS l : Nat)) := heldIntS_ev l.length m h0 hb
theorem heldIntSS_l0 (xs : List (List Int)) (hx : xs.length < 9223372036854775807) : ∀ (ys : List (List Int)) (j : Nat) (m : Int), 0 ≤ m → m + (cntIntSS ys : Nat) < 9223372036854775807 → xs.drop j = mkIntSS ys m →
    Ev (fun k => laws_heldIntSS.l0 k xs m (j : Int)) (m + (cntIntSS ys : Nat))
  | [], j, m, h0, hb, h => by
    have h1 := drop_nil h
    refine ev_succ ?_
    simp only [laws_heldIntSS.l0]
    simp only [if_neg (show ¬ ((j : Int) < (xs.length : Int)) by omega)]
    exact ev_now (by simp [cntOf])
  | y :: ys, j, m, h0, hb, h => by
    rw [mkIntSS, mkOf] at h
    obtain ⟨h1, h2, h3⟩ := drop_cons h
    rw [cntIntSS, cntOf] at hb
    refine ev_succ ?_
    simp only [laws_heldIntSS.l0]
    simp only [if_pos (show (j : Int) < (xs.length : Int) by omega), if_pos (show (0 : Int) ≤ (j : Int) by omega), rd_L1_drop h]
    refine Ev.bind (heldIntS_ev' y m h0 (by omega)) ?_
    simp only [if_neg (show ¬ m + (cntIntS y : Nat) < 0 by omega), wrap_succ (show j < 9223372036854775807 by omega)]
    have := heldIntSS_l0 xs hx ys (j + 1) (m + (cntIntS y : Nat)) (by omega) (by show m + (cntIntS y : Nat) + ((cntOf cntIntS ys : Nat) : Int) < _; omega) h3
    rw [cntIntSS, cntOf]
    rwa [show m + (cntIntS y : Nat) + ((cntOf cntIntS ys : Nat) : Int) = m + ((cntIntS y + cntOf cntIntS ys : Nat) : Int) by omega] at this
theorem heldIntSS_ev' (l : List (List Int)) (m : Int) (hl : l.length < 9223372036854775807) (h0 : 0 ≤ m) (hb : m + (cntIntSS l : Nat) < 9223372036854775807) : Ev (fun k => laws_heldIntSS.f k (mkIntSS l m) m) (m + (cntIntSS l : Nat)) := by
  simp only [laws_heldIntSS.f]
  exact heldIntSS_l0 _ (by rw [mkOf_length]; exact hl) l 0 m h0 hb rfl
theorem cntLocks_bd {l0 : List (List Int)} {l1 l2 : List Int} (h0 : BdIntSS l0) (h1 : BdIntS l1) (h2 : BdIntS l2) : cntLocks l0 l1 l2 ≤ 2199023255552 := by
  have := cntIntSS_bd h0
  have := cntIntS_bd h1
  have := cntIntS_bd h2
  unfold cntLocks
  omega
theorem heldLocks_ev' (l0 : List (List Int)) (l1 l2 : List Int) (m : Int) (hl : l0.length < 9223372036854775807) (h0 : 0 ≤ m) (hb : m + (cntLocks l0 l1 l2 : Nat) < 9223372036854775807) :
    Ev (fun k => laws_heldLocks.f k (mkLocks_0 l0 l1 l2 m) (mkLocks_1 l0 l1 l2 m) (mkLocks_2 l0 l1 l2 m) m) (m + (cntLocks l0 l1 l2 : Nat)) := by
  unfold cntLocks at hb ⊢
  simp only [laws_heldLocks.f]
  refine Ev.bind (heldIntSS_ev' l0 m hl h0 (by omega)) ?_
  simp only [if_neg (show ¬ m + (cntIntSS l0 : Nat) < 0 by omega)]
  refine Ev.bind (heldIntS_ev' l1 _ (by omega) (by omega)) ?_
  simp only [if_neg (show ¬ m + (cntIntSS l0 : Nat) + (cntIntS l1 : Nat) < 0 by omega)]
  refine Ev.bind (heldIntS_ev' l2 _ (by omega) (by omega)) ?_
  simp only [if_neg (show ¬ m + (cntIntSS l0 : Nat) + (cntIntS l1 : Nat) + (cntIntS l2 : Nat) < 0 by omega)]
  rw [show m + (cntIntSS l0 : Nat) + (cntIntS l1 : Nat) + (cntIntS l2 : Nat) = m + ((cntIntSS l0 + (cntIntS l1 + cntIntS l2) : Nat) : Int) by omega]
  exact ev_now rfl
end Go.Proofs.Ytlknbopddalinaa.Ax
