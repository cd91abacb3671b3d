/- What the last Write of an item is, on both sides. Conditions: lengths that Go can hold. -/
import Derived.Test.YtpnlkmpoaboncaaPr0
import Derived.Test.YtpnlkmpoaboncaaPr3
import Derived.Test.YtpnlkmpoaboncaaA7
import Derived.Test.YtpnlkmpoaboncaaELastWrite
namespace Go.Proofs.Ytpnlkmpoaboncaa.Ax
open Go.RowKit Go.Proofs.Ytpnlkmpoaboncaa.Pr Go.Proofs.Ytpnlkmpoaboncaa.Pl Go.Proofs.YtpnlkmpoaboncaaW.PrintWords Go.Proofs.YtpnlkmpoaboncaaW.PrintLast Go.Proofs.YtpnlkmpoaboncaaW.PrintMore
set_option linter.unusedVariables false
set_option linter.unusedSimpArgs false
/-- The last Write of an item. -/
def lw (l : List S44) (it : Int) : Int := lwN l it l.length
theorem lwN_step {l ys : List S44} {y : S44} {j : Nat} (it : Int) (h : l.drop j = y :: ys) : lwN l it (j + 1) = if isW it y then (j : Int) else lwN l it j := by
  have := (drop_cons h).2.1
  have e : l.getD j z44 = y := by simp [List.getD_eq_getElem?_getD, this]
  rw [lwN, e]
theorem lwN_range (l : List S44) (it : Int) : ∀ m, -1 ≤ lwN l it m ∧ lwN l it m < m
  | 0 => by simp [lwN]
  | m + 1 => by
    have := lwN_range l it m
    rw [lwN]
    split <;> omega
theorem lw_range (l : List S44) (it : Int) : -1 ≤ lw l it ∧ lw l it < l.length := lwN_range l it l.length
theorem l7Last_l0 (it : Int) (xs : List S44) (hb : xs.length < 9223372036854775807) : ∀ (ys : List S44) (j : Nat), xs.drop j = ys → j ≤ xs.length →
    Ev (fun k => spec_l7Last.l0 k it (lwN xs it j) xs (xs.length : Int) (j : Int)) (lw xs it)
  | [], j, h, hj => by
    have h1 := drop_nil h
    have e : j = xs.length := by omega
    subst e
    refine ev_succ ?_
    simp only [spec_l7Last.l0]
    simp only [if_neg (show ¬ ((xs.length : Int) < (xs.length : Int)) by omega)]
    exact ev_now rfl
  | y :: ys, j, h, hj => by
    obtain ⟨h1, h2, h3⟩ := drop_cons h
    have ih := l7Last_l0 it xs hb ys (j + 1) h3 h1
    rw [lwN_step it h] at ih
    refine ev_succ ?_
    simp only [spec_l7Last.l0]
    simp only [if_pos (show (j : Int) < (xs.length : Int) by omega), if_pos (show (0 : Int) ≤ (j : Int) by omega), rd_T44_drop h, wrap_succ (show j < 9223372036854775807 by omega)]
    by_cases e1 : y.f1 = it
    · cases e2 : y.f2
      · simpa [isW, e1, e2] using ih
      · simpa [isW, e1, e2] using ih
    · simpa [isW, e1] using ih
theorem l7Last_ev (xs : List S44) (it : Int) (hb : xs.length < 9223372036854775807) : Ev (fun k => spec_l7Last.f k xs it) (lw xs it) := l7Last_l0 it xs hb xs 0 rfl (Nat.zero_le _)
theorem lastWrite_eq (xs : List S44) (it : Int) (hb : xs.length < 9223372036854775807) : impl_lastWrite.f xs it = some (lw xs it) := by
  unfold impl_lastWrite.f
  rw [if_pos hb]
  rfl
def lasts (l : List S44) (j d : Nat) : List Int := (List.range' j d).map fun i : Nat => lw l (i : Int)
theorem lasts_succ (l : List S44) (j d : Nat) : lasts l j (d + 1) = lw l (j : Int) :: lasts l (j + 1) d := by simp [lasts, List.range'_succ]
theorem lasts_length (l : List S44) (j d : Nat) : (lasts l j d).length = d := by simp [lasts]
theorem lasts_l0 (l : List S44) (hb : l.length < 9223372036854775807) : ∀ (d j : Nat) (out : List Int), j + d = 4 → out.length ≤ 4 - d → Ev (fun k => spec_l7Lasts.l0 k l out (j : Int)) (out ++ lasts l j d)
  | 0, j, out, h, ho => by
    refine ev_succ ?_
    simp only [spec_l7Lasts.l0]
    simp only [if_neg (show ¬ ((j : Int) < 4) by omega)]
    exact ev_now (by simp [lasts])
  | d + 1, j, out, h, ho => by
    have ih := lasts_l0 l hb d (j + 1) (out ++ [lw l (j : Int)]) (by omega) (by simp; omega)
    refine ev_succ ?_
    simp only [spec_l7Lasts.l0]
    simp only [if_pos (show (j : Int) < 4 by omega), wrap_succ (show j < 9223372036854775807 by omega)]
    refine Ev.bind (l7Last_ev l _ hb) ?_
    simp only [if_pos (show out.length < 17592186044416 by omega)]
    rw [lasts_succ]
    simpa using ih
theorem lasts_ev (l : List S44) (hb : l.length < 9223372036854775807) : Ev (fun k => spec_l7Lasts.f k l) (lasts l 0 4) := by
  simp only [spec_l7Lasts.f]
  simpa using lasts_l0 l hb 4 0 [] rfl (by simp)
/-- What is read, act by act. -/
def rdF (l : List S44) : List S44 → Nat → List Int
  | [], _ => []
  | y :: ys, j => (if y.f2 then -2 else lw (l.take j) y.f1) :: rdF l ys (j + 1)
theorem rdF_length (l : List S44) : ∀ (ys : List S44) (j : Nat), (rdF l ys j).length = ys.length
  | [], _ => rfl
  | y :: ys, j => by simp [rdF, rdF_length l ys (j + 1)]
theorem reads_l0 (l : List S44) (hb : l.length < 17592186044416) : ∀ (ys : List S44) (j : Nat) (out : List Int), l.drop j = ys → out.length ≤ j → j ≤ l.length → Ev (fun k => spec_l7Reads.l0 k l out l (l.length : Int) (j : Int)) (out ++ rdF l ys j)
  | [], j, out, h, ho, hj => by
    have h1 := drop_nil h
    refine ev_succ ?_
    simp only [spec_l7Reads.l0]
    simp only [if_neg (show ¬ ((j : Int) < (l.length : Int)) by omega)]
    exact ev_now (by simp [rdF])
  | y :: ys, j, out, h, ho, hj => by
    obtain ⟨h1, h2, h3⟩ := drop_cons h
    refine ev_succ ?_
    simp only [spec_l7Reads.l0]
    simp only [if_pos (show (j : Int) < (l.length : Int) by omega), if_pos (show (0 : Int) ≤ (j : Int) by omega), rd_T44_drop h, wrap_succ (show j < 9223372036854775807 by omega), if_pos (show out.length < 17592186044416 by omega), if_pos (show (j : Int) ≤ (l.length : Int) by omega), Int.toNat_natCast]
    cases e : y.f2
    · simp only [Bool.false_eq_true, if_false]
      refine Ev.bind (l7Last_ev _ _ (by rw [List.length_take]; omega)) ?_
      have ih := reads_l0 l hb ys (j + 1) (out ++ [lw (l.take j) y.f1]) h3 (by simp; omega) h1
      simpa [rdF, e] using ih
    · simp only [if_true]
      have ih := reads_l0 l hb ys (j + 1) (out ++ [-2]) h3 (by simp; omega) h1
      simpa [rdF, e] using ih
theorem reads_ev (l : List S44) (hb : l.length < 17592186044416) : Ev (fun k => spec_l7Reads.f k l) (rdF l l 0) := by
  simp only [spec_l7Reads.f]
  simpa using reads_l0 l hb l 0 [] rfl (Nat.zero_le _) (Nat.zero_le _)
end Go.Proofs.Ytpnlkmpoaboncaa.Ax
