/- What GoodTable tells. Conditions: lengths that Go can hold. -/
import Derived.Test.YtfafegglmmkmbaaPr0
import Derived.Test.YtfafegglmmkmbaaPr1
import Derived.Test.YtfafegglmmkmbaaPr2
import Derived.Test.YtfafegglmmkmbaaA2
namespace Go.Proofs.Ytfafegglmmkmbaa.Ax
open Go.RowKit Go.Proofs.Ytfafegglmmkmbaa.Pr Go.Proofs.Ytfafegglmmkmbaa.Pl Go.Proofs.YtfafegglmmkmbaaW.PrintWords Go.Proofs.YtfafegglmmkmbaaW.PrintLast Go.Proofs.YtfafegglmmkmbaaW.PrintMore
set_option linter.unusedVariables false
set_option linter.unusedSimpArgs false
/-- A good row; a good table. -/
def okR (x : S65) : Bool := win x.f0 0 999 && (decide (x.f1.length = 3) && x.f1.all gvS)
theorem l2Row_l0 (a : Int) (zs xs : List S25) (hb : xs.length < 9223372036854775807) : ∀ (ys : List S25) (j : Nat), xs.drop j = ys →
    Ev (fun k => spec_l2Row.l0 k xs (xs.length : Int) (j : Int) a zs) (ys.all gvS && (win a 0 999 && decide (zs.length = 3)))
  | [], j, h => by
    have h1 := drop_nil h
    refine ev_succ ?_
    simp only [spec_l2Row.l0]
    simp only [if_neg (show ¬ ((j : Int) < (xs.length : Int)) by omega), l1In_eq, Option.bind_some]
    cases e : win a 0 999
    · simp only [Bool.false_eq_true, if_false]
      exact ev_now (by simp)
    · simp only [if_true]
      refine ev_now ?_
      by_cases h3 : zs.length = 3
      · simp [h3]
      · have : ¬ (zs.length : Int) = 3 := by omega
        simp [h3, this]
  | y :: ys, j, h => by
    obtain ⟨h1, h2, h3⟩ := drop_cons h
    refine ev_succ ?_
    simp only [spec_l2Row.l0]
    simp only [if_pos (show (j : Int) < (xs.length : Int) by omega), if_pos (show (0 : Int) ≤ (j : Int) by omega), rd_T25_drop h, sGoodValue_eq, Option.bind_some, wrap_succ (show j < 9223372036854775807 by omega)]
    have ih := l2Row_l0 a zs xs hb ys (j + 1) h3
    cases e : gv y.f0 y.f1
    · simp only [Bool.false_eq_true, if_false]
      exact ev_now (by simp [gvS, e])
    · simp only [if_true]
      simpa [gvS, e] using ih
theorem l2Row_ev (x : S65) (hO : OkRow x) : Ev (fun k => spec_l2Row.f k x.f0 x.f1) (okR x) := by
  simp only [spec_l2Row.f]
  have := l2Row_l0 x.f0 x.f1 x.f1 hO.1 x.f1 0 rfl
  have e : okR x = (x.f1.all gvS && (win x.f0 0 999 && decide (x.f1.length = 3))) := by
    unfold okR
    cases x.f1.all gvS <;> cases win x.f0 0 999 <;> simp
  rw [e]
  exact this
theorem isRow_ev (x : S65) (hO : OkRow x) : Ev (fun k => impl_isRow.f k x.f0 x.f1) (okR x) := by
  simp only [impl_isRow.f, impl_isKey.f, within_eq, Option.bind_some, okR]
  cases e : win x.f0 0 999
  · simp only [Bool.false_eq_true, if_false]
    exact ev_now (by simp)
  · simp only [if_true]
    by_cases h3 : x.f1.length = 3
    · simp only [if_pos (show (x.f1.length : Int) = 3 by omega)]
      exact Ev.bind (areValues_ev x.f1 hO.1) (ev_now (by simp [h3]))
    · simp only [if_neg (show ¬ (x.f1.length : Int) = 3 by omega)]
      exact ev_now (by simp [h3])
/-- Are the rows good, the keys rising from the one before? -/
def gt : Option Int → List S65 → Bool
  | _, [] => true
  | p, x :: xs => okR x && (match p with | none => true | some q => decide (q < x.f0)) && gt (some x.f0) xs
theorem gt_cons (p : Option Int) (x : S65) (xs : List S65) : gt p (x :: xs) = (okR x && (match p with | none => true | some q => decide (q < x.f0)) && gt (some x.f0) xs) := by cases p <;> rfl
theorem gt_nil (p : Option Int) : gt p [] = true := by cases p <;> rfl
theorem sGT_l0 (xs : List S65) (hO : OkRowS xs) : ∀ (ys : List S65) (j : Nat), xs.drop j = ys →
    Ev (fun k => spec_GoodTable.l0 k xs xs (xs.length : Int) (j : Int)) (gt (if j = 0 then none else some (rd_T65 xs ((j : Int) - 1)).f0) ys && decide (xs.length ≤ 20))
  | [], j, h => by
    have h1 := drop_nil h
    refine ev_succ ?_
    simp only [spec_GoodTable.l0]
    simp only [if_neg (show ¬ ((j : Int) < (xs.length : Int)) by omega)]
    refine ev_now ?_
    rw [gt_nil, Bool.true_and]
    by_cases h20 : xs.length ≤ 20
    · simp [h20]; omega
    · simp [h20]; omega
  | y :: ys, j, h => by
    obtain ⟨h1, h2, h3⟩ := drop_cons h
    have hb := hO.1
    have hm : y ∈ xs := List.mem_of_getElem? h2
    have ih := sGT_l0 xs hO ys (j + 1) h3
    have ep : (rd_T65 xs (((j + 1 : Nat) : Int) - 1)) = y := by rw [show ((j + 1 : Nat) : Int) - 1 = (j : Int) by omega]; exact rd_T65_drop h
    rw [if_neg (by omega), ep] at ih
    refine ev_succ ?_
    simp only [spec_GoodTable.l0]
    simp only [if_pos (show (j : Int) < (xs.length : Int) by omega), if_pos (show (0 : Int) ≤ (j : Int) by omega), rd_T65_drop h, wrap_succ (show j < 9223372036854775807 by omega)]
    refine Ev.bind (l2Row_ev y (hO.2 y hm)) ?_
    rw [gt_cons]
    cases e : okR y
    · simp only [Bool.false_eq_true, if_false]
      exact ev_now (by simp)
    · simp only [if_true]
      by_cases hj : j = 0
      · subst hj
        simp only [if_neg (show ¬ (((0 : Nat) : Int) > 0) by omega)]
        simpa using ih
      · simp only [if_pos (show (j : Int) > 0 by omega), wrap_in (show -9223372036854775808 ≤ (j : Int) - 1 by omega) (show (j : Int) - 1 < 9223372036854775808 by omega), if_pos (show 0 ≤ (j : Int) - 1 by omega), if_pos (show (j : Int) - 1 < (xs.length : Int) by omega), if_neg hj]
        by_cases hk : (rd_T65 xs ((j : Int) - 1)).f0 ≥ y.f0
        · simp only [if_pos hk]
          exact ev_now (by simp; intro h; omega)
        · simp only [if_neg hk]
          simpa [show (rd_T65 xs ((j : Int) - 1)).f0 < y.f0 by omega] using ih
theorem iGT_l0 (xs : List S65) (hO : OkRowS xs) : ∀ (ys : List S65) (j : Nat), xs.drop j = ys →
    Ev (fun k => impl_GoodTable.l0 k xs xs (xs.length : Int) (j : Int)) (gt (if j = 0 then none else some (rd_T65 xs ((j : Int) - 1)).f0) ys && decide (xs.length ≤ 20))
  | [], j, h => by
    have h1 := drop_nil h
    refine ev_succ ?_
    simp only [impl_GoodTable.l0]
    simp only [if_neg (show ¬ ((j : Int) < (xs.length : Int)) by omega)]
    refine ev_now ?_
    rw [gt_nil, Bool.true_and]
    by_cases h20 : xs.length ≤ 20
    · simp [h20]; omega
    · simp [h20]; omega
  | y :: ys, j, h => by
    obtain ⟨h1, h2, h3⟩ := drop_cons h
    have hb := hO.1
    have hm : y ∈ xs := List.mem_of_getElem? h2
    have ih := iGT_l0 xs hO ys (j + 1) h3
    have ep : (rd_T65 xs (((j + 1 : Nat) : Int) - 1)) = y := by rw [show ((j + 1 : Nat) : Int) - 1 = (j : Int) by omega]; exact rd_T65_drop h
    rw [if_neg (by omega), ep] at ih
    refine ev_succ ?_
    simp only [impl_GoodTable.l0]
    simp only [if_pos (show (j : Int) < (xs.length : Int) by omega), if_pos (show (0 : Int) ≤ (j : Int) by omega), rd_T65_drop h, wrap_succ (show j < 9223372036854775807 by omega)]
    refine Ev.bind (isRow_ev y (hO.2 y hm)) ?_
    rw [gt_cons]
    cases e : okR y
    · simp only [Bool.false_eq_true, if_false]
      exact ev_now (by simp)
    · simp only [if_true]
      by_cases hj : j = 0
      · subst hj
        simp only [if_neg (show ¬ (((0 : Nat) : Int) > 0) by omega)]
        simpa using ih
      · simp only [if_pos (show (j : Int) > 0 by omega), wrap_in (show -9223372036854775808 ≤ (j : Int) - 1 by omega) (show (j : Int) - 1 < 9223372036854775808 by omega), if_pos (show 0 ≤ (j : Int) - 1 by omega), if_pos (show (j : Int) - 1 < (xs.length : Int) by omega), if_neg hj]
        by_cases hk : (rd_T65 xs ((j : Int) - 1)).f0 ≥ y.f0
        · simp only [if_pos hk]
          exact ev_now (by simp; intro h; omega)
        · simp only [if_neg hk]
          simpa [show (rd_T65 xs ((j : Int) - 1)).f0 < y.f0 by omega] using ih
theorem sGT_ev (xs : List S65) (hO : OkRowS xs) : Ev (fun k => spec_GoodTable.f k xs) (gt none xs && decide (xs.length ≤ 20)) := sGT_l0 xs hO xs 0 rfl
theorem iGT_ev (xs : List S65) (hO : OkRowS xs) : Ev (fun k => impl_GoodTable.f k xs) (gt none xs && decide (xs.length ≤ 20)) := iGT_l0 xs hO xs 0 rfl
end Go.Proofs.Ytfafegglmmkmbaa.Ax
