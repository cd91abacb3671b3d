/- What the functions of chapter 3 tell: rising numbers, equal and lesser lists, good relations. Conditions: lengths that Go can hold. -/
import Derived.Test.YtcengijoicmldaaGreatPr0
import Derived.Test.YtcengijoicmldaaGreatPr1
import Derived.Test.YtcengijoicmldaaGreatPr5
import Derived.Test.YtcengijoicmldaaGreatPr6
import Derived.Test.YtcengijoicmldaaGreatMx5
import Derived.Test.YtcengijoicmldaaGreatMx8
import Derived.Test.YtcengijoicmldaaGreatMx10
namespace Go.Proofs.YtcengijoicmldaaGreat.Ax
open Go.RowKit Go.Proofs.YtcengijoicmldaaGreat.Pr Go.Proofs.YtcengijoicmldaaGreat.Pl Go.Proofs.YtcengijoicmldaaGreatW.PrintWords Go.Proofs.YtcengijoicmldaaGreatW.PrintLast Go.Proofs.YtcengijoicmldaaGreatW.PrintMore
set_option linter.unusedVariables false
set_option linter.unusedSimpArgs false
def LnS (l : List Int) : Prop := l.length < 9223372036854775807 ∧ ∀ e ∈ l, True
def LnSS (l : List (List Int)) : Prop := l.length < 9223372036854775807 ∧ ∀ e ∈ l, LnS e
theorem LnS_of {l : List Int} (h : l.length < 9223372036854775807) : LnS l := ⟨h, fun _ _ => trivial⟩
theorem rdL1_drop {xs ys : List (List Int)} {j : Nat} {y : (List Int)} (h : xs.drop j = y :: ys) : rd_L1 xs (j : Int) = y := by
  have := (drop_cons h).2.1
  simp [rd_L1, List.getD_eq_getElem?_getD, this]
def lt : List Int → List Int → Bool
  | a :: us, b :: vs => if a = b then lt us vs else decide (a < b)
  | _, _ => false
theorem l3Less_l0 (xs zs : List Int) (hl : xs.length = zs.length) (hb : xs.length < 9223372036854775807) : ∀ (ys us : List Int) (j : Nat), xs.drop j = ys → zs.drop j = us →
    Ev (fun k => spec_l3Less.l0 k xs zs (xs.length : Int) (j : Int)) (lt ys us)
  | [], us, j, h, hu => by
    have h1 := drop_nil h
    refine ev_succ ?_
    simp only [spec_l3Less.l0]
    simp only [if_neg (show ¬ ((j : Int) < (xs.length : Int)) by omega)]
    exact ev_now (by cases us <;> rfl)
  | y :: ys, [], j, h, hu => by
    have h1 := drop_nil hu
    have := (drop_cons h).1
    omega
  | y :: ys, u :: us, j, h, hu => by
    obtain ⟨h1, h2, h3⟩ := drop_cons h
    obtain ⟨g1, g2, g3⟩ := drop_cons hu
    refine ev_succ ?_
    simp only [spec_l3Less.l0]
    simp only [if_pos (show (j : Int) < (xs.length : Int) by omega), if_pos (show (j : Int) < (zs.length : Int) by omega), if_pos (show (0 : Int) ≤ (j : Int) by omega), rd_drop h, rd_drop hu, wrap_succ (show j < 9223372036854775807 by omega)]
    by_cases e : y = u
    · simp only [if_pos e, lt]
      exact l3Less_l0 xs zs hl hb ys us (j + 1) h3 g3
    · simp only [if_neg e, lt]
      exact ev_now rfl
theorem l3Less_ev (xs zs : List Int) (hl : xs.length = zs.length) (hb : xs.length < 9223372036854775807) : Ev (fun k => spec_l3Less.f k xs zs) (lt xs zs) := l3Less_l0 xs zs hl hb xs zs 0 rfl rfl
theorem cmpInt_eq (a b : Int) : cmp_Compare_int.f a b = some (if a < b then -1 else if a > b then 1 else 0) := by
  simp only [cmp_Compare_int.f, cmp_isNaN_int.f, Option.bind_some, bne_self_eq_false, Bool.false_eq_true, if_false]
  by_cases h1 : a < b
  · simp [h1]
  · by_cases h2 : a > b <;> simp [h1, h2]
theorem compare_l0 (xs zs : List Int) (hl : xs.length = zs.length) (hb : xs.length < 9223372036854775807) : ∀ (ys us : List Int) (j : Nat), xs.drop j = ys → zs.drop j = us →
    ∃ r : Int, Ev (fun k => slices_Compare_int_int.l0 k xs zs xs (xs.length : Int) (j : Int)) r ∧ decide (r ≥ 0) = !lt ys us
  | [], us, j, h, hu => by
    have h1 := drop_nil h
    refine ⟨0, ev_succ ?_, by cases us <;> rfl⟩
    simp only [slices_Compare_int_int.l0]
    simp only [if_neg (show ¬ ((j : Int) < (xs.length : Int)) by omega), if_neg (show ¬ ((xs.length : Int) < (zs.length : Int)) by omega)]
    exact ev_now rfl
  | y :: ys, [], j, h, hu => by
    have h1 := drop_nil hu
    have := (drop_cons h).1
    omega
  | y :: ys, u :: us, j, h, hu => by
    obtain ⟨h1, h2, h3⟩ := drop_cons h
    obtain ⟨g1, g2, g3⟩ := drop_cons hu
    by_cases e : y = u
    · obtain ⟨r, e1, e2⟩ := compare_l0 xs zs hl hb ys us (j + 1) h3 g3
      refine ⟨r, ev_succ ?_, by rw [e2, lt, if_pos e]⟩
      simp only [slices_Compare_int_int.l0]
      simp only [if_pos (show (j : Int) < (xs.length : Int) by omega), if_neg (show ¬ ((j : Int) ≥ (zs.length : Int)) by omega), if_pos (show (j : Int) < (zs.length : Int) by omega), if_pos (show (0 : Int) ≤ (j : Int) by omega), rd_drop h, rd_drop hu, cmpInt_eq, Option.bind_some, wrap_succ (show j < 9223372036854775807 by omega), if_neg (show ¬ y < u by omega), if_neg (show ¬ y > u by omega), if_true]
      exact e1
    · refine ⟨if y < u then -1 else 1, ev_succ ?_, ?_⟩
      · simp only [slices_Compare_int_int.l0]
        simp only [if_pos (show (j : Int) < (xs.length : Int) by omega), if_neg (show ¬ ((j : Int) ≥ (zs.length : Int)) by omega), if_pos (show (j : Int) < (zs.length : Int) by omega), if_pos (show (0 : Int) ≤ (j : Int) by omega), rd_drop h, rd_drop hu, cmpInt_eq, Option.bind_some]
        by_cases h5 : y < u
        · simp only [if_pos h5]
          exact ev_now rfl
        · simp only [if_neg h5, if_pos (show y > u by omega)]
          exact ev_now rfl
      · rw [lt, if_neg e]
        by_cases h5 : y < u <;> simp [h5]
theorem compare_ev (xs zs : List Int) (hl : xs.length = zs.length) (hb : xs.length < 9223372036854775807) : ∃ r : Int, Ev (fun k => slices_Compare_int_int.f k xs zs) r ∧ decide (r ≥ 0) = !lt xs zs := compare_l0 xs zs hl hb xs zs 0 rfl rfl
theorem l1All_l0 (lo hi : Int) (xs : List Int) (hb : xs.length < 9223372036854775807) : ∀ (ys : List Int) (j : Nat), xs.drop j = ys →
    Ev (fun k => spec_l1All.l0 k lo hi xs (xs.length : Int) (j : Int)) (ys.all fun n => win n lo hi)
  | [], j, h => by
    have h1 := drop_nil h
    refine ev_succ ?_
    simp only [spec_l1All.l0]
    simp only [if_neg (show ¬ ((j : Int) < (xs.length : Int)) by omega)]
    exact ev_now rfl
  | y :: ys, j, h => by
    obtain ⟨h1, h2, h3⟩ := drop_cons h
    refine ev_succ ?_
    simp only [spec_l1All.l0]
    simp only [if_pos (show (j : Int) < (xs.length : Int) by omega), if_pos (show (0 : Int) ≤ (j : Int) by omega), rd_drop h, l1In_eq, Option.bind_some, wrap_succ (show j < 9223372036854775807 by omega)]
    cases e : win y lo hi
    · simp only [Bool.false_eq_true, if_false]
      exact ev_now (by simp [e])
    · simp only [if_true]
      have := l1All_l0 lo hi xs hb ys (j + 1) h3
      simpa [e] using this
theorem l1All_ev (xs : List Int) (lo hi : Int) (hb : xs.length < 9223372036854775807) : Ev (fun k => spec_l1All.f k xs lo hi) (xs.all fun n => win n lo hi) := l1All_l0 lo hi xs hb xs 0 rfl
theorem idxR_l0 (xs : List Int) (hb : xs.length < 9223372036854775807) : ∀ (ys : List Int) (j : Nat), xs.drop j = ys →
    ∃ r : Int, Ev (fun k => slices_IndexFunc_int_int.l0 k xs (xs.length : Int) (j : Int)) r ∧ decide (r ≥ 0) = !ys.all fun n => win n (-1000) 1000
  | [], j, h => by
    have h1 := drop_nil h
    refine ⟨-1, ev_succ ?_, by simp⟩
    simp only [slices_IndexFunc_int_int.l0]
    simp only [if_neg (show ¬ ((j : Int) < (xs.length : Int)) by omega)]
    exact ev_now rfl
  | y :: ys, j, h => by
    obtain ⟨h1, h2, h3⟩ := drop_cons h
    cases e : win y (-1000) 1000
    · refine ⟨(j : Int), ev_succ ?_, by simp [e]⟩
      simp only [slices_IndexFunc_int_int.l0]
      simp only [if_pos (show (j : Int) < (xs.length : Int) by omega), if_pos (show (0 : Int) ≤ (j : Int) by omega), rd_drop h, impl_GoodRelation_1.f, impl_isSmall.f, within_eq, e, Option.bind_some, Bool.not_false, if_true]
      exact ev_now rfl
    · obtain ⟨r, h4, h5⟩ := idxR_l0 xs hb ys (j + 1) h3
      refine ⟨r, ev_succ ?_, by simp [e, h5]⟩
      simp only [slices_IndexFunc_int_int.l0]
      simp only [if_pos (show (j : Int) < (xs.length : Int) by omega), if_pos (show (0 : Int) ≤ (j : Int) by omega), rd_drop h, impl_GoodRelation_1.f, impl_isSmall.f, within_eq, e, Option.bind_some, Bool.not_true, Bool.false_eq_true, if_false, wrap_succ (show j < 9223372036854775807 by omega)]
      exact h4
theorem someWide_ev (xs : List Int) (hb : xs.length < 9223372036854775807) : Ev (fun k => slices_ContainsFunc_int_int.f k xs) (!xs.all fun n => win n (-1000) 1000) := by
  simp only [slices_ContainsFunc_int_int.f, slices_IndexFunc_int_int.f]
  obtain ⟨r, h4, h5⟩ := idxR_l0 xs hb xs 0 rfl
  exact Ev.bind h4 (ev_now h5)
def tp (n : Nat) : Option (List Int) → List (List Int) → Bool
  | _, [] => true
  | p, t :: ts => (decide (t.length = n) && t.all fun m => win m (-1000) 1000) && (match p with | none => true | some q => lt q t) && tp n (some t) ts
theorem tp_nil (n : Nat) (p : Option (List Int)) : tp n p [] = true := by cases p <;> rfl
theorem tp_cons (n : Nat) (p : Option (List Int)) (t : List Int) (ts : List (List Int)) : tp n p (t :: ts) = ((decide (t.length = n) && t.all fun m => win m (-1000) 1000) && (match p with | none => true | some q => lt q t) && tp n (some t) ts) := by cases p <;> rfl
def gr (names : List Int) (ts : List (List Int)) : Bool := decide (names.length ≤ 6) && rs 0 20 none names && decide (ts.length ≤ 60) && tp names.length none ts
theorem sGR_l0 (ns : List Int) (xs : List (List Int)) (hO : LnSS xs) : ∀ (ys : List (List Int)) (j : Nat), xs.drop j = ys → (j ≠ 0 → (rd_L1 xs ((j : Int) - 1)).length = ns.length) →
    Ev (fun k => spec_GoodRelation.l0 k xs (xs.length : Int) (j : Int) ns xs) (tp ns.length (if j = 0 then none else some (rd_L1 xs ((j : Int) - 1))) ys)
  | [], j, h, hp => by
    have h1 := drop_nil h
    refine ev_succ ?_
    simp only [spec_GoodRelation.l0]
    simp only [if_neg (show ¬ ((j : Int) < (xs.length : Int)) by omega)]
    exact ev_now (tp_nil _ _).symm
  | y :: ys, j, h, hp => by
    obtain ⟨h1, h2, h3⟩ := drop_cons h
    have hb := hO.1
    have hy := (hO.2 y (List.mem_of_getElem? h2)).1
    have ep : rd_L1 xs (((j + 1 : Nat) : Int) - 1) = y := by rw [show ((j + 1 : Nat) : Int) - 1 = (j : Int) by omega]; exact rdL1_drop h
    refine ev_succ ?_
    simp only [spec_GoodRelation.l0]
    simp only [if_pos (show (j : Int) < (xs.length : Int) by omega), if_pos (show (0 : Int) ≤ (j : Int) by omega), rdL1_drop h, wrap_succ (show j < 9223372036854775807 by omega)]
    rw [tp_cons]
    by_cases hn : y.length = ns.length
    · have ih := sGR_l0 ns xs hO ys (j + 1) h3 (fun _ => by rw [ep]; exact hn)
      rw [if_neg (by omega), ep] at ih
      simp only [if_pos (show (y.length : Int) = (ns.length : Int) by omega)]
      refine Ev.bind (l1All_ev y _ _ hy) ?_
      cases e : y.all fun n => win n (-1000) 1000
      · simp only [Bool.false_eq_true, if_false]
        exact ev_now (by simp)
      · simp only [if_true]
        by_cases hj : j = 0
        · subst hj
          simp only [if_neg (show ¬ (((0 : Nat) : Int) > 0) by omega)]
          simpa [hn] using ih
        · have hq := hp hj
          simp only [if_pos (show (j : Int) > 0 by omega), wrap_in (show -9223372036854775808 ≤ (j : Int) - 1 by omega) (show (j : Int) - 1 < 9223372036854775808 by omega), if_pos (show 0 ≤ (j : Int) - 1 by omega), if_pos (show (j : Int) - 1 < (xs.length : Int) by omega), if_neg hj]
          refine Ev.bind (l3Less_ev _ y (by omega) (by omega)) ?_
          cases e2 : lt (rd_L1 xs ((j : Int) - 1)) y
          · simp only [Bool.false_eq_true, if_false]
            exact ev_now (by simp)
          · simp only [if_true]
            simpa [hn] using ih
    · simp only [if_neg (show ¬ (y.length : Int) = (ns.length : Int) by omega)]
      exact ev_now (by simp [hn])
theorem sGR_ev (ns : List Int) (xs : List (List Int)) (hN : LnS ns) (hO : LnSS xs) : Ev (fun k => spec_GoodRelation.f k ns xs) (gr ns xs) := by
  have hn := hN.1
  simp only [spec_GoodRelation.f, gr]
  by_cases h6 : ns.length ≤ 6
  · simp only [if_neg (show ¬ ((ns.length : Int) > 6) by omega)]
    refine Ev.bind (l1Rising_ev ns 0 20 hn) ?_
    cases e : rs 0 20 none ns
    · simp only [Bool.false_eq_true, if_false]
      refine ev_succ ?_
      simp only [spec_GoodRelation.j0, if_true]
      exact ev_now (by simp)
    · simp only [if_true]
      refine ev_succ ?_
      simp only [spec_GoodRelation.j0]
      by_cases h60 : xs.length ≤ 60
      · simp only [decide_eq_false (show ¬ ((xs.length : Int) > 60) by omega), Bool.false_eq_true, if_false]
        have := sGR_l0 ns xs hO xs 0 rfl (fun h => absurd rfl h)
        simpa [h6, h60] using this
      · simp only [decide_eq_true (show ((xs.length : Int) > 60) by omega), if_true]
        exact ev_now (by simp [h60])
  · simp only [if_pos (show ((ns.length : Int) > 6) by omega)]
    refine ev_succ ?_
    simp only [spec_GoodRelation.j0, if_true]
    exact ev_now (by simp [h6])
theorem iGR_l0 (ns : List Int) (xs : List (List Int)) (hO : LnSS xs) : ∀ (ys : List (List Int)) (j : Nat), xs.drop j = ys → (j ≠ 0 → (rd_L1 xs ((j : Int) - 1)).length = ns.length) →
    Ev (fun k => impl_GoodRelation.l0 k xs (xs.length : Int) (j : Int) ns xs) (tp ns.length (if j = 0 then none else some (rd_L1 xs ((j : Int) - 1))) ys)
  | [], j, h, hp => by
    have h1 := drop_nil h
    refine ev_succ ?_
    simp only [impl_GoodRelation.l0]
    simp only [if_neg (show ¬ ((j : Int) < (xs.length : Int)) by omega)]
    exact ev_now (tp_nil _ _).symm
  | y :: ys, j, h, hp => by
    obtain ⟨h1, h2, h3⟩ := drop_cons h
    have hb := hO.1
    have hy := (hO.2 y (List.mem_of_getElem? h2)).1
    have ep : rd_L1 xs (((j + 1 : Nat) : Int) - 1) = y := by rw [show ((j + 1 : Nat) : Int) - 1 = (j : Int) by omega]; exact rdL1_drop h
    refine ev_succ ?_
    simp only [impl_GoodRelation.l0]
    simp only [if_pos (show (j : Int) < (xs.length : Int) by omega), if_pos (show (0 : Int) ≤ (j : Int) by omega), rdL1_drop h]
    rw [tp_cons]
    by_cases hn : y.length = ns.length
    · have ih := iGR_l0 ns xs hO ys (j + 1) h3 (fun _ => by rw [ep]; exact hn)
      rw [if_neg (by omega), ep] at ih
      simp only [if_pos (show (y.length : Int) = (ns.length : Int) by omega)]
      refine Ev.bind (someWide_ev y hy) (ev_succ ?_)
      simp only [impl_GoodRelation.j2, wrap_succ (show j < 9223372036854775807 by omega)]
      cases e : y.all fun n => win n (-1000) 1000
      · simp only [Bool.not_false, if_true]
        exact ev_now (by simp)
      · simp only [Bool.not_true, Bool.false_eq_true, if_false]
        by_cases hj : j = 0
        · subst hj
          simp only [if_neg (show ¬ (((0 : Nat) : Int) > 0) by omega)]
          simpa [hn] using ih
        · have hq := hp hj
          simp only [if_pos (show (j : Int) > 0 by omega), wrap_in (show -9223372036854775808 ≤ (j : Int) - 1 by omega) (show (j : Int) - 1 < 9223372036854775808 by omega), if_pos (show 0 ≤ (j : Int) - 1 by omega), if_pos (show (j : Int) - 1 < (xs.length : Int) by omega), if_neg hj]
          obtain ⟨r, e1, e2⟩ := compare_ev (rd_L1 xs ((j : Int) - 1)) y (by omega) (by omega)
          refine Ev.bind e1 ?_
          by_cases hr : r ≥ 0
          · rw [decide_eq_true hr] at e2
            simp only [if_pos hr]
            exact ev_now (by simp at e2; simp [e2])
          · rw [decide_eq_false hr] at e2
            simp only [if_neg hr]
            have e3 : lt (rd_L1 xs ((j : Int) - 1)) y = true := by simpa using e2.symm
            simpa [hn, e3] using ih
    · simp only [if_neg (show ¬ (y.length : Int) = (ns.length : Int) by omega)]
      refine ev_succ ?_
      simp only [impl_GoodRelation.j2, if_true]
      exact ev_now (by simp [hn])
theorem iGR_ev (ns : List Int) (xs : List (List Int)) (hN : LnS ns) (hO : LnSS xs) : Ev (fun k => impl_GoodRelation.f k ns xs) (gr ns xs) := by
  have hn := hN.1
  simp only [impl_GoodRelation.f, gr]
  by_cases h6 : ns.length ≤ 6
  · simp only [if_neg (show ¬ ((ns.length : Int) > 6) by omega)]
    refine Ev.bind (isRising_ev ns 0 20 hn) ?_
    cases e : rs 0 20 none ns
    · simp only [Bool.false_eq_true, if_false]
      refine ev_succ ?_
      simp only [impl_GoodRelation.j0, if_true]
      exact ev_now (by simp)
    · simp only [if_true]
      refine ev_succ ?_
      simp only [impl_GoodRelation.j0]
      by_cases h60 : xs.length ≤ 60
      · simp only [decide_eq_false (show ¬ ((xs.length : Int) > 60) by omega), Bool.false_eq_true, if_false]
        have := iGR_l0 ns xs hO xs 0 rfl (fun h => absurd rfl h)
        simpa [h6, h60] using this
      · simp only [decide_eq_true (show ((xs.length : Int) > 60) by omega), if_true]
        exact ev_now (by simp [h60])
  · simp only [if_pos (show ((ns.length : Int) > 6) by omega)]
    refine ev_succ ?_
    simp only [impl_GoodRelation.j0, if_true]
    exact ev_now (by simp [h6])
end Go.Proofs.YtcengijoicmldaaGreat.Ax
