/- Several small texts together: A3, A3p0, Cv. No condition but those they name. -/
import Derived.Test.YtcengijoicmldaaPr0
import Derived.Test.YtcengijoicmldaaPr1
import Derived.Test.YtcengijoicmldaaPr2
import Derived.Test.YtcengijoicmldaaAw
import Derived.Test.YtcengijoicmldaaAr
import Derived.Test.YtcengijoicmldaaPl
import Derived.Test.YtcengijoicmldaaPr3
import Derived.Test.YtcengijoicmldaaOps
/- What the functions of chapter 3 tell: rising numbers, equal and lesser lists, good relations. Conditions: lengths that Go can hold. -/
namespace Go.Proofs.Ytcengijoicmldaa.Ax
open Go.RowKit Go.Proofs.Ytcengijoicmldaa.Pr Go.Proofs.Ytcengijoicmldaa.Pl Go.Proofs.YtcengijoicmldaaW.PrintWords Go.Proofs.YtcengijoicmldaaW.PrintLast Go.Proofs.YtcengijoicmldaaW.PrintMore
set_option linter.unusedVariables false
set_option linter.unusedSimpArgs false
def LnS (l : List Int) : Prop := l.length < 9223372036854775807 ∧ ∀ e ∈ l, True
def LnSS (l : List (List Int)) : Prop := l.length < 9223372036854775807 ∧ ∀ e ∈ l, LnS e
theorem LnS_of {l : List Int} (h : l.length < 9223372036854775807) : LnS l := ⟨h, fun _ _ => trivial⟩
theorem rdL1_drop {xs ys : List (List Int)} {j : Nat} {y : (List Int)} (h : xs.drop j = y :: ys) : rd_L1 xs (j : Int) = y := by
  have := (drop_cons h).2.1
  simp [rd_L1, List.getD_eq_getElem?_getD, this]
def lt : List Int → List Int → Bool
  | a :: us, b :: vs => if a = b then lt us vs else decide (a < b)
  | _, _ => false
theorem l3Less_l0 (xs zs : List Int) (hl : xs.length = zs.length) (hb : xs.length < 9223372036854775807) : ∀ (ys us : List Int) (j : Nat), xs.drop j = ys → zs.drop j = us →
    Ev (fun k => spec_l3Less.l0 k xs zs (xs.length : Int) (j : Int)) (lt ys us)
  | [], us, j, h, hu => by
    have h1 := drop_nil h
    refine ev_succ ?_
    simp only [spec_l3Less.l0]
    simp only [if_neg (show ¬ ((j : Int) < (xs.length : Int)) by omega)]
    exact ev_now (by cases us <;> rfl)
  | y :: ys, [], j, h, hu => by
    have h1 := drop_nil hu
    have := (drop_cons h).1
    omega
  | y :: ys, u :: us, j, h, hu => by
    obtain ⟨h1, h2, h3⟩ := drop_cons h
    obtain ⟨g1, g2, g3⟩ := drop_cons hu
    refine ev_succ ?_
    simp only [spec_l3Less.l0]
    simp only [if_pos (show (j : Int) < (xs.length : Int) by omega), if_pos (show (j : Int) < (zs.length : Int) by omega), if_pos (show (0 : Int) ≤ (j : Int) by omega), rd_drop h, rd_drop hu, wrap_succ (show j < 9223372036854775807 by omega)]
    by_cases e : y = u
    · simp only [if_pos e, lt]
      exact l3Less_l0 xs zs hl hb ys us (j + 1) h3 g3
    · simp only [if_neg e, lt]
      exact ev_now rfl
theorem l3Less_ev (xs zs : List Int) (hl : xs.length = zs.length) (hb : xs.length < 9223372036854775807) : Ev (fun k => spec_l3Less.f k xs zs) (lt xs zs) := l3Less_l0 xs zs hl hb xs zs 0 rfl rfl
theorem cmpInt_eq (a b : Int) : cmp_Compare_int.f a b = some (if a < b then -1 else if a > b then 1 else 0) := by
  simp only [cmp_Compare_int.f, cmp_isNaN_int.f, Option.bind_some, bne_self_eq_false, Bool.false_eq_true, if_false]
  by_cases h1 : a < b
  · simp [h1]
  · by_cases h2 : a > b <;> simp [h1, h2]
theorem compare_l0 (xs zs : List Int) (hl : xs.length = zs.length) (hb : xs.length < 9223372036854775807) : ∀ (ys us : List Int) (j : Nat), xs.drop j = ys → zs.drop j = us →
    ∃ r : Int, Ev (fun k => slices_Compare_int_int.l0 k xs zs xs (xs.length : Int) (j : Int)) r ∧ decide (r ≥ 0) = !lt ys us
  | [], us, j, h, hu => by
    have h1 := drop_nil h
    refine ⟨0, ev_succ ?_, by cases us <;> rfl⟩
    simp only [slices_Compare_int_int.l0]
    simp only [if_neg (show ¬ ((j : Int) < (xs.length : Int)) by omega), if_neg (show ¬ ((xs.length : Int) < (zs.length : Int)) by omega)]
    exact ev_now rfl
  | y :: ys, [], j, h, hu => by
    have h1 := drop_nil hu
    have := (drop_cons h).1
    omega
  | y :: ys, u :: us, j, h, hu => by
    obtain ⟨h1, h2, h3⟩ := drop_cons h
    obtain ⟨g1, g2, g3⟩ := drop_cons hu
    by_cases e : y = u
    · obtain ⟨r, e1, e2⟩ := compare_l0 xs zs hl hb ys us (j + 1) h3 g3
      refine ⟨r, ev_succ ?_, by rw [e2, lt, if_pos e]⟩
      simp only [slices_Compare_int_int.l0]
      simp only [if_pos (show (j : Int) < (xs.length : Int) by omega), if_neg (show ¬ ((j : Int) ≥ (zs.length : Int)) by omega), if_pos (show (j : Int) < (zs.length : Int) by omega), if_pos (show (0 : Int) ≤ (j : Int) by omega), rd_drop h, rd_drop hu, cmpInt_eq, Option.bind_some, wrap_succ (show j < 9223372036854775807 by omega), if_neg (show ¬ y < u by omega), if_neg (show ¬ y > u by omega), if_true]
      exact e1
    · refine ⟨if y < u then -1 else 1, ev_succ ?_, ?_⟩
      · simp only [slices_Compare_int_int.l0]
        simp only [if_pos (show (j : Int) < (xs.length : Int) by omega), if_neg (show ¬ ((j : Int) ≥ (zs.length : Int)) by omega), if_pos (show (j : Int) < (zs.length : Int) by omega), if_pos (show (0 : Int) ≤ (j : Int) by omega), rd_drop h, rd_drop hu, cmpInt_eq, Option.bind_some]
        by_cases h5 : y < u
        · simp only [if_pos h5]
          exact ev_now rfl
        · simp only [if_neg h5, if_pos (show y > u by omega)]
          exact ev_now rfl
      · rw [lt, if_neg e]
        by_cases h5 : y < u <;> simp [h5]
theorem compare_ev (xs zs : List Int) (hl : xs.length = zs.length) (hb : xs.length < 9223372036854775807) : ∃ r : Int, Ev (fun k => slices_Compare_int_int.f k xs zs) r ∧ decide (r ≥ 0) = !lt xs zs := compare_l0 xs zs hl hb xs zs 0 rfl rfl
theorem l1All_l0 (lo hi : Int) (xs : List Int) (hb : xs.length < 9223372036854775807) : ∀ (ys : List Int) (j : Nat), xs.drop j = ys →
    Ev (fun k => spec_l1All.l0 k lo hi xs (xs.length : Int) (j : Int)) (ys.all fun n => win n lo hi)
  | [], j, h => by
    have h1 := drop_nil h
    refine ev_succ ?_
    simp only [spec_l1All.l0]
    simp only [if_neg (show ¬ ((j : Int) < (xs.length : Int)) by omega)]
    exact ev_now rfl
  | y :: ys, j, h => by
    obtain ⟨h1, h2, h3⟩ := drop_cons h
    refine ev_succ ?_
    simp only [spec_l1All.l0]
    simp only [if_pos (show (j : Int) < (xs.length : Int) by omega), if_pos (show (0 : Int) ≤ (j : Int) by omega), rd_drop h, l1In_eq, Option.bind_some, wrap_succ (show j < 9223372036854775807 by omega)]
    cases e : win y lo hi
    · simp only [Bool.false_eq_true, if_false]
      exact ev_now (by simp [e])
    · simp only [if_true]
      have := l1All_l0 lo hi xs hb ys (j + 1) h3
      simpa [e] using this
theorem l1All_ev (xs : List Int) (lo hi : Int) (hb : xs.length < 9223372036854775807) : Ev (fun k => spec_l1All.f k xs lo hi) (xs.all fun n => win n lo hi) := l1All_l0 lo hi xs hb xs 0 rfl
theorem idxR_l0 (xs : List Int) (hb : xs.length < 9223372036854775807) : ∀ (ys : List Int) (j : Nat), xs.drop j = ys →
    ∃ r : Int, Ev (fun k => slices_IndexFunc_int_int.l0 k xs (xs.length : Int) (j : Int)) r ∧ decide (r ≥ 0) = !ys.all fun n => win n (-1000) 1000
  | [], j, h => by
    have h1 := drop_nil h
    refine ⟨-1, ev_succ ?_, by simp⟩
    simp only [slices_IndexFunc_int_int.l0]
    simp only [if_neg (show ¬ ((j : Int) < (xs.length : Int)) by omega)]
    exact ev_now rfl
  | y :: ys, j, h => by
    obtain ⟨h1, h2, h3⟩ := drop_cons h
    cases e : win y (-1000) 1000
    · refine ⟨(j : Int), ev_succ ?_, by simp [e]⟩
      simp only [slices_IndexFunc_int_int.l0]
      simp only [if_pos (show (j : Int) < (xs.length : Int) by omega), if_pos (show (0 : Int) ≤ (j : Int) by omega), rd_drop h, impl_GoodRelation_1.f, impl_isSmall.f, within_eq, e, Option.bind_some, Bool.not_false, if_true]
      exact ev_now rfl
    · obtain ⟨r, h4, h5⟩ := idxR_l0 xs hb ys (j + 1) h3
      refine ⟨r, ev_succ ?_, by simp [e, h5]⟩
      simp only [slices_IndexFunc_int_int.l0]
      simp only [if_pos (show (j : Int) < (xs.length : Int) by omega), if_pos (show (0 : Int) ≤ (j : Int) by omega), rd_drop h, impl_GoodRelation_1.f, impl_isSmall.f, within_eq, e, Option.bind_some, Bool.not_true, Bool.false_eq_true, if_false, wrap_succ (show j < 9223372036854775807 by omega)]
      exact h4
theorem someWide_ev (xs : List Int) (hb : xs.length < 9223372036854775807) : Ev (fun k => slices_ContainsFunc_int_int.f k xs) (!xs.all fun n => win n (-1000) 1000) := by
  simp only [slices_ContainsFunc_int_int.f, slices_IndexFunc_int_int.f]
  obtain ⟨r, h4, h5⟩ := idxR_l0 xs hb xs 0 rfl
  exact Ev.bind h4 (ev_now h5)
def tp (n : Nat) : Option (List Int) → List (List Int) → Bool
  | _, [] => true
  | p, t :: ts => (decide (t.length = n) && t.all fun m => win m (-1000) 1000) && (match p with | none => true | some q => lt q t) && tp n (some t) ts
theorem tp_nil (n : Nat) (p : Option (List Int)) : tp n p [] = true := by cases p <;> rfl
theorem tp_cons (n : Nat) (p : Option (List Int)) (t : List Int) (ts : List (List Int)) : tp n p (t :: ts) = ((decide (t.length = n) && t.all fun m => win m (-1000) 1000) && (match p with | none => true | some q => lt q t) && tp n (some t) ts) := by cases p <;> rfl
def gr (names : List Int) (ts : List (List Int)) : Bool := decide (names.length ≤ 6) && rs 0 20 none names && decide (ts.length ≤ 60) && tp names.length none ts
theorem sGR_l0 (ns : List Int) (xs : List (List Int)) (hO : LnSS xs) : ∀ (ys : List (List Int)) (j : Nat), xs.drop j = ys → (j ≠ 0 → (rd_L1 xs ((j : Int) - 1)).length = ns.length) →
    Ev (fun k => spec_GoodRelation.l0 k xs (xs.length : Int) (j : Int) ns xs) (tp ns.length (if j = 0 then none else some (rd_L1 xs ((j : Int) - 1))) ys)
  | [], j, h, hp => by
    have h1 := drop_nil h
    refine ev_succ ?_
    simp only [spec_GoodRelation.l0]
    simp only [if_neg (show ¬ ((j : Int) < (xs.length : Int)) by omega)]
    exact ev_now (tp_nil _ _).symm
  | y :: ys, j, h, hp => by
    obtain ⟨h1, h2, h3⟩ := drop_cons h
    have hb := hO.1
    have hy := (hO.2 y (List.mem_of_getElem? h2)).1
    have ep : rd_L1 xs (((j + 1 : Nat) : Int) - 1) = y := by rw [show ((j + 1 : Nat) : Int) - 1 = (j : Int) by omega]; exact rdL1_drop h
    refine ev_succ ?_
    simp only [spec_GoodRelation.l0]
    simp only [if_pos (show (j : Int) < (xs.length : Int) by omega), if_pos (show (0 : Int) ≤ (j : Int) by omega), rdL1_drop h, wrap_succ (show j < 9223372036854775807 by omega)]
    rw [tp_cons]
    by_cases hn : y.length = ns.length
    · have ih := sGR_l0 ns xs hO ys (j + 1) h3 (fun _ => by rw [ep]; exact hn)
      rw [if_neg (by omega), ep] at ih
      simp only [if_pos (show (y.length : Int) = (ns.length : Int) by omega)]
      refine Ev.bind (l1All_ev y _ _ hy) ?_
      cases e : y.all fun n => win n (-1000) 1000
      · simp only [Bool.false_eq_true, if_false]
        exact ev_now (by simp)
      · simp only [if_true]
        by_cases hj : j = 0
        · subst hj
          simp only [if_neg (show ¬ (((0 : Nat) : Int) > 0) by omega)]
          simpa [hn] using ih
        · have hq := hp hj
          simp only [if_pos (show (j : Int) > 0 by omega), wrap_in (show -9223372036854775808 ≤ (j : Int) - 1 by omega) (show (j : Int) - 1 < 9223372036854775808 by omega), if_pos (show 0 ≤ (j : Int) - 1 by omega), if_pos (show (j : Int) - 1 < (xs.length : Int) by omega), if_neg hj]
          refine Ev.bind (l3Less_ev _ y (by omega) (by omega)) ?_
          cases e2 : lt (rd_L1 xs ((j : Int) - 1)) y
          · simp only [Bool.false_eq_true, if_false]
            exact ev_now (by simp)
          · simp only [if_true]
            simpa [hn] using ih
    · simp only [if_neg (show ¬ (y.length : Int) = (ns.length : Int) by omega)]
      exact ev_now (by simp [hn])
theorem sGR_ev (ns : List Int) (xs : List (List Int)) (hN : LnS ns) (hO : LnSS xs) : Ev (fun k => spec_GoodRelation.f k ns xs) (gr ns xs) := by
  have hn := hN.1
  simp only [spec_GoodRelation.f, gr]
  by_cases h6 : ns.length ≤ 6
  · simp only [if_neg (show ¬ ((ns.length : Int) > 6) by omega)]
    refine Ev.bind (l1Rising_ev ns 0 20 hn) ?_
    cases e : rs 0 20 none ns
    · simp only [Bool.false_eq_true, if_false]
      refine ev_succ ?_
      simp only [spec_GoodRelation.j0, if_true]
      exact ev_now (by simp)
    · simp only [if_true]
      refine ev_succ ?_
      simp only [spec_GoodRelation.j0]
      by_cases h60 : xs.length ≤ 60
      · simp only [decide_eq_false (show ¬ ((xs.length : Int) > 60) by omega), Bool.false_eq_true, if_false]
        have := sGR_l0 ns xs hO xs 0 rfl (fun h => absurd rfl h)
        simpa [h6, h60] using this
      · simp only [decide_eq_true (show ((xs.length : Int) > 60) by omega), if_true]
        exact ev_now (by simp [h60])
  · simp only [if_pos (show ((ns.length : Int) > 6) by omega)]
    refine ev_succ ?_
    simp only [spec_GoodRelation.j0, if_true]
    exact ev_now (by simp [h6])
theorem iGR_l0 (ns : List Int) (xs : List (List Int)) (hO : LnSS xs) : ∀ (ys : List (List Int)) (j : Nat), xs.drop j = ys → (j ≠ 0 → (rd_L1 xs ((j : Int) - 1)).length = ns.length) →
    Ev (fun k => impl_GoodRelation.l0 k xs (xs.length : Int) (j : Int) ns xs) (tp ns.length (if j = 0 then none else some (rd_L1 xs ((j : Int) - 1))) ys)
  | [], j, h, hp => by
    have h1 := drop_nil h
    refine ev_succ ?_
    simp only [impl_GoodRelation.l0]
    simp only [if_neg (show ¬ ((j : Int) < (xs.length : Int)) by omega)]
    exact ev_now (tp_nil _ _).symm
  | y :: ys, j, h, hp => by
    obtain ⟨h1, h2, h3⟩ := drop_cons h
    have hb := hO.1
    have hy := (hO.2 y (List.mem_of_getElem? h2)).1
    have ep : rd_L1 xs (((j + 1 : Nat) : Int) - 1) = y := by rw [show ((j + 1 : Nat) : Int) - 1 = (j : Int) by omega]; exact rdL1_drop h
    refine ev_succ ?_
    simp only [impl_GoodRelation.l0]
    simp only [if_pos (show (j : Int) < (xs.length : Int) by omega), if_pos (show (0 : Int) ≤ (j : Int) by omega), rdL1_drop h]
    rw [tp_cons]
    by_cases hn : y.length = ns.length
    · have ih := iGR_l0 ns xs hO ys (j + 1) h3 (fun _ => by rw [ep]; exact hn)
      rw [if_neg (by omega), ep] at ih
      simp only [if_pos (show (y.length : Int) = (ns.length : Int) by omega)]
      refine Ev.bind (someWide_ev y hy) (ev_succ ?_)
      simp only [impl_GoodRelation.j2, wrap_succ (show j < 9223372036854775807 by omega)]
      cases e : y.all fun n => win n (-1000) 1000
      · simp only [Bool.not_false, if_true]
        exact ev_now (by simp)
      · simp only [Bool.not_true, Bool.false_eq_true, if_false]
        by_cases hj : j = 0
        · subst hj
          simp only [if_neg (show ¬ (((0 : Nat) : Int) > 0) by omega)]
          simpa [hn] using ih
        · have hq := hp hj
          simp only [if_pos (show (j : Int) > 0 by omega), wrap_in (show -9223372036854775808 ≤ (j : Int) - 1 by omega) (show (j : Int) - 1 < 9223372036854775808 by omega), if_pos (show 0 ≤ (j : Int) - 1 by omega), if_pos (show (j : Int) - 1 < (xs.length : Int) by omega), if_neg hj]
          obtain ⟨r, e1, e2⟩ := compare_ev (rd_L1 xs ((j : Int) - 1)) y (by omega) (by omega)
          refine Ev.bind e1 ?_
          by_cases hr : r ≥ 0
          · rw [decide_eq_true hr] at e2
            simp only [if_pos hr]
            exact ev_now (by simp at e2; simp [e2])
          · rw [decide_eq_false hr] at e2
            simp only [if_neg hr]
            have e3 : lt (rd_L1 xs ((j : Int) - 1)) y = true := by simpa using e2.symm
            simpa [hn, e3] using ih
    · simp only [if_neg (show ¬ (y.length : Int) = (ns.length : Int) by omega)]
      refine ev_succ ?_
      simp only [impl_GoodRelation.j2, if_true]
      exact ev_now (by simp [hn])
theorem iGR_ev (ns : List Int) (xs : List (List Int)) (hN : LnS ns) (hO : LnSS xs) : Ev (fun k => impl_GoodRelation.f k ns xs) (gr ns xs) := by
  have hn := hN.1
  simp only [impl_GoodRelation.f, gr]
  by_cases h6 : ns.length ≤ 6
  · simp only [if_neg (show ¬ ((ns.length : Int) > 6) by omega)]
    refine Ev.bind (isRising_ev ns 0 20 hn) ?_
    cases e : rs 0 20 none ns
    · simp only [Bool.false_eq_true, if_false]
      refine ev_succ ?_
      simp only [impl_GoodRelation.j0, if_true]
      exact ev_now (by simp)
    · simp only [if_true]
      refine ev_succ ?_
      simp only [impl_GoodRelation.j0]
      by_cases h60 : xs.length ≤ 60
      · simp only [decide_eq_false (show ¬ ((xs.length : Int) > 60) by omega), Bool.false_eq_true, if_false]
        have := iGR_l0 ns xs hO xs 0 rfl (fun h => absurd rfl h)
        simpa [h6, h60] using this
      · simp only [decide_eq_true (show ((xs.length : Int) > 60) by omega), if_true]
        exact ev_now (by simp [h60])
  · simp only [if_pos (show ((ns.length : Int) > 6) by omega)]
    refine ev_succ ?_
    simp only [impl_GoodRelation.j0, if_true]
    exact ev_now (by simp [h6])
end Go.Proofs.Ytcengijoicmldaa.Ax

/- What parts of names and the numbers under them tell. Conditions: lengths that Go can hold. -/
namespace Go.Proofs.Ytcengijoicmldaa.Ax
open Go.RowKit Go.Proofs.Ytcengijoicmldaa.Pr Go.Proofs.Ytcengijoicmldaa.Pl Go.Proofs.YtcengijoicmldaaW.PrintWords Go.Proofs.YtcengijoicmldaaW.PrintLast Go.Proofs.YtcengijoicmldaaW.PrintMore
set_option linter.unusedVariables false
set_option linter.unusedSimpArgs false
def ixf (n : Int) : Nat → List Int → Int
  | _, [] => -1
  | j, x :: xs => if x = n then (j : Int) else ixf n (j + 1) xs
def ix (ns : List Int) (n : Int) : Int := ixf n 0 ns
theorem ixf_in (n : Int) : ∀ (xs : List Int) (j : Nat), n ∈ xs → (j : Int) ≤ ixf n j xs ∧ ixf n j xs < j + xs.length
  | [], j, h => by simp at h
  | x :: xs, j, h => by
    rw [ixf]
    by_cases e : x = n
    · rw [if_pos e]
      simp
      omega
    · rw [if_neg e]
      have := ixf_in n xs (j + 1) (by rcases List.mem_cons.1 h with h | h; exact absurd h.symm e; exact h)
      simp
      omega
theorem ixf_out (n : Int) : ∀ (xs : List Int) (j : Nat), n ∉ xs → ixf n j xs = -1
  | [], j, h => by rw [ixf]
  | x :: xs, j, h => by
    rw [ixf, if_neg (by intro e; exact h (by simp [e]))]
    exact ixf_out n xs (j + 1) (by intro e; exact h (by simp [e]))
theorem at_l0 (n : Int) (xs : List Int) (hb : xs.length < 9223372036854775807) : ∀ (ys : List Int) (j : Nat), xs.drop j = ys → Ev (fun k => spec_l3At.l0 k n xs (xs.length : Int) (j : Int)) (ixf n j ys)
  | [], j, h => by
    have h1 := drop_nil h
    refine ev_succ ?_
    simp only [spec_l3At.l0]
    simp only [if_neg (show ¬ ((j : Int) < (xs.length : Int)) by omega)]
    exact ev_now rfl
  | y :: ys, j, h => by
    obtain ⟨h1, h2, h3⟩ := drop_cons h
    refine ev_succ ?_
    simp only [spec_l3At.l0]
    simp only [if_pos (show (j : Int) < (xs.length : Int) by omega), if_pos (show (0 : Int) ≤ (j : Int) by omega), rd_drop h, wrap_succ (show j < 9223372036854775807 by omega)]
    rw [ixf]
    by_cases e : y = n
    · simp only [if_pos e]
      exact ev_now rfl
    · simp only [if_neg e]
      exact at_l0 n xs hb ys (j + 1) h3
theorem at_ev (ns : List Int) (n : Int) (hb : ns.length < 9223372036854775807) : Ev (fun k => spec_l3At.f k ns n) (ix ns n) := at_l0 n ns hb ns 0 rfl
theorem index_l0 (n : Int) (xs : List Int) (hb : xs.length < 9223372036854775807) : ∀ (ys : List Int) (j : Nat), xs.drop j = ys → Ev (fun k => slices_Index_int_int.l0 k xs n (xs.length : Int) (j : Int)) (ixf n j ys)
  | [], j, h => by
    have h1 := drop_nil h
    refine ev_succ ?_
    simp only [slices_Index_int_int.l0]
    simp only [if_neg (show ¬ ((j : Int) < (xs.length : Int)) by omega)]
    exact ev_now rfl
  | y :: ys, j, h => by
    obtain ⟨h1, h2, h3⟩ := drop_cons h
    refine ev_succ ?_
    simp only [slices_Index_int_int.l0]
    simp only [if_pos (show (j : Int) < (xs.length : Int) by omega), if_pos (show (0 : Int) ≤ (j : Int) by omega), rd_drop h, wrap_succ (show j < 9223372036854775807 by omega)]
    rw [ixf]
    by_cases e : n = y
    · simp only [if_pos e, if_pos e.symm]
      exact ev_now rfl
    · simp only [if_neg e, if_neg (show ¬ y = n from fun h => e h.symm)]
      exact index_l0 n xs hb ys (j + 1) h3
theorem index_ev (ns : List Int) (n : Int) (hb : ns.length < 9223372036854775807) : Ev (fun k => slices_Index_int_int.f k ns n) (ix ns n) := index_l0 n ns hb ns 0 rfl
theorem ix_in {ns : List Int} {n : Int} (h : n ∈ ns) : 0 ≤ ix ns n ∧ ix ns n < ns.length := by
  have := ixf_in n ns 0 h
  unfold ix
  omega
theorem ix_out {ns : List Int} {n : Int} (h : n ∉ ns) : ix ns n = -1 := ixf_out n ns 0 h
theorem has_ev (ns : List Int) (n : Int) (hb : ns.length < 9223372036854775807) : Ev (fun k => slices_Contains_int_int.f k ns n) (decide (n ∈ ns)) := by
  simp only [slices_Contains_int_int.f]
  refine Ev.bind (index_ev ns n hb) (ev_now ?_)
  by_cases h : n ∈ ns
  · have := (ix_in h).1
    simp [h, this]
  · rw [ix_out h]
    simp [h]
def pk (ns t some_ : List Int) : List Int := some_.map fun n => rd t (ix ns n)
theorem pick_l0 (ns t : List Int) (hn : ns.length < 9223372036854775807) (ht : t.length = ns.length) (xs : List Int) (hb : xs.length ≤ 1048576) (hx : ∀ x ∈ xs, x ∈ ns) : ∀ (ys : List Int) (j : Nat) (out : List Int), xs.drop j = ys → out.length = j →
    Ev (fun k => spec_l3Pick.l0 k ns t out xs (xs.length : Int) (j : Int)) (out ++ pk ns t ys)
  | [], j, out, h, ho => by
    have h1 := drop_nil h
    refine ev_succ ?_
    simp only [spec_l3Pick.l0]
    simp only [if_neg (show ¬ ((j : Int) < (xs.length : Int)) by omega)]
    exact ev_now (by simp [pk])
  | y :: ys, j, out, h, ho => by
    obtain ⟨h1, h2, h3⟩ := drop_cons h
    have hi := ix_in (hx y (List.mem_of_getElem? h2))
    refine ev_succ ?_
    simp only [spec_l3Pick.l0]
    simp only [if_pos (show (j : Int) < (xs.length : Int) by omega), if_pos (show (0 : Int) ≤ (j : Int) by omega), rd_drop h, wrap_succ (show j < 9223372036854775807 by omega)]
    refine Ev.bind (at_ev ns y hn) ?_
    simp only [if_pos hi.1, if_pos (show ix ns y < (t.length : Int) by omega), if_pos (show out.length < 17592186044416 by omega)]
    have := pick_l0 ns t hn ht xs hb hx ys (j + 1) (out ++ [rd t (ix ns y)]) h3 (by simp [ho])
    simpa [pk] using this
theorem pick_ev (ns t xs : List Int) (hn : ns.length < 9223372036854775807) (ht : t.length = ns.length) (hb : xs.length ≤ 1048576) (hx : ∀ x ∈ xs, x ∈ ns) : Ev (fun k => spec_l3Pick.f k ns t xs) (pk ns t xs) := by
  have := pick_l0 ns t hn ht xs hb hx xs 0 [] rfl rfl
  simpa [spec_l3Pick.f] using this
theorem under_l0 (ns t : List Int) (hn : ns.length < 9223372036854775807) (ht : t.length = ns.length) (xs : List Int) (hb : xs.length ≤ 1048576) (hx : ∀ x ∈ xs, x ∈ ns) : ∀ (ys : List Int) (j : Nat) (out : List Int), xs.drop j = ys → out.length = j →
    Ev (fun k => impl_under.l0 k ns t out xs (xs.length : Int) (j : Int)) (out ++ pk ns t ys)
  | [], j, out, h, ho => by
    have h1 := drop_nil h
    refine ev_succ ?_
    simp only [impl_under.l0]
    simp only [if_neg (show ¬ ((j : Int) < (xs.length : Int)) by omega)]
    exact ev_now (by simp [pk])
  | y :: ys, j, out, h, ho => by
    obtain ⟨h1, h2, h3⟩ := drop_cons h
    have hi := ix_in (hx y (List.mem_of_getElem? h2))
    refine ev_succ ?_
    simp only [impl_under.l0]
    simp only [if_pos (show (j : Int) < (xs.length : Int) by omega), if_pos (show (0 : Int) ≤ (j : Int) by omega), rd_drop h, wrap_succ (show j < 9223372036854775807 by omega)]
    refine Ev.bind (index_ev ns y hn) ?_
    simp only [if_pos hi.1, if_pos (show ix ns y < (t.length : Int) by omega), if_pos (show out.length < 17592186044416 by omega)]
    have := under_l0 ns t hn ht xs hb hx ys (j + 1) (out ++ [rd t (ix ns y)]) h3 (by simp [ho])
    simpa [pk] using this
theorem under_ev (ns t xs : List Int) (hn : ns.length < 9223372036854775807) (ht : t.length = ns.length) (hb : xs.length ≤ 1048576) (hx : ∀ x ∈ xs, x ∈ ns) : Ev (fun k => impl_under.f k ns t xs) (pk ns t xs) := by
  have := under_l0 ns t hn ht xs hb hx xs 0 [] rfl rfl
  simpa [impl_under.f] using this
theorem tp_len {n : Nat} : ∀ {ts : List (List Int)} {p : Option (List Int)}, tp n p ts = true → ∀ t ∈ ts, t.length = n
  | [], p, h, t, ht => by simp at ht
  | y :: ys, p, h, t, ht => by
    rw [tp_cons] at h
    simp only [Bool.and_eq_true, decide_eq_true_eq] at h
    rcases List.mem_cons.1 ht with rfl | ht
    · exact h.1.1.1
    · exact tp_len h.2 t ht
theorem rs_win {lo hi : Int} : ∀ {l : List Int} {p : Option Int}, rs lo hi p l = true → ∀ x ∈ l, win x lo hi = true
  | [], p, h, x, hx => by simp at hx
  | y :: ys, p, h, x, hx => by
    rw [rs_cons] at h
    simp only [Bool.and_eq_true] at h
    rcases List.mem_cons.1 hx with rfl | hx
    · exact h.1.1
    · exact rs_win h.2 x hx
end Go.Proofs.Ytcengijoicmldaa.Ax

/- What the laws' own helpers tell: sizes, copies, a comparison of a thing with itself, marks. Written by cv.py. Conditions: lengths that Go can hold. -/
namespace Go.Proofs.Ytcengijoicmldaa.Ax
open Go.RowKit Go.Proofs.Ytcengijoicmldaa.Pr Go.Proofs.Ytcengijoicmldaa.Pl Go.Proofs.Ytcengijoicmldaa.Ops Go.Proofs.YtcengijoicmldaaW.PrintWords Go.Proofs.YtcengijoicmldaaW.PrintLast Go.Proofs.YtcengijoicmldaaW.PrintMore
set_option linter.unusedVariables false
set_option linter.unusedSimpArgs false
theorem rd_L1_drop {xs ys : List (List Int)} {j : Nat} {y : (List Int)} (h : xs.drop j = y :: ys) : rd_L1 xs (j : Int) = y := by
  have := (drop_cons h).2.1
  simp [rd_L1, List.getD_eq_getElem?_getD, this]
theorem rd_T27_drop {xs ys : List S27} {j : Nat} {y : S27} (h : xs.drop j = y :: ys) : rd_T27 xs (j : Int) = y := by
  have := (drop_cons h).2.1
  simp [rd_T27, List.getD_eq_getElem?_getD, this]
def BdInt (n : Int) : Prop := True
def BdIntS (l : List Int) : Prop := l.length ≤ 1048576 ∧ ∀ e ∈ l, BdInt e
def BdIntSS (l : List (List Int)) : Prop := l.length ≤ 1048576 ∧ ∀ e ∈ l, BdIntS e
def OkInt (n : Int) : Prop := True
def OkIntS (l : List Int) : Prop := l.length < 9223372036854775807 ∧ ∀ e ∈ l, OkInt e
def OkIntSS (l : List (List Int)) : Prop := l.length < 9223372036854775807 ∧ ∀ e ∈ l, OkIntS e
theorem ok_IntS {l : List Int} (h : BdIntS l) : OkIntS l := ⟨by have := h.1; omega, fun _ _ => trivial⟩
theorem ok_IntSS {l : List (List Int)} (h : BdIntSS l) : OkIntSS l := ⟨by have := h.1; omega, fun e he => ok_IntS (h.2 e he)⟩
def cvRelation (x : S37) : S27 := ⟨x.f0, x.f1⟩
def BdRelation (x : S37) : Prop := BdIntS x.f0 ∧ BdIntSS x.f1
def OkRelation (x : S27) : Prop := OkIntS x.f0 ∧ OkIntSS x.f1
def OkRelationS (l : List S27) : Prop := l.length < 9223372036854775807 ∧ ∀ e ∈ l, OkRelation e
theorem ok_Relation {x : S37} (h : BdRelation x) : OkRelation (cvRelation x) := ⟨ok_IntS h.1, ok_IntSS h.2⟩
theorem szIntS_ev (l : (List Int)) (n : Int) (hF : FLii64 l) (h0 : 0 ≤ n) (h1 : n ≤ 1048576) : ∃ r, Ev (fun k => laws_szIntS.f l n) r ∧ r ≤ 1048576 ∧ (0 ≤ r → BdIntS l) := by
  have h2 := hF.1
  simp only [laws_szIntS.f]
  rw [wrap_in (by omega) (by omega)]
  by_cases h : n - (l.length : Int) < 0
  · exact ⟨-1, by simp only [if_pos h]; exact ev_now rfl, by omega, fun h => by omega⟩
  · exact ⟨n - l.length, by simp only [if_neg h]; exact ev_now rfl, by omega, fun _ => ⟨by omega, fun _ _ => trivial⟩⟩
theorem szIntSS_l0 (xs : (List (List Int))) (hb : xs.length < 9223372036854775807) : ∀ (ys : (List (List Int))) (j : Nat) (n : Int), xs.drop j = ys → (∀ e ∈ ys, FLii64 e) → 0 ≤ n → n ≤ 1048576 → ∃ r, Ev (fun k => laws_szIntSS.l0 k xs n (j : Int)) r ∧ r ≤ 1048576 ∧ (0 ≤ r → ∀ e ∈ ys, BdIntS e)
  | [], j, n, h, hF, h0, h1 => by
    have h2 := drop_nil h
    refine ⟨n, ev_succ ?_, h1, fun _ e he => absurd he (by simp)⟩
    simp only [laws_szIntSS.l0]
    simp only [if_neg (show ¬ ((j : Int) < (xs.length : Int)) by omega)]
    exact ev_now rfl
  | y :: ys, j, n, h, hF, h0, h1 => by
    obtain ⟨h2, h3, h4⟩ := drop_cons h
    obtain ⟨r1, e1, l1, b1⟩ := szIntS_ev y n (hF y (by simp)) h0 h1
    by_cases hr : r1 < 0
    · refine ⟨-1, ev_succ ?_, by omega, fun h => by omega⟩
      simp only [laws_szIntSS.l0]
      simp only [if_pos (show (j : Int) < (xs.length : Int) by omega), if_pos (show (0 : Int) ≤ (j : Int) by omega), rd_L1_drop h]
      refine Ev.bind e1 ?_
      simp only [if_pos hr]
      exact ev_now rfl
    · obtain ⟨r2, e2, l2, b2⟩ := szIntSS_l0 xs hb ys (j + 1) r1 h4 (fun e he => hF e (by simp [he])) (by omega) l1
      refine ⟨r2, ev_succ ?_, l2, fun h e he => ?_⟩
      · simp only [laws_szIntSS.l0]
        simp only [if_pos (show (j : Int) < (xs.length : Int) by omega), if_pos (show (0 : Int) ≤ (j : Int) by omega), rd_L1_drop h]
        refine Ev.bind e1 ?_
        simp only [if_neg hr, wrap_succ (show j < 9223372036854775807 by omega)]
        exact e2
      · rcases List.mem_cons.1 he with rfl | he
        · exact b1 (by omega)
        · exact b2 h e he
theorem szIntSS_ev (l : (List (List Int))) (n : Int) (hF : FLLii64 l) (h0 : 0 ≤ n) (h1 : n ≤ 1048576) : ∃ r, Ev (fun k => laws_szIntSS.f k l n) r ∧ r ≤ 1048576 ∧ (0 ≤ r → BdIntSS l) := by
  have h2 := hF.1
  simp only [laws_szIntSS.f]
  rw [wrap_in (by omega) (by omega)]
  by_cases h : n - (l.length : Int) < 0
  · exact ⟨-1, by simp only [if_pos h]; exact ev_now rfl, by omega, fun h => by omega⟩
  · obtain ⟨r, e, l1, b⟩ := szIntSS_l0 l (by omega) l 0 (n - l.length) rfl hF.2 (by omega) (by omega)
    exact ⟨r, by simp only [if_neg h]; exact e, l1, fun h => ⟨by omega, b h⟩⟩
theorem toIntS_l0 (xs : (List Int)) (hb : xs.length < 9223372036854775807) : ∀ (ys : (List Int)) (j : Nat) (out : (List Int)), xs.drop j = ys → (∀ e ∈ ys, BdInt e) → j ≤ xs.length → out.length = xs.length → out.take j = xs.take j →
    Ev (fun k => laws_toIntS.l0 k xs out (j : Int)) xs
  | [], j, out, h, hB, hj, ho, hp => by
    have h1 := drop_nil h
    refine ev_succ ?_
    simp only [laws_toIntS.l0]
    simp only [if_neg (show ¬ ((j : Int) < (xs.length : Int)) by omega)]
    refine ev_now ?_
    have e1 : out.take j = out := List.take_of_length_le (by omega)
    have e2 : xs.take j = xs := List.take_of_length_le (by omega)
    rw [← e1, hp, e2]
  | y :: ys, j, out, h, hB, hj, ho, hp => by
    obtain ⟨h1, h2, h3⟩ := drop_cons h
    have hs := set_end (xs := xs) (y := y) h (by rw [ho]) hp
    refine ev_succ ?_
    simp only [laws_toIntS.l0]
    simp only [if_pos (show (j : Int) < (xs.length : Int) by omega), if_pos (show (0 : Int) ≤ (j : Int) by omega), rd_drop h]
    simp only [if_pos (show (j : Int) < (out.length : Int) by omega), wrap_succ (show j < 9223372036854775807 by omega), Int.toNat_natCast]
    exact toIntS_l0 xs hb ys (j + 1) (out.set j y) h3 (fun e he => hB e (by simp [he])) (by omega) (by rw [List.length_set]; exact ho) hs.2
theorem toIntS_ev (xs : (List Int)) (hB : BdIntS xs) : Ev (fun k => laws_toIntS.f k xs) (xs) := by
  have h1 := hB.1
  simp only [laws_toIntS.f]
  simp only [if_pos (show (0 : Int) ≤ (xs.length : Int) by omega), Int.toNat_natCast, if_pos (show xs.length ≤ 35184372088832 by omega)]
  exact toIntS_l0 xs (by omega) xs 0 _ rfl hB.2 (by omega) (by simp) (by simp)
theorem toIntSS_l0 (xs : (List (List Int))) (hb : xs.length < 9223372036854775807) : ∀ (ys : (List (List Int))) (j : Nat) (out : (List (List Int))), xs.drop j = ys → (∀ e ∈ ys, BdIntS e) → j ≤ xs.length → out.length = xs.length → out.take j = xs.take j →
    Ev (fun k => laws_toIntSS.l0 k xs out (j : Int)) xs
  | [], j, out, h, hB, hj, ho, hp => by
    have h1 := drop_nil h
    refine ev_succ ?_
    simp only [laws_toIntSS.l0]
    simp only [if_neg (show ¬ ((j : Int) < (xs.length : Int)) by omega)]
    refine ev_now ?_
    have e1 : out.take j = out := List.take_of_length_le (by omega)
    have e2 : xs.take j = xs := List.take_of_length_le (by omega)
    rw [← e1, hp, e2]
  | y :: ys, j, out, h, hB, hj, ho, hp => by
    obtain ⟨h1, h2, h3⟩ := drop_cons h
    have hs := set_end (xs := xs) (y := y) h (by rw [ho]) hp
    refine ev_succ ?_
    simp only [laws_toIntSS.l0]
    simp only [if_pos (show (j : Int) < (xs.length : Int) by omega), if_pos (show (0 : Int) ≤ (j : Int) by omega), rd_L1_drop h]
    refine Ev.bind (toIntS_ev y (hB y (by simp))) ?_
    simp only [if_pos (show (j : Int) < (out.length : Int) by omega), wrap_succ (show j < 9223372036854775807 by omega), Int.toNat_natCast]
    exact toIntSS_l0 xs hb ys (j + 1) (out.set j y) h3 (fun e he => hB e (by simp [he])) (by omega) (by rw [List.length_set]; exact ho) hs.2
theorem toIntSS_ev (xs : (List (List Int))) (hB : BdIntSS xs) : Ev (fun k => laws_toIntSS.f k xs) (xs) := by
  have h1 := hB.1
  simp only [laws_toIntSS.f]
  simp only [if_pos (show (0 : Int) ≤ (xs.length : Int) by omega), Int.toNat_natCast, if_pos (show xs.length ≤ 11728124029610 by omega)]
  exact toIntSS_l0 xs (by omega) xs 0 _ rfl hB.2 (by omega) (by simp) (by simp)
theorem eqIntS_l0 (xs : (List Int)) (hb : xs.length < 9223372036854775807) : ∀ (ys : (List Int)) (j : Nat), xs.drop j = ys → (∀ e ∈ ys, OkInt e) → Ev (fun k => laws_eqIntS.l0 k xs xs (j : Int)) true
  | [], j, h, hO => by
    have h1 := drop_nil h
    refine ev_succ ?_
    simp only [laws_eqIntS.l0]
    simp only [if_neg (show ¬ ((j : Int) < (xs.length : Int)) by omega)]
    exact ev_now rfl
  | y :: ys, j, h, hO => by
    obtain ⟨h1, h2, h3⟩ := drop_cons h
    refine ev_succ ?_
    simp only [laws_eqIntS.l0]
    simp only [if_pos (show (j : Int) < (xs.length : Int) by omega), if_pos (show (0 : Int) ≤ (j : Int) by omega), rd_drop h, wrap_succ (show j < 9223372036854775807 by omega)]
    simp only [if_true]
    exact eqIntS_l0 xs hb ys (j + 1) h3 (fun e he => hO e (by simp [he]))
theorem eqIntS_ev (xs : (List Int)) (hO : OkIntS xs) : Ev (fun k => laws_eqIntS.f k xs xs) true := by
  have h1 := hO.1
  simp only [laws_eqIntS.f]
  simp only [if_true]
  exact eqIntS_l0 xs h1 xs 0 rfl hO.2
theorem eqIntSS_l0 (xs : (List (List Int))) (hb : xs.length < 9223372036854775807) : ∀ (ys : (List (List Int))) (j : Nat), xs.drop j = ys → (∀ e ∈ ys, OkIntS e) → Ev (fun k => laws_eqIntSS.l0 k xs xs (j : Int)) true
  | [], j, h, hO => by
    have h1 := drop_nil h
    refine ev_succ ?_
    simp only [laws_eqIntSS.l0]
    simp only [if_neg (show ¬ ((j : Int) < (xs.length : Int)) by omega)]
    exact ev_now rfl
  | y :: ys, j, h, hO => by
    obtain ⟨h1, h2, h3⟩ := drop_cons h
    refine ev_succ ?_
    simp only [laws_eqIntSS.l0]
    simp only [if_pos (show (j : Int) < (xs.length : Int) by omega), if_pos (show (0 : Int) ≤ (j : Int) by omega), rd_L1_drop h, wrap_succ (show j < 9223372036854775807 by omega)]
    refine Ev.bind (eqIntS_ev y (hO y (by simp))) ?_
    simp only [if_true]
    exact eqIntSS_l0 xs hb ys (j + 1) h3 (fun e he => hO e (by simp [he]))
theorem eqIntSS_ev (xs : (List (List Int))) (hO : OkIntSS xs) : Ev (fun k => laws_eqIntSS.f k xs xs) true := by
  have h1 := hO.1
  simp only [laws_eqIntSS.f]
  simp only [if_true]
  exact eqIntSS_l0 xs h1 xs 0 rfl hO.2
theorem szRelation_ev (x : S37) (n : Int) (hF : F37 x) (h0 : 0 ≤ n) (h1 : n ≤ 1048576) : ∃ r, Ev (fun k => laws_szRelation.f k x.f0 x.f1 n) r ∧ r ≤ 1048576 ∧ (0 ≤ r → BdRelation x) := by
  simp only [laws_szRelation.f]
  obtain ⟨r0, e0, l0, b0⟩ := szIntS_ev x.f0 n hF.1 h0 h1
  by_cases c0 : r0 < 0
  · refine ⟨-1, ?_, by omega, fun h => by omega⟩
    refine Ev.bind e0 ?_
    simp only [if_pos c0]
    exact ev_now rfl
  obtain ⟨r1, e1, l1, b1⟩ := szIntSS_ev x.f1 r0 hF.2 (by omega) l0
  by_cases c1 : r1 < 0
  · refine ⟨-1, ?_, by omega, fun h => by omega⟩
    refine Ev.bind e0 ?_
    simp only [if_neg c0]
    refine Ev.bind e1 ?_
    simp only [if_pos c1]
    exact ev_now rfl
  refine ⟨r1, ?_, l1, fun h => ⟨b0 (by omega), b1 (by omega)⟩⟩
  refine Ev.bind e0 ?_
  simp only [if_neg c0]
  refine Ev.bind e1 ?_
  simp only [if_neg c1]
  exact ev_now rfl
theorem toRelation_ev (x : S37) (hB : BdRelation x) : Ev (fun k => laws_toRelation.f k x.f0 x.f1) ((cvRelation x).f0, (cvRelation x).f1) := by
  simp only [laws_toRelation.f]
  refine Ev.bind (toIntS_ev x.f0 hB.1) ?_
  refine Ev.bind (toIntSS_ev x.f1 hB.2) ?_
  exact ev_now rfl
theorem eqRelation_ev (x : S27) (hO : OkRelation x) : Ev (fun k => laws_eqRelation.f k x.f0 x.f1 x.f0 x.f1) true := by
  simp only [laws_eqRelation.f, if_true, bne_self_eq_false, Bool.false_eq_true, if_false]
  refine Ev.bind (eqIntS_ev x.f0 hO.1) ?_
  simp only [if_true, bne_self_eq_false, Bool.false_eq_true, if_false]
  refine Ev.bind (eqIntSS_ev x.f1 hO.2) ?_
  simp only [if_true, bne_self_eq_false, Bool.false_eq_true, if_false]
  exact ev_now rfl
theorem eqRelationS_l0 (xs : (List S27)) (hb : xs.length < 9223372036854775807) : ∀ (ys : (List S27)) (j : Nat), xs.drop j = ys → (∀ e ∈ ys, OkRelation e) → Ev (fun k => laws_eqRelationS.l0 k xs xs (j : Int)) true
  | [], j, h, hO => by
    have h1 := drop_nil h
    refine ev_succ ?_
    simp only [laws_eqRelationS.l0]
    simp only [if_neg (show ¬ ((j : Int) < (xs.length : Int)) by omega)]
    exact ev_now rfl
  | y :: ys, j, h, hO => by
    obtain ⟨h1, h2, h3⟩ := drop_cons h
    refine ev_succ ?_
    simp only [laws_eqRelationS.l0]
    simp only [if_pos (show (j : Int) < (xs.length : Int) by omega), if_pos (show (0 : Int) ≤ (j : Int) by omega), rd_T27_drop h, wrap_succ (show j < 9223372036854775807 by omega)]
    refine Ev.bind (eqRelation_ev y (hO y (by simp))) ?_
    simp only [if_true]
    exact eqRelationS_l0 xs hb ys (j + 1) h3 (fun e he => hO e (by simp [he]))
theorem eqRelationS_ev (xs : (List S27)) (hO : OkRelationS xs) : Ev (fun k => laws_eqRelationS.f k xs xs) true := by
  have h1 := hO.1
  simp only [laws_eqRelationS.f]
  simp only [if_true]
  exact eqRelationS_l0 xs h1 xs 0 rfl hO.2
end Go.Proofs.Ytcengijoicmldaa.Ax
