/- Several small texts together: A3, A3p0, Am, Cv, MkA, MkB, MkBSS, MkI, MkR, MkBRelation, MkHRelation, MkRS, MkBRelationS. No condition but those they name. -/
import Derived.Test.YtcengijoicmldaaPr0
import Derived.Test.YtcengijoicmldaaPr1
import Derived.Test.YtcengijoicmldaaPr2
import Derived.Test.YtcengijoicmldaaMx7
import Derived.Test.YtcengijoicmldaaMx5
import Derived.Test.YtcengijoicmldaaMx3
import Derived.Test.YtcengijoicmldaaPr3
import Derived.Test.YtcengijoicmldaaPr8
import Derived.Test.YtcengijoicmldaaPr4
import Derived.Test.YtcengijoicmldaaIv
/- What the functions of chapter 3 tell: rising numbers, equal and lesser lists, good relations. Conditions: lengths that Go can hold. -/
namespace Go.Proofs.Ytcengijoicmldaa.Ax
open Go.RowKit Go.Proofs.Ytcengijoicmldaa.Pr Go.Proofs.Ytcengijoicmldaa.Pl Go.Proofs.YtcengijoicmldaaW.PrintWords Go.Proofs.YtcengijoicmldaaW.PrintLast Go.Proofs.YtcengijoicmldaaW.PrintMore
set_option linter.unusedVariables false
set_option linter.unusedSimpArgs false
def LnS (l : List Int) : Prop := l.length < 9223372036854775807 ∧ ∀ e ∈ l, True
def LnSS (l : List (List Int)) : Prop := l.length < 9223372036854775807 ∧ ∀ e ∈ l, LnS e
theorem LnS_of {l : List Int} (h : l.length < 9223372036854775807) : LnS l := ⟨h, fun _ _ => trivial⟩
theorem rdL1_drop {xs ys : List (List Int)} {j : Nat} {y : (List Int)} (h : xs.drop j = y :: ys) : rd_L1 xs (j : Int) = y := by
 have := (drop_cons h).2.1
 simp [rd_L1, List.getD_eq_getElem?_getD, this]
def lt : List Int → List Int → Bool
 | a :: us, b :: vs => if a = b then lt us vs else decide (a < b)
 | _, _ => false
theorem l3Less_l0 (xs zs : List Int) (hl : xs.length = zs.length) (hb : xs.length < 9223372036854775807) : ∀ (ys us : List Int) (j : Nat), xs.drop j = ys → zs.drop j = us →
  Ev (fun k => spec_l3Less.l0 k xs zs (xs.length : Int) (j : Int)) (lt ys us)
 | [], us, j, h, hu => by
  have h1 := drop_nil h
  refine ev_succ ?_
  simp only [spec_l3Less.l0]
  simp only [if_neg (show ¬ ((j : Int) < (xs.length : Int)) by omega)]
  exact ev_now (by cases us <;> rfl)
 | y :: ys, [], j, h, hu => by
  have h1 := drop_nil hu
  have := (drop_cons h).1
  omega
 | y :: ys, u :: us, j, h, hu => by
  obtain ⟨h1, h2, h3⟩ := drop_cons h
  obtain ⟨g1, g2, g3⟩ := drop_cons hu
  refine ev_succ ?_
  simp only [spec_l3Less.l0]
  simp only [if_pos (show (j : Int) < (xs.length : Int) by omega), if_pos (show (j : Int) < (zs.length : Int) by omega), if_pos (show (0 : Int) ≤ (j : Int) by omega), rd_drop h, rd_drop hu, wrap_succ (show j < 9223372036854775807 by omega)]
  by_cases e : y = u
  ·simp only [if_pos e, lt]
   exact l3Less_l0 xs zs hl hb ys us (j + 1) h3 g3
  ·simp only [if_neg e, lt]
   exact ev_now rfl
theorem l3Less_ev (xs zs : List Int) (hl : xs.length = zs.length) (hb : xs.length < 9223372036854775807) : Ev (fun k => spec_l3Less.f k xs zs) (lt xs zs) := l3Less_l0 xs zs hl hb xs zs 0 rfl rfl
theorem cmpInt_eq (a b : Int) : cmp_Compare_int.f a b = some (if a < b then -1 else if a > b then 1 else 0) := by
 simp only [cmp_Compare_int.f, cmp_isNaN_int.f, Option.bind_some, bne_self_eq_false, Bool.false_eq_true, if_false]
 by_cases h1 : a < b
 ·simp [h1]
 ·by_cases h2 : a > b <;> simp [h1, h2]
theorem compare_l0 (xs zs : List Int) (hl : xs.length = zs.length) (hb : xs.length < 9223372036854775807) : ∀ (ys us : List Int) (j : Nat), xs.drop j = ys → zs.drop j = us →
  ∃ r : Int, Ev (fun k => slices_Compare_int_int.l0 k xs zs xs (xs.length : Int) (j : Int)) r ∧ decide (r ≥ 0) = !lt ys us
 | [], us, j, h, hu => by
  have h1 := drop_nil h
  refine ⟨0, ev_succ ?_, by cases us <;> rfl⟩
  simp only [slices_Compare_int_int.l0]
  simp only [if_neg (show ¬ ((j : Int) < (xs.length : Int)) by omega), if_neg (show ¬ ((xs.length : Int) < (zs.length : Int)) by omega)]
  exact ev_now rfl
 | y :: ys, [], j, h, hu => by
  have h1 := drop_nil hu
  have := (drop_cons h).1
  omega
 | y :: ys, u :: us, j, h, hu => by
  obtain ⟨h1, h2, h3⟩ := drop_cons h
  obtain ⟨g1, g2, g3⟩ := drop_cons hu
  by_cases e : y = u
  ·obtain ⟨r, e1, e2⟩ := compare_l0 xs zs hl hb ys us (j + 1) h3 g3
   refine ⟨r, ev_succ ?_, by rw [e2, lt, if_pos e]⟩
   simp only [slices_Compare_int_int.l0]
   simp only [if_pos (show (j : Int) < (xs.length : Int) by omega), if_neg (show ¬ ((j : Int) ≥ (zs.length : Int)) by omega), if_pos (show (j : Int) < (zs.length : Int) by omega), if_pos (show (0 : Int) ≤ (j : Int) by omega), rd_drop h, rd_drop hu, cmpInt_eq, Option.bind_some, wrap_succ (show j < 9223372036854775807 by omega), if_neg (show ¬ y < u by omega), if_neg (show ¬ y > u by omega), if_true]
   exact e1
  ·refine ⟨if y < u then -1 else 1, ev_succ ?_, ?_⟩
   ·simp only [slices_Compare_int_int.l0]
    simp only [if_pos (show (j : Int) < (xs.length : Int) by omega), if_neg (show ¬ ((j : Int) ≥ (zs.length : Int)) by omega), if_pos (show (j : Int) < (zs.length : Int) by omega), if_pos (show (0 : Int) ≤ (j : Int) by omega), rd_drop h, rd_drop hu, cmpInt_eq, Option.bind_some]
    by_cases h5 : y < u
    ·simp only [if_pos h5]
     exact ev_now rfl
    ·simp only [if_neg h5, if_pos (show y > u by omega)]
     exact ev_now rfl
   ·rw [lt, if_neg e]
    by_cases h5 : y < u <;> simp [h5]
theorem compare_ev (xs zs : List Int) (hl : xs.length = zs.length) (hb : xs.length < 9223372036854775807) : ∃ r : Int, Ev (fun k => slices_Compare_int_int.f k xs zs) r ∧ decide (r ≥ 0) = !lt xs zs := compare_l0 xs zs hl hb xs zs 0 rfl rfl
theorem l1All_l0 (lo hi : Int) (xs : List Int) (hb : xs.length < 9223372036854775807) : ∀ (ys : List Int) (j : Nat), xs.drop j = ys →
  Ev (fun k => spec_l1All.l0 k lo hi xs (xs.length : Int) (j : Int)) (ys.all fun n => win n lo hi)
 | [], j, h => by
  have h1 := drop_nil h
  refine ev_succ ?_
  simp only [spec_l1All.l0]
  simp only [if_neg (show ¬ ((j : Int) < (xs.length : Int)) by omega)]
  exact ev_now rfl
 | y :: ys, j, h => by
  obtain ⟨h1, h2, h3⟩ := drop_cons h
  refine ev_succ ?_
  simp only [spec_l1All.l0]
  simp only [if_pos (show (j : Int) < (xs.length : Int) by omega), if_pos (show (0 : Int) ≤ (j : Int) by omega), rd_drop h, l1In_eq, Option.bind_some, wrap_succ (show j < 9223372036854775807 by omega)]
  cases e : win y lo hi
  ·simp only [Bool.false_eq_true, if_false]
   exact ev_now (by simp [e])
  ·simp only [if_true]
   have := l1All_l0 lo hi xs hb ys (j + 1) h3
   simpa [e] using this
theorem l1All_ev (xs : List Int) (lo hi : Int) (hb : xs.length < 9223372036854775807) : Ev (fun k => spec_l1All.f k xs lo hi) (xs.all fun n => win n lo hi) := l1All_l0 lo hi xs hb xs 0 rfl
theorem idxR_l0 (xs : List Int) (hb : xs.length < 9223372036854775807) : ∀ (ys : List Int) (j : Nat), xs.drop j = ys →
  ∃ r : Int, Ev (fun k => slices_IndexFunc_int_int.l0 k xs (xs.length : Int) (j : Int)) r ∧ decide (r ≥ 0) = !ys.all fun n => win n (-1000) 1000
 | [], j, h => by
  have h1 := drop_nil h
  refine ⟨-1, ev_succ ?_, by simp⟩
  simp only [slices_IndexFunc_int_int.l0]
  simp only [if_neg (show ¬ ((j : Int) < (xs.length : Int)) by omega)]
  exact ev_now rfl
 | y :: ys, j, h => by
  obtain ⟨h1, h2, h3⟩ := drop_cons h
  cases e : win y (-1000) 1000
  ·refine ⟨(j : Int), ev_succ ?_, by simp [e]⟩
   simp only [slices_IndexFunc_int_int.l0]
   simp only [if_pos (show (j : Int) < (xs.length : Int) by omega), if_pos (show (0 : Int) ≤ (j : Int) by omega), rd_drop h, impl_GoodRelation_1.f, impl_isSmall.f, within_eq, e, Option.bind_some, Bool.not_false, if_true]
   exact ev_now rfl
  ·obtain ⟨r, h4, h5⟩ := idxR_l0 xs hb ys (j + 1) h3
   refine ⟨r, ev_succ ?_, by simp [e, h5]⟩
   simp only [slices_IndexFunc_int_int.l0]
   simp only [if_pos (show (j : Int) < (xs.length : Int) by omega), if_pos (show (0 : Int) ≤ (j : Int) by omega), rd_drop h, impl_GoodRelation_1.f, impl_isSmall.f, within_eq, e, Option.bind_some, Bool.not_true, Bool.false_eq_true, if_false, wrap_succ (show j < 9223372036854775807 by omega)]
   exact h4
theorem someWide_ev (xs : List Int) (hb : xs.length < 9223372036854775807) : Ev (fun k => slices_ContainsFunc_int_int.f k xs) (!xs.all fun n => win n (-1000) 1000) := by
 simp only [slices_ContainsFunc_int_int.f, slices_IndexFunc_int_int.f]
 obtain ⟨r, h4, h5⟩ := idxR_l0 xs hb xs 0 rfl
 exact Ev.bind h4 (ev_now h5)
def tp (n : Nat) : Option (List Int) → List (List Int) → Bool
 | _, [] => true
 | p, t :: ts => (decide (t.length = n) && t.all fun m => win m (-1000) 1000) && (match p with | none => true | some q => lt q t) && tp n (some t) ts
theorem tp_nil (n : Nat) (p : Option (List Int)) : tp n p [] = true := by cases p <;> rfl
theorem tp_cons (n : Nat) (p : Option (List Int)) (t : List Int) (ts : List (List Int)) : tp n p (t :: ts) = ((decide (t.length = n) && t.all fun m => win m (-1000) 1000) && (match p with | none => true | some q => lt q t) && tp n (some t) ts) := by cases p <;> rfl
def gr (names : List Int) (ts : List (List Int)) : Bool := decide (names.length ≤ 6) && rs 0 20 none names && decide (ts.length ≤ 60) && tp names.length none ts
theorem sGR_l0 (ns : List Int) (xs : List (List Int)) (hO : LnSS xs) : ∀ (ys : List (List Int)) (j : Nat), xs.drop j = ys → (j ≠ 0 → (rd_L1 xs ((j : Int) - 1)).length = ns.length) →
  Ev (fun k => spec_GoodRelation.l0 k xs (xs.length : Int) (j : Int) ns xs) (tp ns.length (if j = 0 then none else some (rd_L1 xs ((j : Int) - 1))) ys)
 | [], j, h, hp => by
  have h1 := drop_nil h
  refine ev_succ ?_
  simp only [spec_GoodRelation.l0]
  simp only [if_neg (show ¬ ((j : Int) < (xs.length : Int)) by omega)]
  exact ev_now (tp_nil _ _).symm
 | y :: ys, j, h, hp => by
  obtain ⟨h1, h2, h3⟩ := drop_cons h
  have hb := hO.1
  have hy := (hO.2 y (List.mem_of_getElem? h2)).1
  have ep : rd_L1 xs (((j + 1 : Nat) : Int) - 1) = y := by rw [show ((j + 1 : Nat) : Int) - 1 = (j : Int) by omega]; exact rdL1_drop h
  refine ev_succ ?_
  simp only [spec_GoodRelation.l0]
  simp only [if_pos (show (j : Int) < (xs.length : Int) by omega), if_pos (show (0 : Int) ≤ (j : Int) by omega), rdL1_drop h, wrap_succ (show j < 9223372036854775807 by omega)]
  rw [tp_cons]
  by_cases hn : y.length = ns.length
  ·have ih := sGR_l0 ns xs hO ys (j + 1) h3 (fun _ => by rw [ep]; exact hn)
   rw [if_neg (by omega), ep] at ih
   simp only [if_pos (show (y.length : Int) = (ns.length : Int) by omega)]
   refine Ev.bind (l1All_ev y _ _ hy) ?_
   cases e : y.all fun n => win n (-1000) 1000
   ·simp only [Bool.false_eq_true, if_false]
    exact ev_now (by simp)
   ·simp only [if_true]
    by_cases hj : j = 0
    ·subst hj
     simp only [if_neg (show ¬ (((0 : Nat) : Int) > 0) by omega)]
     simpa [hn] using ih
    ·have hq := hp hj
     simp only [if_pos (show (j : Int) > 0 by omega), wrap_in (show -9223372036854775808 ≤ (j : Int) - 1 by omega) (show (j : Int) - 1 < 9223372036854775808 by omega), if_pos (show 0 ≤ (j : Int) - 1 by omega), if_pos (show (j : Int) - 1 < (xs.length : Int) by omega), if_neg hj]
     refine Ev.bind (l3Less_ev _ y (by omega) (by omega)) ?_
     cases e2 : lt (rd_L1 xs ((j : Int) - 1)) y
     ·simp only [Bool.false_eq_true, if_false]
      exact ev_now (by simp)
     ·simp only [if_true]
      simpa [hn] using ih
  ·simp only [if_neg (show ¬ (y.length : Int) = (ns.length : Int) by omega)]
   exact ev_now (by simp [hn])
theorem sGR_ev (ns : List Int) (xs : List (List Int)) (hN : LnS ns) (hO : LnSS xs) : Ev (fun k => spec_GoodRelation.f k ns xs) (gr ns xs) := by
 have hn := hN.1
 simp only [spec_GoodRelation.f, gr]
 by_cases h6 : ns.length ≤ 6
 ·simp only [if_neg (show ¬ ((ns.length : Int) > 6) by omega)]
  refine Ev.bind (l1Rising_ev ns 0 20 hn) ?_
  cases e : rs 0 20 none ns
  ·simp only [Bool.false_eq_true, if_false]
   refine ev_succ ?_
   simp only [spec_GoodRelation.j0, if_true]
   exact ev_now (by simp)
  ·simp only [if_true]
   refine ev_succ ?_
   simp only [spec_GoodRelation.j0]
   by_cases h60 : xs.length ≤ 60
   ·simp only [decide_eq_false (show ¬ ((xs.length : Int) > 60) by omega), Bool.false_eq_true, if_false]
    have := sGR_l0 ns xs hO xs 0 rfl (fun h => absurd rfl h)
    simpa [h6, h60] using this
   ·simp only [decide_eq_true (show ((xs.length : Int) > 60) by omega), if_true]
    exact ev_now (by simp [h60])
 ·simp only [if_pos (show ((ns.length : Int) > 6) by omega)]
  refine ev_succ ?_
  simp only [spec_GoodRelation.j0, if_true]
  exact ev_now (by simp [h6])
theorem iGR_l0 (ns : List Int) (xs : List (List Int)) (hO : LnSS xs) : ∀ (ys : List (List Int)) (j : Nat), xs.drop j = ys → (j ≠ 0 → (rd_L1 xs ((j : Int) - 1)).length = ns.length) →
  Ev (fun k => impl_GoodRelation.l0 k xs (xs.length : Int) (j : Int) ns xs) (tp ns.length (if j = 0 then none else some (rd_L1 xs ((j : Int) - 1))) ys)
 | [], j, h, hp => by
  have h1 := drop_nil h
  refine ev_succ ?_
  simp only [impl_GoodRelation.l0]
  simp only [if_neg (show ¬ ((j : Int) < (xs.length : Int)) by omega)]
  exact ev_now (tp_nil _ _).symm
 | y :: ys, j, h, hp => by
  obtain ⟨h1, h2, h3⟩ := drop_cons h
  have hb := hO.1
  have hy := (hO.2 y (List.mem_of_getElem? h2)).1
  have ep : rd_L1 xs (((j + 1 : Nat) : Int) - 1) = y := by rw [show ((j + 1 : Nat) : Int) - 1 = (j : Int) by omega]; exact rdL1_drop h
  refine ev_succ ?_
  simp only [impl_GoodRelation.l0]
  simp only [if_pos (show (j : Int) < (xs.length : Int) by omega), if_pos (show (0 : Int) ≤ (j : Int) by omega), rdL1_drop h]
  rw [tp_cons]
  by_cases hn : y.length = ns.length
  ·have ih := iGR_l0 ns xs hO ys (j + 1) h3 (fun _ => by rw [ep]; exact hn)
   rw [if_neg (by omega), ep] at ih
   simp only [if_pos (show (y.length : Int) = (ns.length : Int) by omega)]
   refine Ev.bind (someWide_ev y hy) (ev_succ ?_)
   simp only [impl_GoodRelation.j2, wrap_succ (show j < 9223372036854775807 by omega)]
   cases e : y.all fun n => win n (-1000) 1000
   ·simp only [Bool.not_false, if_true]
    exact ev_now (by simp)
   ·simp only [Bool.not_true, Bool.false_eq_true, if_false]
    by_cases hj : j = 0
    ·subst hj
     simp only [if_neg (show ¬ (((0 : Nat) : Int) > 0) by omega)]
     simpa [hn] using ih
    ·have hq := hp hj
     simp only [if_pos (show (j : Int) > 0 by omega), wrap_in (show -9223372036854775808 ≤ (j : Int) - 1 by omega) (show (j : Int) - 1 < 9223372036854775808 by omega), if_pos (show 0 ≤ (j : Int) - 1 by omega), if_pos (show (j : Int) - 1 < (xs.length : Int) by omega), if_neg hj]
     obtain ⟨r, e1, e2⟩ := compare_ev (rd_L1 xs ((j : Int) - 1)) y (by omega) (by omega)
     refine Ev.bind e1 ?_
     by_cases hr : r ≥ 0
     ·rw [decide_eq_true hr] at e2
      simp only [if_pos hr]
      exact ev_now (by simp at e2; simp [e2])
     ·rw [decide_eq_false hr] at e2
      simp only [if_neg hr]
      have e3 : lt (rd_L1 xs ((j : Int) - 1)) y = true := by simpa using e2.symm
      simpa [hn, e3] using ih
  ·simp only [if_neg (show ¬ (y.length : Int) = (ns.length : Int) by omega)]
   refine ev_succ ?_
   simp only [impl_GoodRelation.j2, if_true]
   exact ev_now (by simp [hn])
theorem iGR_ev (ns : List Int) (xs : List (List Int)) (hN : LnS ns) (hO : LnSS xs) : Ev (fun k => impl_GoodRelation.f k ns xs) (gr ns xs) := by
 have hn := hN.1
 simp only [impl_GoodRelation.f, gr]
 by_cases h6 : ns.length ≤ 6
 ·simp only [if_neg (show ¬ ((ns.length : Int) > 6) by omega)]
  refine Ev.bind (isRising_ev ns 0 20 hn) ?_
  cases e : rs 0 20 none ns
  ·simp only [Bool.false_eq_true, if_false]
   refine ev_succ ?_
   simp only [impl_GoodRelation.j0, if_true]
   exact ev_now (by simp)
  ·simp only [if_true]
   refine ev_succ ?_
   simp only [impl_GoodRelation.j0]
   by_cases h60 : xs.length ≤ 60
   ·simp only [decide_eq_false (show ¬ ((xs.length : Int) > 60) by omega), Bool.false_eq_true, if_false]
    have := iGR_l0 ns xs hO xs 0 rfl (fun h => absurd rfl h)
    simpa [h6, h60] using this
   ·simp only [decide_eq_true (show ((xs.length : Int) > 60) by omega), if_true]
    exact ev_now (by simp [h60])
 ·simp only [if_pos (show ((ns.length : Int) > 6) by omega)]
  refine ev_succ ?_
  simp only [impl_GoodRelation.j0, if_true]
  exact ev_now (by simp [h6])
end Go.Proofs.Ytcengijoicmldaa.Ax

/- What parts of names and the numbers under them tell. Conditions: lengths that Go can hold. -/
namespace Go.Proofs.Ytcengijoicmldaa.Ax
open Go.RowKit Go.Proofs.Ytcengijoicmldaa.Pr Go.Proofs.Ytcengijoicmldaa.Pl Go.Proofs.YtcengijoicmldaaW.PrintWords Go.Proofs.YtcengijoicmldaaW.PrintLast Go.Proofs.YtcengijoicmldaaW.PrintMore
set_option linter.unusedVariables false
set_option linter.unusedSimpArgs false
def ixf (n : Int) : Nat → List Int → Int
 | _, [] => -1
 | j, x :: xs => if x = n then (j : Int) else ixf n (j + 1) xs
def ix (ns : List Int) (n : Int) : Int := ixf n 0 ns
theorem ixf_in (n : Int) : ∀ (xs : List Int) (j : Nat), n ∈ xs → (j : Int) ≤ ixf n j xs ∧ ixf n j xs < j + xs.length
 | [], j, h => by simp at h
 | x :: xs, j, h => by
  rw [ixf]
  by_cases e : x = n
  ·rw [if_pos e]
   simp
   omega
  ·rw [if_neg e]
   have := ixf_in n xs (j + 1) (by rcases List.mem_cons.1 h with h | h; exact absurd h.symm e; exact h)
   simp
   omega
theorem ixf_out (n : Int) : ∀ (xs : List Int) (j : Nat), n ∉ xs → ixf n j xs = -1
 | [], j, h => by rw [ixf]
 | x :: xs, j, h => by
  rw [ixf, if_neg (by intro e; exact h (by simp [e]))]
  exact ixf_out n xs (j + 1) (by intro e; exact h (by simp [e]))
theorem at_l0 (n : Int) (xs : List Int) (hb : xs.length < 9223372036854775807) : ∀ (ys : List Int) (j : Nat), xs.drop j = ys → Ev (fun k => spec_l3At.l0 k n xs (xs.length : Int) (j : Int)) (ixf n j ys)
 | [], j, h => by
  have h1 := drop_nil h
  refine ev_succ ?_
  simp only [spec_l3At.l0]
  simp only [if_neg (show ¬ ((j : Int) < (xs.length : Int)) by omega)]
  exact ev_now rfl
 | y :: ys, j, h => by
  obtain ⟨h1, h2, h3⟩ := drop_cons h
  refine ev_succ ?_
  simp only [spec_l3At.l0]
  simp only [if_pos (show (j : Int) < (xs.length : Int) by omega), if_pos (show (0 : Int) ≤ (j : Int) by omega), rd_drop h, wrap_succ (show j < 9223372036854775807 by omega)]
  rw [ixf]
  by_cases e : y = n
  ·simp only [if_pos e]
   exact ev_now rfl
  ·simp only [if_neg e]
   exact at_l0 n xs hb ys (j + 1) h3
theorem at_ev (ns : List Int) (n : Int) (hb : ns.length < 9223372036854775807) : Ev (fun k => spec_l3At.f k ns n) (ix ns n) := at_l0 n ns hb ns 0 rfl
theorem index_l0 (n : Int) (xs : List Int) (hb : xs.length < 9223372036854775807) : ∀ (ys : List Int) (j : Nat), xs.drop j = ys → Ev (fun k => slices_Index_int_int.l0 k xs n (xs.length : Int) (j : Int)) (ixf n j ys)
 | [], j, h => by
  have h1 := drop_nil h
  refine ev_succ ?_
  simp only [slices_Index_int_int.l0]
  simp only [if_neg (show ¬ ((j : Int) < (xs.length : Int)) by omega)]
  exact ev_now rfl
 | y :: ys, j, h => by
  obtain ⟨h1, h2, h3⟩ := drop_cons h
  refine ev_succ ?_
  simp only [slices_Index_int_int.l0]
  simp only [if_pos (show (j : Int) < (xs.length : Int) by omega), if_pos (show (0 : Int) ≤ (j : Int) by omega), rd_drop h, wrap_succ (show j < 9223372036854775807 by omega)]
  rw [ixf]
  by_cases e : n = y
  ·simp only [if_pos e, if_pos e.symm]
   exact ev_now rfl
  ·simp only [if_neg e, if_neg (show ¬ y = n from fun h => e h.symm)]
   exact index_l0 n xs hb ys (j + 1) h3
theorem index_ev (ns : List Int) (n : Int) (hb : ns.length < 9223372036854775807) : Ev (fun k => slices_Index_int_int.f k ns n) (ix ns n) := index_l0 n ns hb ns 0 rfl
theorem ix_in {ns : List Int} {n : Int} (h : n ∈ ns) : 0 ≤ ix ns n ∧ ix ns n < ns.length := by
 have := ixf_in n ns 0 h
 unfold ix
 omega
theorem ix_out {ns : List Int} {n : Int} (h : n ∉ ns) : ix ns n = -1 := ixf_out n ns 0 h
def pk (ns t some_ : List Int) : List Int := some_.map fun n => rd t (ix ns n)
theorem pick_l0 (ns t : List Int) (hn : ns.length < 9223372036854775807) (ht : t.length = ns.length) (xs : List Int) (hb : xs.length ≤ 1048576) (hx : ∀ x ∈ xs, x ∈ ns) : ∀ (ys : List Int) (j : Nat) (out : List Int), xs.drop j = ys → out.length = j →
  Ev (fun k => spec_l3Pick.l0 k ns t out xs (xs.length : Int) (j : Int)) (out ++ pk ns t ys)
 | [], j, out, h, ho => by
  have h1 := drop_nil h
  refine ev_succ ?_
  simp only [spec_l3Pick.l0]
  simp only [if_neg (show ¬ ((j : Int) < (xs.length : Int)) by omega)]
  exact ev_now (by simp [pk])
 | y :: ys, j, out, h, ho => by
  obtain ⟨h1, h2, h3⟩ := drop_cons h
  have hi := ix_in (hx y (List.mem_of_getElem? h2))
  refine ev_succ ?_
  simp only [spec_l3Pick.l0]
  simp only [if_pos (show (j : Int) < (xs.length : Int) by omega), if_pos (show (0 : Int) ≤ (j : Int) by omega), rd_drop h, wrap_succ (show j < 9223372036854775807 by omega)]
  refine Ev.bind (at_ev ns y hn) ?_
  simp only [if_pos hi.1, if_pos (show ix ns y < (t.length : Int) by omega), if_pos (show out.length < 17592186044416 by omega)]
  have := pick_l0 ns t hn ht xs hb hx ys (j + 1) (out ++ [rd t (ix ns y)]) h3 (by simp [ho])
  simpa [pk] using this
theorem pick_ev (ns t xs : List Int) (hn : ns.length < 9223372036854775807) (ht : t.length = ns.length) (hb : xs.length ≤ 1048576) (hx : ∀ x ∈ xs, x ∈ ns) : Ev (fun k => spec_l3Pick.f k ns t xs) (pk ns t xs) := by
 have := pick_l0 ns t hn ht xs hb hx xs 0 [] rfl rfl
 simpa [spec_l3Pick.f] using this
theorem under_l0 (ns t : List Int) (hn : ns.length < 9223372036854775807) (ht : t.length = ns.length) (xs : List Int) (hb : xs.length ≤ 1048576) (hx : ∀ x ∈ xs, x ∈ ns) : ∀ (ys : List Int) (j : Nat) (out : List Int), xs.drop j = ys → out.length = j →
  Ev (fun k => impl_under.l0 k ns t out xs (xs.length : Int) (j : Int)) (out ++ pk ns t ys)
 | [], j, out, h, ho => by
  have h1 := drop_nil h
  refine ev_succ ?_
  simp only [impl_under.l0]
  simp only [if_neg (show ¬ ((j : Int) < (xs.length : Int)) by omega)]
  exact ev_now (by simp [pk])
 | y :: ys, j, out, h, ho => by
  obtain ⟨h1, h2, h3⟩ := drop_cons h
  have hi := ix_in (hx y (List.mem_of_getElem? h2))
  refine ev_succ ?_
  simp only [impl_under.l0]
  simp only [if_pos (show (j : Int) < (xs.length : Int) by omega), if_pos (show (0 : Int) ≤ (j : Int) by omega), rd_drop h, wrap_succ (show j < 9223372036854775807 by omega)]
  refine Ev.bind (index_ev ns y hn) ?_
  simp only [if_pos hi.1, if_pos (show ix ns y < (t.length : Int) by omega), if_pos (show out.length < 17592186044416 by omega)]
  have := under_l0 ns t hn ht xs hb hx ys (j + 1) (out ++ [rd t (ix ns y)]) h3 (by simp [ho])
  simpa [pk] using this
theorem under_ev (ns t xs : List Int) (hn : ns.length < 9223372036854775807) (ht : t.length = ns.length) (hb : xs.length ≤ 1048576) (hx : ∀ x ∈ xs, x ∈ ns) : Ev (fun k => impl_under.f k ns t xs) (pk ns t xs) := by
 have := under_l0 ns t hn ht xs hb hx xs 0 [] rfl rfl
 simpa [impl_under.f] using this
theorem tp_len {n : Nat} : ∀ {ts : List (List Int)} {p : Option (List Int)}, tp n p ts = true → ∀ t ∈ ts, t.length = n
 | [], p, h, t, ht => by simp at ht
 | y :: ys, p, h, t, ht => by
  rw [tp_cons] at h
  simp only [Bool.and_eq_true, decide_eq_true_eq] at h
  rcases List.mem_cons.1 ht with rfl | ht
  ·exact h.1.1.1
  ·exact tp_len h.2 t ht
theorem rs_win {lo hi : Int} : ∀ {l : List Int} {p : Option Int}, rs lo hi p l = true → ∀ x ∈ l, win x lo hi = true
 | [], p, h, x, hx => by simp at hx
 | y :: ys, p, h, x, hx => by
  rw [rs_cons] at h
  simp only [Bool.and_eq_true] at h
  rcases List.mem_cons.1 hx with rfl | hx
  ·exact h.1.1
  ·exact rs_win h.2 x hx
end Go.Proofs.Ytcengijoicmldaa.Ax

/- What the marks in a list of numbers tell. Conditions: marks that Go can hold. -/
namespace Go.Proofs.Ytcengijoicmldaa.Ax
open Go.RowKit Go.Proofs.Ytcengijoicmldaa.Pr Go.Proofs.Ytcengijoicmldaa.Pl Go.Proofs.YtcengijoicmldaaW.PrintWords Go.Proofs.YtcengijoicmldaaW.PrintLast Go.Proofs.YtcengijoicmldaaW.PrintMore
set_option linter.unusedVariables false
set_option linter.unusedSimpArgs false
def mkL : Nat → Int → List Int
 | 0, _ => []
 | n + 1, k => k :: mkL n (k + 1)
theorem mkL_length : ∀ (n : Nat) (k : Int), (mkL n k).length = n
 | 0, _ => rfl
 | n + 1, k => by rw [mkL, List.length_cons, mkL_length n]
theorem mkL_snoc : ∀ (n : Nat) (k : Int), mkL (n + 1) k = mkL n k ++ [k + n]
 | 0, k => by simp [mkL]
 | n + 1, k => by
  rw [mkL, mkL_snoc n (k + 1), mkL]
  simp
  omega
theorem markIntS_l0 (n : Nat) (k0 : Int) (h0 : 0 ≤ k0) (hb : k0 + n < 9223372036854775807) : ∀ (d j : Nat) (xs : List Int), xs.length = n → n - j = d → j ≤ n → xs.take j = mkL j k0 →
  Ev (fun k => laws_markIntS.l0 k xs (k0 + j) (j : Int)) (k0 + n, mkL n k0)
 | 0, j, xs, hl, hd, hj, hp => by
  obtain rfl : j = n := by omega
  refine ev_succ ?_
  simp only [laws_markIntS.l0]
  simp only [if_neg (show ¬ ((j : Int) < (xs.length : Int)) by omega)]
  refine ev_now ?_
  rw [← hp, List.take_of_length_le (by omega)]
 | d + 1, j, xs, hl, hd, hj, hp => by
  refine ev_succ ?_
  simp only [laws_markIntS.l0]
  simp only [if_pos (show (j : Int) < (xs.length : Int) by omega), if_pos (show (0 : Int) ≤ (j : Int) by omega), wrap_succ (show j < 9223372036854775807 by omega), wrap_in (show -9223372036854775808 ≤ k0 + j + 1 by omega) (show k0 + j + 1 < 9223372036854775808 by omega), Int.toNat_natCast]
  have := markIntS_l0 n k0 h0 hb d (j + 1) (xs.set j (k0 + j)) (by simpa using hl) (by omega) (by omega) (by
   rw [mkL_snoc, List.take_add_one, List.getElem?_set_self (by omega), List.take_set_of_le (Nat.le_refl _), hp]
   rfl)
  rwa [show k0 + ((j + 1 : Nat) : Int) = k0 + j + 1 by omega] at this
theorem markIntS_ev (xs : List Int) (k0 : Int) (h0 : 0 ≤ k0) (hb : k0 + xs.length < 9223372036854775807) : Ev (fun k => laws_markIntS.f k xs k0) (k0 + xs.length, mkL xs.length k0) := by
 have := markIntS_l0 xs.length k0 h0 hb xs.length 0 xs rfl (by omega) (by omega) rfl
 simpa [laws_markIntS.f] using this
theorem heldIntS_l0 (xs : List Int) (hx : xs.length < 9223372036854775807) (n : Nat) : ∀ (j : Nat) (k0 : Int), 0 ≤ k0 → k0 + n < 9223372036854775807 → xs.drop j = mkL n k0 →
  Ev (fun k => laws_heldIntS.l0 k xs k0 (j : Int)) (k0 + n) := by
 induction n with
 | zero =>
  intro j k0 h0 hb h
  rw [mkL] at h
  have h1 := drop_nil h
  refine ev_succ ?_
  simp only [laws_heldIntS.l0]
  simp only [if_neg (show ¬ ((j : Int) < (xs.length : Int)) by omega)]
  exact ev_now (by simp)
 | succ n ih =>
  intro j k0 h0 hb h
  rw [mkL] at h
  obtain ⟨h1, h2, h3⟩ := drop_cons h
  refine ev_succ ?_
  simp only [laws_heldIntS.l0]
  simp only [if_pos (show (j : Int) < (xs.length : Int) by omega), if_pos (show (0 : Int) ≤ (j : Int) by omega), rd_drop h, if_true, wrap_succ (show j < 9223372036854775807 by omega), wrap_in (show -9223372036854775808 ≤ k0 + 1 by omega) (show k0 + 1 < 9223372036854775808 by omega)]
  have := ih (j + 1) (k0 + 1) (by omega) (by omega) h3
  rwa [show k0 + 1 + (n : Int) = k0 + ((n + 1 : Nat) : Int) by omega] at this
theorem heldIntS_ev (n : Nat) (k0 : Int) (h0 : 0 ≤ k0) (hb : k0 + n < 9223372036854775807) : Ev (fun k => laws_heldIntS.f k (mkL n k0) k0) (k0 + n) := by
 have := heldIntS_l0 (mkL n k0) (by rw [mkL_length]; omega) n 0 k0 h0 hb rfl
 simpa [laws_heldIntS.f] using this
end Go.Proofs.Ytcengijoicmldaa.Ax

/- What the laws' own helpers tell: sizes, copies, a comparison of a thing with itself, marks. Written by cv.py. Conditions: lengths that Go can hold. -/
namespace Go.Proofs.Ytcengijoicmldaa.Ax
open Go.RowKit Go.Proofs.Ytcengijoicmldaa.Pr Go.Proofs.Ytcengijoicmldaa.Pl Go.Proofs.Ytcengijoicmldaa.Ops Go.Proofs.YtcengijoicmldaaW.PrintWords Go.Proofs.YtcengijoicmldaaW.PrintLast Go.Proofs.YtcengijoicmldaaW.PrintMore
set_option linter.unusedVariables false
set_option linter.unusedSimpArgs false
theorem rd_L1_drop {xs ys : List (List Int)} {j : Nat} {y : (List Int)} (h : xs.drop j = y :: ys) : rd_L1 xs (j : Int) = y := by
 have := (drop_cons h).2.1
 simp [rd_L1, List.getD_eq_getElem?_getD, this]
theorem rd_T37_drop {xs ys : List S37} {j : Nat} {y : S37} (h : xs.drop j = y :: ys) : rd_T37 xs (j : Int) = y := by
 have := (drop_cons h).2.1
 simp [rd_T37, List.getD_eq_getElem?_getD, this]
theorem rd_T27_drop {xs ys : List S27} {j : Nat} {y : S27} (h : xs.drop j = y :: ys) : rd_T27 xs (j : Int) = y := by
 have := (drop_cons h).2.1
 simp [rd_T27, List.getD_eq_getElem?_getD, this]
def BdInt (n : Int) : Prop := True
def BdIntS (l : List Int) : Prop := l.length ≤ 1048576 ∧ ∀ e ∈ l, BdInt e
def BdIntSS (l : List (List Int)) : Prop := l.length ≤ 1048576 ∧ ∀ e ∈ l, BdIntS e
def OkInt (n : Int) : Prop := True
def OkIntS (l : List Int) : Prop := l.length < 9223372036854775807 ∧ ∀ e ∈ l, OkInt e
def OkIntSS (l : List (List Int)) : Prop := l.length < 9223372036854775807 ∧ ∀ e ∈ l, OkIntS e
theorem ok_IntS {l : List Int} (h : BdIntS l) : OkIntS l := ⟨by have := h.1; omega, fun _ _ => trivial⟩
theorem ok_IntSS {l : List (List Int)} (h : BdIntSS l) : OkIntSS l := ⟨by have := h.1; omega, fun e he => ok_IntS (h.2 e he)⟩
def cvRelation (x : S37) : S27 := ⟨x.f0, x.f1⟩
def BdRelation (x : S37) : Prop := BdIntS x.f0 ∧ BdIntSS x.f1
def BdRelationS (l : List S37) : Prop := l.length ≤ 1048576 ∧ ∀ e ∈ l, BdRelation e
def OkRelation (x : S27) : Prop := OkIntS x.f0 ∧ OkIntSS x.f1
def OkRelationS (l : List S27) : Prop := l.length < 9223372036854775807 ∧ ∀ e ∈ l, OkRelation e
theorem ok_Relation {x : S37} (h : BdRelation x) : OkRelation (cvRelation x) := ⟨ok_IntS h.1, ok_IntSS h.2⟩
theorem ok_RelationS {l : List S37} (h : BdRelationS l) : OkRelationS (l.map cvRelation) := ⟨by have := h.1; simp; omega, fun e he => by obtain ⟨x, hx, rfl⟩ := List.mem_map.1 he; exact ok_Relation (h.2 x hx)⟩
theorem szIntS_ev (l : (List Int)) (n : Int) (hF : FLii64 l) (h0 : 0 ≤ n) (h1 : n ≤ 1048576) : ∃ r, Ev (fun k => laws_szIntS.f l n) r ∧ r ≤ 1048576 ∧ (0 ≤ r → BdIntS l) := by
 have h2 := hF.1
 simp only [laws_szIntS.f]
 rw [wrap_in (by omega) (by omega)]
 by_cases h : n - (l.length : Int) < 0
 ·exact ⟨-1, by simp only [if_pos h]; exact ev_now rfl, by omega, fun h => by omega⟩
 ·exact ⟨n - l.length, by simp only [if_neg h]; exact ev_now rfl, by omega, fun _ => ⟨by omega, fun _ _ => trivial⟩⟩
theorem szIntSS_l0 (xs : (List (List Int))) (hb : xs.length < 9223372036854775807) : ∀ (ys : (List (List Int))) (j : Nat) (n : Int), xs.drop j = ys → (∀ e ∈ ys, FLii64 e) → 0 ≤ n → n ≤ 1048576 → ∃ r, Ev (fun k => laws_szIntSS.l0 k xs n (j : Int)) r ∧ r ≤ 1048576 ∧ (0 ≤ r → ∀ e ∈ ys, BdIntS e)
 | [], j, n, h, hF, h0, h1 => by
  have h2 := drop_nil h
  refine ⟨n, ev_succ ?_, h1, fun _ e he => absurd he (by simp)⟩
  simp only [laws_szIntSS.l0]
  simp only [if_neg (show ¬ ((j : Int) < (xs.length : Int)) by omega)]
  exact ev_now rfl
 | y :: ys, j, n, h, hF, h0, h1 => by
  obtain ⟨h2, h3, h4⟩ := drop_cons h
  obtain ⟨r1, e1, l1, b1⟩ := szIntS_ev y n (hF y (by simp)) h0 h1
  by_cases hr : r1 < 0
  ·refine ⟨-1, ev_succ ?_, by omega, fun h => by omega⟩
   simp only [laws_szIntSS.l0]
   simp only [if_pos (show (j : Int) < (xs.length : Int) by omega), if_pos (show (0 : Int) ≤ (j : Int) by omega), rd_L1_drop h]
   refine Ev.bind e1 ?_
   simp only [if_pos hr]
   exact ev_now rfl
  ·obtain ⟨r2, e2, l2, b2⟩ := szIntSS_l0 xs hb ys (j + 1) r1 h4 (fun e he => hF e (by simp [he])) (by omega) l1
   refine ⟨r2, ev_succ ?_, l2, fun h e he => ?_⟩
   ·simp only [laws_szIntSS.l0]
    simp only [if_pos (show (j : Int) < (xs.length : Int) by omega), if_pos (show (0 : Int) ≤ (j : Int) by omega), rd_L1_drop h]
    refine Ev.bind e1 ?_
    simp only [if_neg hr, wrap_succ (show j < 9223372036854775807 by omega)]
    exact e2
   ·rcases List.mem_cons.1 he with rfl | he
    ·exact b1 (by omega)
    ·exact b2 h e he
theorem szIntSS_ev (l : (List (List Int))) (n : Int) (hF : FLLii64 l) (h0 : 0 ≤ n) (h1 : n ≤ 1048576) : ∃ r, Ev (fun k => laws_szIntSS.f k l n) r ∧ r ≤ 1048576 ∧ (0 ≤ r → BdIntSS l) := by
 have h2 := hF.1
 simp only [laws_szIntSS.f]
 rw [wrap_in (by omega) (by omega)]
 by_cases h : n - (l.length : Int) < 0
 ·exact ⟨-1, by simp only [if_pos h]; exact ev_now rfl, by omega, fun h => by omega⟩
 ·obtain ⟨r, e, l1, b⟩ := szIntSS_l0 l (by omega) l 0 (n - l.length) rfl hF.2 (by omega) (by omega)
  exact ⟨r, by simp only [if_neg h]; exact e, l1, fun h => ⟨by omega, b h⟩⟩
theorem toIntS_l0 (xs : (List Int)) (hb : xs.length < 9223372036854775807) : ∀ (ys : (List Int)) (j : Nat) (out : (List Int)), xs.drop j = ys → (∀ e ∈ ys, BdInt e) → j ≤ xs.length → out.length = xs.length → out.take j = xs.take j →
  Ev (fun k => laws_toIntS.l0 k xs out (j : Int)) xs
 | [], j, out, h, hB, hj, ho, hp => by
  have h1 := drop_nil h
  refine ev_succ ?_
  simp only [laws_toIntS.l0]
  simp only [if_neg (show ¬ ((j : Int) < (xs.length : Int)) by omega)]
  refine ev_now ?_
  have e1 : out.take j = out := List.take_of_length_le (by omega)
  have e2 : xs.take j = xs := List.take_of_length_le (by omega)
  rw [← e1, hp, e2]
 | y :: ys, j, out, h, hB, hj, ho, hp => by
  obtain ⟨h1, h2, h3⟩ := drop_cons h
  have hs := set_end (xs := xs) (y := y) h (by rw [ho]) hp
  refine ev_succ ?_
  simp only [laws_toIntS.l0]
  simp only [if_pos (show (j : Int) < (xs.length : Int) by omega), if_pos (show (0 : Int) ≤ (j : Int) by omega), rd_drop h]
  simp only [if_pos (show (j : Int) < (out.length : Int) by omega), wrap_succ (show j < 9223372036854775807 by omega), Int.toNat_natCast]
  exact toIntS_l0 xs hb ys (j + 1) (out.set j y) h3 (fun e he => hB e (by simp [he])) (by omega) (by rw [List.length_set]; exact ho) hs.2
theorem toIntS_ev (xs : (List Int)) (hB : BdIntS xs) : Ev (fun k => laws_toIntS.f k xs) (xs) := by
 have h1 := hB.1
 simp only [laws_toIntS.f]
 simp only [if_pos (show (0 : Int) ≤ (xs.length : Int) by omega), Int.toNat_natCast, if_pos (show xs.length ≤ 35184372088832 by omega)]
 exact toIntS_l0 xs (by omega) xs 0 _ rfl hB.2 (by omega) (by simp) (by simp)
theorem toIntSS_l0 (xs : (List (List Int))) (hb : xs.length < 9223372036854775807) : ∀ (ys : (List (List Int))) (j : Nat) (out : (List (List Int))), xs.drop j = ys → (∀ e ∈ ys, BdIntS e) → j ≤ xs.length → out.length = xs.length → out.take j = xs.take j →
  Ev (fun k => laws_toIntSS.l0 k xs out (j : Int)) xs
 | [], j, out, h, hB, hj, ho, hp => by
  have h1 := drop_nil h
  refine ev_succ ?_
  simp only [laws_toIntSS.l0]
  simp only [if_neg (show ¬ ((j : Int) < (xs.length : Int)) by omega)]
  refine ev_now ?_
  have e1 : out.take j = out := List.take_of_length_le (by omega)
  have e2 : xs.take j = xs := List.take_of_length_le (by omega)
  rw [← e1, hp, e2]
 | y :: ys, j, out, h, hB, hj, ho, hp => by
  obtain ⟨h1, h2, h3⟩ := drop_cons h
  have hs := set_end (xs := xs) (y := y) h (by rw [ho]) hp
  refine ev_succ ?_
  simp only [laws_toIntSS.l0]
  simp only [if_pos (show (j : Int) < (xs.length : Int) by omega), if_pos (show (0 : Int) ≤ (j : Int) by omega), rd_L1_drop h]
  refine Ev.bind (toIntS_ev y (hB y (by simp))) ?_
  simp only [if_pos (show (j : Int) < (out.length : Int) by omega), wrap_succ (show j < 9223372036854775807 by omega), Int.toNat_natCast]
  exact toIntSS_l0 xs hb ys (j + 1) (out.set j y) h3 (fun e he => hB e (by simp [he])) (by omega) (by rw [List.length_set]; exact ho) hs.2
theorem toIntSS_ev (xs : (List (List Int))) (hB : BdIntSS xs) : Ev (fun k => laws_toIntSS.f k xs) (xs) := by
 have h1 := hB.1
 simp only [laws_toIntSS.f]
 simp only [if_pos (show (0 : Int) ≤ (xs.length : Int) by omega), Int.toNat_natCast, if_pos (show xs.length ≤ 11728124029610 by omega)]
 exact toIntSS_l0 xs (by omega) xs 0 _ rfl hB.2 (by omega) (by simp) (by simp)
theorem eqIntS_l0 (xs : (List Int)) (hb : xs.length < 9223372036854775807) : ∀ (ys : (List Int)) (j : Nat), xs.drop j = ys → (∀ e ∈ ys, OkInt e) → Ev (fun k => laws_eqIntS.l0 k xs xs (j : Int)) true
 | [], j, h, hO => by
  have h1 := drop_nil h
  refine ev_succ ?_
  simp only [laws_eqIntS.l0]
  simp only [if_neg (show ¬ ((j : Int) < (xs.length : Int)) by omega)]
  exact ev_now rfl
 | y :: ys, j, h, hO => by
  obtain ⟨h1, h2, h3⟩ := drop_cons h
  refine ev_succ ?_
  simp only [laws_eqIntS.l0]
  simp only [if_pos (show (j : Int) < (xs.length : Int) by omega), if_pos (show (0 : Int) ≤ (j : Int) by omega), rd_drop h, wrap_succ (show j < 9223372036854775807 by omega)]
  simp only [if_true]
  exact eqIntS_l0 xs hb ys (j + 1) h3 (fun e he => hO e (by simp [he]))
theorem eqIntS_ev (xs : (List Int)) (hO : OkIntS xs) : Ev (fun k => laws_eqIntS.f k xs xs) true := by
 have h1 := hO.1
 simp only [laws_eqIntS.f]
 simp only [if_true]
 exact eqIntS_l0 xs h1 xs 0 rfl hO.2
theorem eqIntSS_l0 (xs : (List (List Int))) (hb : xs.length < 9223372036854775807) : ∀ (ys : (List (List Int))) (j : Nat), xs.drop j = ys → (∀ e ∈ ys, OkIntS e) → Ev (fun k => laws_eqIntSS.l0 k xs xs (j : Int)) true
 | [], j, h, hO => by
  have h1 := drop_nil h
  refine ev_succ ?_
  simp only [laws_eqIntSS.l0]
  simp only [if_neg (show ¬ ((j : Int) < (xs.length : Int)) by omega)]
  exact ev_now rfl
 | y :: ys, j, h, hO => by
  obtain ⟨h1, h2, h3⟩ := drop_cons h
  refine ev_succ ?_
  simp only [laws_eqIntSS.l0]
  simp only [if_pos (show (j : Int) < (xs.length : Int) by omega), if_pos (show (0 : Int) ≤ (j : Int) by omega), rd_L1_drop h, wrap_succ (show j < 9223372036854775807 by omega)]
  refine Ev.bind (eqIntS_ev y (hO y (by simp))) ?_
  simp only [if_true]
  exact eqIntSS_l0 xs hb ys (j + 1) h3 (fun e he => hO e (by simp [he]))
theorem eqIntSS_ev (xs : (List (List Int))) (hO : OkIntSS xs) : Ev (fun k => laws_eqIntSS.f k xs xs) true := by
 have h1 := hO.1
 simp only [laws_eqIntSS.f]
 simp only [if_true]
 exact eqIntSS_l0 xs h1 xs 0 rfl hO.2
theorem szRelation_ev (x : S37) (n : Int) (hF : F37 x) (h0 : 0 ≤ n) (h1 : n ≤ 1048576) : ∃ r, Ev (fun k => laws_szRelation.f k x.f0 x.f1 n) r ∧ r ≤ 1048576 ∧ (0 ≤ r → BdRelation x) := by
 simp only [laws_szRelation.f]
 obtain ⟨r0, e0, l0, b0⟩ := szIntS_ev x.f0 n hF.1 h0 h1
 by_cases c0 : r0 < 0
 ·refine ⟨-1, ?_, by omega, fun h => by omega⟩
  refine Ev.bind e0 ?_
  simp only [if_pos c0]
  exact ev_now rfl
 obtain ⟨r1, e1, l1, b1⟩ := szIntSS_ev x.f1 r0 hF.2 (by omega) l0
 by_cases c1 : r1 < 0
 ·refine ⟨-1, ?_, by omega, fun h => by omega⟩
  refine Ev.bind e0 ?_
  simp only [if_neg c0]
  refine Ev.bind e1 ?_
  simp only [if_pos c1]
  exact ev_now rfl
 refine ⟨r1, ?_, l1, fun h => ⟨b0 (by omega), b1 (by omega)⟩⟩
 refine Ev.bind e0 ?_
 simp only [if_neg c0]
 refine Ev.bind e1 ?_
 simp only [if_neg c1]
 exact ev_now rfl
theorem szRelationS_l0 (xs : (List S37)) (hb : xs.length < 9223372036854775807) : ∀ (ys : (List S37)) (j : Nat) (n : Int), xs.drop j = ys → (∀ e ∈ ys, F37 e) → 0 ≤ n → n ≤ 1048576 → ∃ r, Ev (fun k => laws_szRelationS.l0 k xs n (j : Int)) r ∧ r ≤ 1048576 ∧ (0 ≤ r → ∀ e ∈ ys, BdRelation e)
 | [], j, n, h, hF, h0, h1 => by
  have h2 := drop_nil h
  refine ⟨n, ev_succ ?_, h1, fun _ e he => absurd he (by simp)⟩
  simp only [laws_szRelationS.l0]
  simp only [if_neg (show ¬ ((j : Int) < (xs.length : Int)) by omega)]
  exact ev_now rfl
 | y :: ys, j, n, h, hF, h0, h1 => by
  obtain ⟨h2, h3, h4⟩ := drop_cons h
  obtain ⟨r1, e1, l1, b1⟩ := szRelation_ev y n (hF y (by simp)) h0 h1
  by_cases hr : r1 < 0
  ·refine ⟨-1, ev_succ ?_, by omega, fun h => by omega⟩
   simp only [laws_szRelationS.l0]
   simp only [if_pos (show (j : Int) < (xs.length : Int) by omega), if_pos (show (0 : Int) ≤ (j : Int) by omega), rd_T37_drop h]
   refine Ev.bind e1 ?_
   simp only [if_pos hr]
   exact ev_now rfl
  ·obtain ⟨r2, e2, l2, b2⟩ := szRelationS_l0 xs hb ys (j + 1) r1 h4 (fun e he => hF e (by simp [he])) (by omega) l1
   refine ⟨r2, ev_succ ?_, l2, fun h e he => ?_⟩
   ·simp only [laws_szRelationS.l0]
    simp only [if_pos (show (j : Int) < (xs.length : Int) by omega), if_pos (show (0 : Int) ≤ (j : Int) by omega), rd_T37_drop h]
    refine Ev.bind e1 ?_
    simp only [if_neg hr, wrap_succ (show j < 9223372036854775807 by omega)]
    exact e2
   ·rcases List.mem_cons.1 he with rfl | he
    ·exact b1 (by omega)
    ·exact b2 h e he
theorem szRelationS_ev (l : (List S37)) (n : Int) (hF : FL37 l) (h0 : 0 ≤ n) (h1 : n ≤ 1048576) : ∃ r, Ev (fun k => laws_szRelationS.f k l n) r ∧ r ≤ 1048576 ∧ (0 ≤ r → BdRelationS l) := by
 have h2 := hF.1
 simp only [laws_szRelationS.f]
 rw [wrap_in (by omega) (by omega)]
 by_cases h : n - (l.length : Int) < 0
 ·exact ⟨-1, by simp only [if_pos h]; exact ev_now rfl, by omega, fun h => by omega⟩
 ·obtain ⟨r, e, l1, b⟩ := szRelationS_l0 l (by omega) l 0 (n - l.length) rfl hF.2 (by omega) (by omega)
  exact ⟨r, by simp only [if_neg h]; exact e, l1, fun h => ⟨by omega, b h⟩⟩
theorem toRelation_ev (x : S37) (hB : BdRelation x) : Ev (fun k => laws_toRelation.f k x.f0 x.f1) ((cvRelation x).f0, (cvRelation x).f1) := by
 simp only [laws_toRelation.f]
 refine Ev.bind (toIntS_ev x.f0 hB.1) ?_
 refine Ev.bind (toIntSS_ev x.f1 hB.2) ?_
 exact ev_now rfl
theorem toRelationS_l0 (xs : (List S37)) (hb : xs.length < 9223372036854775807) : ∀ (ys : (List S37)) (j : Nat) (out : (List S27)), xs.drop j = ys → (∀ e ∈ ys, BdRelation e) → j ≤ xs.length → out.length = xs.length → out.take j = (xs.map cvRelation).take j →
  Ev (fun k => laws_toRelationS.l0 k xs out (j : Int)) (xs.map cvRelation)
 | [], j, out, h, hB, hj, ho, hp => by
  have h1 := drop_nil h
  refine ev_succ ?_
  simp only [laws_toRelationS.l0]
  simp only [if_neg (show ¬ ((j : Int) < (xs.length : Int)) by omega)]
  refine ev_now ?_
  have e1 : out.take j = out := List.take_of_length_le (by omega)
  have e2 : (xs.map cvRelation).take j = xs.map cvRelation := List.take_of_length_le (by simp only [List.length_map]; omega)
  rw [← e1, hp, e2]
 | y :: ys, j, out, h, hB, hj, ho, hp => by
  obtain ⟨h1, h2, h3⟩ := drop_cons h
  have hs := set_end (xs := xs.map cvRelation) (y := (cvRelation y)) (by rw [← List.map_drop, h]; rfl) (by rw [ho, List.length_map]) hp
  refine ev_succ ?_
  simp only [laws_toRelationS.l0]
  simp only [if_pos (show (j : Int) < (xs.length : Int) by omega), if_pos (show (0 : Int) ≤ (j : Int) by omega), rd_T37_drop h]
  refine Ev.bind (toRelation_ev y (hB y (by simp))) ?_
  simp only [if_pos (show (j : Int) < (out.length : Int) by omega), wrap_succ (show j < 9223372036854775807 by omega), Int.toNat_natCast]
  exact toRelationS_l0 xs hb ys (j + 1) (out.set j (cvRelation y)) h3 (fun e he => hB e (by simp [he])) (by omega) (by rw [List.length_set]; exact ho) hs.2
theorem toRelationS_ev (xs : (List S37)) (hB : BdRelationS xs) : Ev (fun k => laws_toRelationS.f k xs) (xs.map cvRelation) := by
 have h1 := hB.1
 simp only [laws_toRelationS.f]
 simp only [if_pos (show (0 : Int) ≤ (xs.length : Int) by omega), Int.toNat_natCast, if_pos (show xs.length ≤ 5864062014805 by omega)]
 exact toRelationS_l0 xs (by omega) xs 0 _ rfl hB.2 (by omega) (by simp) (by simp)
theorem eqRelation_ev (x : S27) (hO : OkRelation x) : Ev (fun k => laws_eqRelation.f k x.f0 x.f1 x.f0 x.f1) true := by
 simp only [laws_eqRelation.f, if_true, bne_self_eq_false, Bool.false_eq_true, if_false]
 refine Ev.bind (eqIntS_ev x.f0 hO.1) ?_
 simp only [if_true, bne_self_eq_false, Bool.false_eq_true, if_false]
 refine Ev.bind (eqIntSS_ev x.f1 hO.2) ?_
 simp only [if_true, bne_self_eq_false, Bool.false_eq_true, if_false]
 exact ev_now rfl
theorem eqRelationS_l0 (xs : (List S27)) (hb : xs.length < 9223372036854775807) : ∀ (ys : (List S27)) (j : Nat), xs.drop j = ys → (∀ e ∈ ys, OkRelation e) → Ev (fun k => laws_eqRelationS.l0 k xs xs (j : Int)) true
 | [], j, h, hO => by
  have h1 := drop_nil h
  refine ev_succ ?_
  simp only [laws_eqRelationS.l0]
  simp only [if_neg (show ¬ ((j : Int) < (xs.length : Int)) by omega)]
  exact ev_now rfl
 | y :: ys, j, h, hO => by
  obtain ⟨h1, h2, h3⟩ := drop_cons h
  refine ev_succ ?_
  simp only [laws_eqRelationS.l0]
  simp only [if_pos (show (j : Int) < (xs.length : Int) by omega), if_pos (show (0 : Int) ≤ (j : Int) by omega), rd_T27_drop h, wrap_succ (show j < 9223372036854775807 by omega)]
  refine Ev.bind (eqRelation_ev y (hO y (by simp))) ?_
  simp only [if_true]
  exact eqRelationS_l0 xs hb ys (j + 1) h3 (fun e he => hO e (by simp [he]))
theorem eqRelationS_ev (xs : (List S27)) (hO : OkRelationS xs) : Ev (fun k => laws_eqRelationS.f k xs xs) true := by
 have h1 := hO.1
 simp only [laws_eqRelationS.f]
 simp only [if_true]
 exact eqRelationS_l0 xs h1 xs 0 rfl hO.2
end Go.Proofs.Ytcengijoicmldaa.Ax

/- What the marks in lists of lists tell: plain words. Conditions: marks that Go can hold. -/
namespace Go.Proofs.Ytcengijoicmldaa.Ax
open Go.RowKit Go.Proofs.Ytcengijoicmldaa.Pr Go.Proofs.Ytcengijoicmldaa.Pl Go.Proofs.YtcengijoicmldaaW.PrintWords Go.Proofs.YtcengijoicmldaaW.PrintLast Go.Proofs.YtcengijoicmldaaW.PrintMore
set_option linter.unusedVariables false
set_option linter.unusedSimpArgs false
def cntIntS (l : List Int) : Nat := l.length
def mkIntS (l : List Int) (m : Int) : List Int := mkL l.length m
theorem mkIntS_length (l : List Int) (m : Int) : (mkIntS l m).length = l.length := mkL_length _ _
def cntOf {α : Type} (c : α → Nat) : List α → Nat
 | [] => 0
 | x :: xs => c x + cntOf c xs
def mkOf {α : Type} (c : α → Nat) (f : α → Int → α) : List α → Int → List α
 | [], _ => []
 | x :: xs, m => f x m :: mkOf c f xs (m + (c x : Nat))
section
variable {α : Type} {c : α → Nat} {f : α → Int → α}
theorem cntOf_snoc : ∀ (xs : List α) (y : α), cntOf c (xs ++ [y]) = cntOf c xs + c y
 | [], y => by simp [cntOf]
 | x :: xs, y => by simp only [List.cons_append, cntOf, cntOf_snoc xs y]; omega
theorem cntOf_append : ∀ (xs ys : List α), cntOf c (xs ++ ys) = cntOf c xs + cntOf c ys
 | [], y => by simp [cntOf]
 | x :: xs, y => by simp only [List.cons_append, cntOf, cntOf_append xs y]; omega
theorem mkOf_length : ∀ (xs : List α) (m : Int), (mkOf c f xs m).length = xs.length
 | [], _ => rfl
 | x :: xs, m => by rw [mkOf, List.length_cons, List.length_cons, mkOf_length xs]
theorem mkOf_snoc : ∀ (xs : List α) (y : α) (m : Int), mkOf c f (xs ++ [y]) m = mkOf c f xs m ++ [f y (m + (cntOf c xs : Nat))]
 | [], y, m => by simp [mkOf, cntOf]
 | x :: xs, y, m => by
  have := mkOf_snoc xs y (m + (c x : Nat))
  simp only [List.cons_append, mkOf, this, cntOf]
  rw [show m + ((c x : Nat) : Int) + ((cntOf c xs : Nat) : Int) = m + ((c x + cntOf c xs : Nat) : Int) by omega]
theorem mkOf_set (pre post : List α) (y : α) (m : Int) : (mkOf c f pre m ++ y :: post).set pre.length (f y (m + (cntOf c pre : Nat))) = mkOf c f (pre ++ [y]) m ++ post := by
 rw [mkOf_snoc, List.set_append_right _ _ (by rw [mkOf_length]; exact Nat.le_refl _), mkOf_length, Nat.sub_self, List.append_assoc]
 rfl
theorem mkOf_at (pre post : List α) (y z : α) (m : Int) : (mkOf c f pre m ++ y :: post).getD pre.length z = y := by
 rw [List.getD_eq_getElem?_getD, List.getElem?_append_right (by rw [mkOf_length]; exact Nat.le_refl _), mkOf_length, Nat.sub_self]
 rfl
end
abbrev cntIntSS : List (List Int) → Nat := cntOf cntIntS
abbrev mkIntSS : List (List Int) → Int → List (List Int) := mkOf cntIntS mkIntS
theorem cnt_le {α : Type} {c : α → Nat} (b : Nat) : ∀ (xs : List α), (∀ x ∈ xs, c x ≤ b) → cntOf c xs ≤ xs.length * b
 | [], _ => by simp [cntOf]
 | x :: xs, h => by
  have h1 := h x (by simp)
  have h2 := cnt_le b xs (fun y hy => h y (by simp [hy]))
  simp only [cntOf, List.length_cons, Nat.succ_mul]
  omega
theorem cntIntSS_le {l : List (List Int)} (h : l.length ≤ 1048576 ∧ ∀ e ∈ l, e.length ≤ 1048576) : cntIntSS l ≤ 1099511627776 := by
 have h1 := cnt_le (c := cntIntS) 1048576 l h.2
 exact Nat.le_trans h1 (Nat.mul_le_mul_right 1048576 h.1)
end Go.Proofs.Ytcengijoicmldaa.Ax

/- How many marks a value takes, and that those of numbers are found again. No condition. -/
namespace Go.Proofs.Ytcengijoicmldaa.Ax
open Go.RowKit Go.Proofs.Ytcengijoicmldaa.Pr Go.Proofs.Ytcengijoicmldaa.Pl Go.Proofs.YtcengijoicmldaaW.PrintWords Go.Proofs.YtcengijoicmldaaW.PrintLast Go.Proofs.YtcengijoicmldaaW.PrintMore
set_option linter.unusedVariables false
theorem cntIntS_bd {l : List Int} (h : BdIntS l) : cntIntS l ≤ 1048576 := h.1
theorem cntIntSS_bd {l : List (List Int)} (h : BdIntSS l) : cntIntSS l ≤ 1099511627776 := cntIntSS_le ⟨h.1, fun e he => (h.2 e he).1⟩
theorem heldIntS_ev' (l : List Int) (m : Int) (h0 : 0 ≤ m) (hb : m + (cntIntS l : Nat) < 9223372036854775807) : Ev (fun k => laws_heldIntS.f k (mkIntS l m) m) (m + (cntIntS l : Nat)) := heldIntS_ev l.length m h0 hb
end Go.Proofs.Ytcengijoicmldaa.Ax

/- The marks in lists of lists are found again. No condition. -/
namespace Go.Proofs.Ytcengijoicmldaa.Ax
open Go.RowKit Go.Proofs.Ytcengijoicmldaa.Pr Go.Proofs.Ytcengijoicmldaa.Pl Go.Proofs.YtcengijoicmldaaW.PrintWords Go.Proofs.YtcengijoicmldaaW.PrintLast Go.Proofs.YtcengijoicmldaaW.PrintMore
set_option linter.unusedVariables false
theorem heldIntSS_l0 (xs : List (List Int)) (hx : xs.length < 9223372036854775807) : ∀ (ys : List (List Int)) (j : Nat) (m : Int), 0 ≤ m → m + (cntIntSS ys : Nat) < 9223372036854775807 → xs.drop j = mkIntSS ys m →
  Ev (fun k => laws_heldIntSS.l0 k xs m (j : Int)) (m + (cntIntSS ys : Nat))
 | [], j, m, h0, hb, h => by
  have h1 := drop_nil h
  refine ev_succ ?_
  simp only [laws_heldIntSS.l0]
  simp only [if_neg (show ¬ ((j : Int) < (xs.length : Int)) by omega)]
  exact ev_now (by simp [cntOf])
 | y :: ys, j, m, h0, hb, h => by
  rw [mkIntSS, mkOf] at h
  obtain ⟨h1, h2, h3⟩ := drop_cons h
  rw [cntIntSS, cntOf] at hb
  refine ev_succ ?_
  simp only [laws_heldIntSS.l0]
  simp only [if_pos (show (j : Int) < (xs.length : Int) by omega), if_pos (show (0 : Int) ≤ (j : Int) by omega), rd_L1_drop h]
  refine Ev.bind (heldIntS_ev' y m h0 (by omega)) ?_
  simp only [if_neg (show ¬ m + (cntIntS y : Nat) < 0 by omega), wrap_succ (show j < 9223372036854775807 by omega)]
  have := heldIntSS_l0 xs hx ys (j + 1) (m + (cntIntS y : Nat)) (by omega) (by show m + (cntIntS y : Nat) + ((cntOf cntIntS ys : Nat) : Int) < _; omega) h3
  rw [cntIntSS, cntOf]
  rwa [show m + (cntIntS y : Nat) + ((cntOf cntIntS ys : Nat) : Int) = m + ((cntIntS y + cntOf cntIntS ys : Nat) : Int) by omega] at this
theorem heldIntSS_ev' (l : List (List Int)) (m : Int) (hl : l.length < 9223372036854775807) (h0 : 0 ≤ m) (hb : m + (cntIntSS l : Nat) < 9223372036854775807) : Ev (fun k => laws_heldIntSS.f k (mkIntSS l m) m) (m + (cntIntSS l : Nat)) := by
 simp only [laws_heldIntSS.f]
 exact heldIntSS_l0 _ (by rw [mkOf_length]; exact hl) l 0 m h0 hb rfl
end Go.Proofs.Ytcengijoicmldaa.Ax

/- The marks in rows of numbers, and in rows of such rows, of the call's own: contracts. Conditions: marks that Go can hold. -/
namespace Go.Proofs.Ytcengijoicmldaa.Mk
open Go.RowKit Go.Proofs.Ytcengijoicmldaa Go.Proofs.Ytcengijoicmldaa.Pr Go.Proofs.Ytcengijoicmldaa.Pl Go.Proofs.YtcengijoicmldaaW.PrintWords Go.Proofs.YtcengijoicmldaaW.PrintLast Go.Proofs.YtcengijoicmldaaW.PrintMore
set_option linter.unusedVariables false
set_option linter.unusedSimpArgs false
theorem R_base_up {k : IntKind} {e b b' : Nat} {w : World} {ok : Nat → Prop} {v : Value} {xs : List Int} (h : (Kd.int k).R e w b ok v xs) (hb : ∀ k, v.ownBlock = some k → b' ≤ k) : (Kd.int k).R e w b' ok v xs :=
 Kd.R_raise (d := Kd.int k) (b := b) (b' := b') (fun _ _ _ _ h_ => h_) h hb
set_option maxHeartbeats 1000000 in
theorem markIntS_R (w0 w : World) (base : Nat) (ok : Nat → Prop) (m M : Int) (v : Value) (l : List Int) (hB : Below w0.heap.size w0 w) (hb : w0.heap.size ≤ base)
  (ho : (Kd.int .i64).R 3 w base ok v l) (h0 : 0 ≤ m) (h1 : m + (Ax.cntIntS l : Nat) = M ∧ M < 9223372036854775807) :
  Calls Try.prog 37 #[v, .int .i64 m] w fun e w' => e = .returned (.int .i64 M) ∧ (Kd.int .i64).R 3 w' base ok v (Ax.mkIntS l m) ∧ Below w0.heap.size w0 w' ∧ Kept w w' (fun k => some k = v.ownBlock) := by
 obtain ⟨rfl, hM⟩ := h1
 obtain ⟨k, hk⟩ := Ev.rounds (Ax.markIntS_ev l m h0 hM)
 refine (laws_markIntS.calls k (fun k => some k = v.ownBlock) v l m _ _ w0 w hB (Kd.R_lower (Kd.R_tight rfl ho) hb) hk).mono ?_
 rintro e w' ⟨rfl, h2, h3, h4⟩
 refine ⟨rfl, ?_, h3, h4⟩
 exact R_base_up (Kd.R_reok rfl h2 (fun k hk => ho.1 k hk)) (fun k hk => Kd.R_base ho k hk)
theorem own_in {α : Type} {d : Kd α} {e lo hi : Nat} {q : Nat → Prop} {w : World} {v : Value} {xs : List α} (o : Iv.Ob d e w lo hi q v xs) : ∀ k, some k = v.ownBlock → lo ≤ k ∧ k < hi := fun k hk => o.lo_le k hk.symm
set_option maxHeartbeats 4000000 in
set_option maxRecDepth 100000 in
theorem markIntSS_S (w0 w : World) (base : Nat) (ok : Nat → Prop) (m M : Int) (v : Value) (l : List (List Int)) (hB : Below w0.heap.size w0 w) (hb : w0.heap.size ≤ base)
  (ho : Kd.S (Kd.slice 3 (Kd.int .i64)) 24 w base ok v l) (h0 : 0 ≤ m) (h1 : m + (Ax.cntIntSS l : Nat) = M ∧ M < 9223372036854775807) :
  Calls Try.prog 22 #[v, .int .i64 m] w fun e w' => e = .returned (.int .i64 M) ∧ Kd.S (Kd.slice 3 (Kd.int .i64)) 24 w' base ok v (Ax.mkIntSS l m) ∧ Below w0.heap.size w0 w' ∧ Kept w w' ok := by
 obtain ⟨A, c, rfl⟩ := Kd.S_slice ho
 obtain ⟨rfl, hM⟩ := h1
 have HN := Aside0.mk (Kd.S_reads' ho).2.2.2.1
 have HO := Aside0.mk ho
 have HB := Aside0.mk hB
 have HBB := Aside0.mk hb
 have H0 := Aside0.mk h0
 have HM := Aside0.mk hM
 clear ho hB hb h0 hM
 go_enter Try.func22, Try.ntmps22
 go_wp2
 go_loopg [1, 5] (l.length + 1) (fun gg v1 v5 wr => ∃ (pre post : List (List Int)) (m1 : Int), v1 = .int .i64 m1 ∧ v5 = .int .i64 (pre.length : Nat) ∧ Aside0 (m1 = m + (Ax.cntIntSS pre : Nat)) ∧ Aside0 (l = pre ++ post) ∧ Aside0 (post.length + 1 ≤ gg) ∧
  Aside0 (Kd.S (Kd.slice 3 (Kd.int .i64)) 24 wr base ok (.slice A l.length c) (Ax.mkIntSS pre m ++ post)) ∧ Aside0 (Kept w wr ok) ∧ Aside0 (Below w0.heap.size w0 wr))
 case atStart => exact ⟨[], l, m, rfl, rfl, ⟨by simp [Ax.cntOf]⟩, ⟨rfl⟩, ⟨Nat.le_refl _⟩, HO, ⟨Kept.refl _ _⟩, HB⟩
 case round =>
  clear HO HB
  obtain ⟨pre, post, m1, rfl, rfl, HM1, HL, HG, HO, HK, HB⟩ := hrel
  cases post with
  | nil =>
   have hlen : l.length = pre.length := by rw [HL.out]; simp
   have h1 : ¬ ((pre.length : Nat) : Int) < (l.length : Int) := by omega
   have hE : pre = l := by rw [HL.out]; simp
   have HE := Aside0.mk hE
   clear hE hlen
   go_wp2
   go_ret
   refine ⟨?_, ?_, HB.out, HK.out⟩
   ·rw [HM1.out, HE.out]
    rfl
   ·have := HO.out
    rwa [HE.out, List.append_nil] at this
  | cons y post =>
   have hlen : l.length = pre.length + (post.length + 1) := by rw [HL.out]; simp
   have h1 : ((pre.length : Nat) : Int) < (l.length : Int) := by omega
   have hml : (Ax.mkIntSS pre m ++ y :: post).length = l.length := by rw [List.length_append, Ax.mkOf_length, hlen]; rfl
   obtain ⟨g, cap, hv, hg, hgl, _, _⟩ := Kd.S_form HO.out (by omega)
   injection hv with hv1 hv2 hv3
   subst hv1; subst hv3
   obtain ⟨oki, cs, hcl, hMd, hcc, hoki, hH⟩ := Kd.S_lend HO.out ([] : List Int) ((pre.length : Nat) : Int) (by omega) (by omega)
   obtain ⟨vi, rfl, hR⟩ := hMd
   have x0 := hcc 0 vi rfl
   simp only [Int.toNat_natCast, show (Kd.slice 3 (Kd.int .i64)).sz = 1 from rfl, Nat.mul_one, Nat.add_zero] at x0
   rw [Int.toNat_natCast, Ax.mkOf_at] at hR
   have hcnt : Ax.cntIntSS l = Ax.cntIntSS pre + (Ax.cntIntS y + Ax.cntIntSS post) := by rw [HL.out]; exact Ax.cntOf_append pre (y :: post)
   have hw5 : wrap64 (((pre.length : Nat) : Int) + 1) = ((pre.length + 1 : Nat) : Int) := Pl.wrap_succ (by have := HN.out; omega)
   have HW5 := Aside0.mk hw5
   have HOK := Aside0.mk hoki
   have HH := Aside0.mk hH
   have HLN := Aside0.mk hlen
   have hcall := markIntS_R w0 wr base oki m1 (m1 + (Ax.cntIntS y : Nat)) vi y HB.out HBB.out hR (by have := HM1.out; have := H0.out; omega) ⟨rfl, by have := HM1.out; have := HM.out; omega⟩
   have HR := Aside0.mk hR
   obtain ⟨Ai, ci, rfl⟩ := Kd.R_slice hR
   clear hw5 hoki hH hcc hml hlen hcnt hR hv2 hg hgl hcl
   go_wp2_with (first | (go_at_call 37; refine hcall.mono ?_; rintro e w2 ⟨rfl, hR2, hB2, hK2⟩; have HR2 := Aside0.mk hR2; have HB2 := Aside0.mk hB2; have HK2 := Aside0.mk hK2; clear hR2 hB2 hK2 hcall))
   go_roundg (post.length + 1)
   case measure => have := HG.out; simp at this; omega
   case rel =>
    have hsub : ∀ k, some k = (Value.slice Ai y.length ci).ownBlock → oki k := fun k hk => HR.out.1 k hk.symm
    refine ⟨pre ++ [y], post, _, rfl, ?_, ⟨?_⟩, ⟨?_⟩, ⟨Nat.le_refl _⟩, ⟨?_⟩, ⟨?_⟩, HB2⟩
    ·rw [HW5.out]; simp
    ·rw [HM1.out]; simp only [Ax.cntIntSS, Ax.cntOf_snoc]; omega
    ·rw [HL.out]; simp
    ·have hb2 := Kd.H_back (Kd.H_kept HH.out (S := fun k => some k = (Value.slice Ai y.length ci).ownBlock) HK2.out (fun k hk hn hs => hn (hsub k hs))) (x' := Ax.mkIntS y m1) (okp := oki) ⟨_, rfl, HR2.out⟩ (fun _ h => h)
     rw [Int.toNat_natCast, HM1.out, Ax.mkOf_set] at hb2
     exact hb2
    ·exact HK.out.then_ HK2.out (fun k hk => .inl (HOK.out k (hsub k hk)).1)
theorem ob_of {lo hi : Nat} {q : Nat → Prop} {w w' : World} {v : Value} {l l' : List Int} (o : Iv.Ob (Kd.int .i64) 3 w lo hi q v l) (h : (Kd.int .i64).R 3 w' lo (fun k => some k = v.ownBlock) v l') (hs : w.heap.size ≤ w'.heap.size) : Iv.Ob (Kd.int .i64) 3 w' lo hi q v l' :=
 ⟨Kd.S_bare (d := Kd.int .i64) (show (Kd.bare (Kd.int .i64)).R 3 w' lo _ v l' from Kd.R_reok rfl h (fun k hk => o.R.1 k hk)), Nat.le_trans o.2 hs⟩
theorem Ob_tight {lo hi : Nat} {q : Nat → Prop} {w : World} {v : Value} {l : List Int} (o : Iv.Ob (Kd.int .i64) 3 w lo hi q v l) : (Kd.int .i64).R 3 w lo (fun k => some k = v.ownBlock) v l := Kd.R_tight rfl o.R
end Go.Proofs.Ytcengijoicmldaa.Mk

/- The marks in a relation of the call's own: contract. Conditions: marks that Go can hold. -/
namespace Go.Proofs.Ytcengijoicmldaa.Ax
set_option linter.unusedVariables false
abbrev cntRelation (l0 : List Int) (l1 : List (List Int)) : Nat := cntIntS l0 + cntIntSS l1
abbrev mkRelation_0 (l0 : List Int) (l1 : List (List Int)) (m : Int) : List Int := mkIntS l0 m
abbrev mkRelation_1 (l0 : List Int) (l1 : List (List Int)) (m : Int) : List (List Int) := mkIntSS l1 (m + (cntIntS l0 : Nat))
end Go.Proofs.Ytcengijoicmldaa.Ax
namespace Go.Proofs.Ytcengijoicmldaa.Mk
open Go.RowKit Go.Proofs.Ytcengijoicmldaa Go.Proofs.Ytcengijoicmldaa.Pr Go.Proofs.Ytcengijoicmldaa.Pl Go.Proofs.YtcengijoicmldaaW.PrintWords Go.Proofs.YtcengijoicmldaaW.PrintLast Go.Proofs.YtcengijoicmldaaW.PrintMore
set_option linter.unusedVariables false
set_option linter.unusedSimpArgs false
set_option maxHeartbeats 4000000 in
set_option maxRecDepth 100000 in
theorem markRelation (w0 w : World) (lo hi : Nat) (m M : Int) (v0 v1 : Value) (l0 : List Int) (l1 : List (List Int)) {q0 : Nat → Prop} (hB : Below w0.heap.size w0 w) (hlo : w0.heap.size ≤ lo)
  (o0 : Iv.Ob (Kd.int .i64) 3 w lo hi q0 v0 l0) (o1 : Iv.Ob (Kd.slice 3 (Kd.int .i64)) 24 w lo hi (fun k => some k ≠ v0.ownBlock) v1 l1)
  (h0 : 0 ≤ m) (h1 : m + (Ax.cntRelation l0 l1 : Nat) = M ∧ M < 9223372036854775807) :
  Calls Try.prog 13 #[.agg #[v0, v1], .int .i64 m] w fun e w' => e = .returned (.int .i64 M) ∧ Iv.Ob (Kd.int .i64) 3 w' lo hi q0 v0 (Ax.mkRelation_0 l0 l1 m) ∧ Iv.Ob (Kd.slice 3 (Kd.int .i64)) 24 w' lo hi (fun k => some k ≠ v0.ownBlock) v1 (Ax.mkRelation_1 l0 l1 m) ∧
   Below w0.heap.size w0 w' ∧ Kept w w' (fun k => lo ≤ k ∧ k < hi) := by
 obtain ⟨hM1, hM2⟩ := h1
 unfold Ax.cntRelation at hM1
 obtain ⟨A0, k0, rfl⟩ := o0.slice
 obtain ⟨A1, k1, rfl⟩ := o1.slice
 have hal := below_alloc (Below.refl w.heap.size w) (.cells #[.slice A0 l0.length k0, .slice A1 l1.length k1] 27)
 have x1 := Bx.box_new w #[.slice A0 l0.length k0, .slice A1 l1.length k1] 27 1 (.slice A1 l1.length k1) rfl
 have c2 := markIntS_R w0 _ lo _ m (m + (Ax.cntIntS l0 : Nat)) (.slice A0 l0.length k0) l0 (below_then hB hB.size hal) hlo (Kd.R_below (Ob_tight o0) hal) h0 ⟨rfl, by omega⟩
 have c3 := fun (W : World) (hB' : Below w0.heap.size w0 W) (h : Kd.S (Kd.slice 3 (Kd.int .i64)) 24 W lo (fun k => (k < hi ∧ some k ≠ (Value.slice A0 l0.length k0).ownBlock) ∧ lo ≤ k) (.slice A1 l1.length k1) l1) => markIntSS_S w0 W lo _ (m + (Ax.cntIntS l0 : Nat)) M (.slice A1 l1.length k1) l1 hB' hlo h (by omega) ⟨by omega, hM2⟩
 have q1 := Kd.S_mono (ok' := fun k => (k < hi ∧ some k ≠ (Value.slice A0 l0.length k0).ownBlock) ∧ lo ≤ k) (Kd.S_below (Kd.S_bound o1.1) hal) (fun k hk => ⟨hk.1, hk.2.1⟩)
 have kw := Kept.of_below hal (fun k => lo ≤ k ∧ k < hi)
 have hhi := o0.2
 have C2 := Aside0.mk c2
 have C3 := Aside0.mk c3
 have O0 := Aside0.mk o0
 have Q1 := Aside0.mk q1
 have X1 := Aside0.mk x1
 have HHI := Aside0.mk hhi
 have KW := Aside0.mk kw
 clear hB hlo o0 o1 q1 h0 hM1 hM2 c2 c3 x1 hal hhi kw
 go_enter Try.func13, Try.ntmps13
 go_wp2_with (first | (go_at_call 37; refine C2.out.mono ?_; clear C2; rintro e w1 ⟨rfl, hR, hB1, hK1⟩; have HR0 := Aside0.mk hR; have HB1 := Aside0.mk hB1; have HK1 := Aside0.mk hK1; have y1 := cell_kept X1.out hK1 (fun hs => absurd (show w.heap.size < hi from (own_in O0.out _ hs).2) (Nat.not_lt.2 HHI.out)); clear hR hB1 hK1))
 go_wp2_with (first | (go_at_call 22; refine (C3.out w1 HB1.out (Kd.S_kept Q1.out HK1.out (fun k hk hs => hk.1.2 hs))).mono ?_; clear C3; rintro e w2 ⟨rfl, hS, hB2, hK2⟩; have HS1 := Aside0.mk hS; have HB2 := Aside0.mk hB2; have HK2 := Aside0.mk hK2; clear hS hB2 hK2))
 go_ret
 have hsz : w.heap.size ≤ w2.heap.size := Nat.le_trans KW.out.1 (Nat.le_trans HK1.out.1 HK2.out.1)
 refine ⟨rfl, ob_of O0.out ?_ hsz, ⟨Kd.S_mono HS1.out (fun k hk => hk.1), Nat.le_trans O0.out.2 hsz⟩, HB2.out, ?_⟩
 ·exact Kd.R_kept HR0.out HK2.out (fun k hk hs => hs.1.2 hk)
 ·exact (KW.out.then_ HK1.out (fun k hk => .inl (own_in O0.out k hk))).then_ HK2.out (fun k hk => .inl ⟨hk.2, hk.1.1⟩)
end Go.Proofs.Ytcengijoicmldaa.Mk

/- How many marks a relation takes. No condition. -/
namespace Go.Proofs.Ytcengijoicmldaa.Ax
open Go.RowKit Go.Proofs.Ytcengijoicmldaa.Pr Go.Proofs.Ytcengijoicmldaa.Pl Go.Proofs.YtcengijoicmldaaW.PrintWords Go.Proofs.YtcengijoicmldaaW.PrintLast Go.Proofs.YtcengijoicmldaaW.PrintMore
set_option linter.unusedVariables false
theorem cntRelation_bd {l0 : List Int} {l1 : List (List Int)} (h0 : BdIntS l0) (h1 : BdIntSS l1) : cntRelation l0 l1 ≤ 2199023255552 := by
 have := cntIntS_bd h0
 have := cntIntSS_bd h1
 unfold cntRelation
 omega
end Go.Proofs.Ytcengijoicmldaa.Ax

/- The marks in a relation are found again. No condition. -/
namespace Go.Proofs.Ytcengijoicmldaa.Ax
open Go.RowKit Go.Proofs.Ytcengijoicmldaa.Pr Go.Proofs.Ytcengijoicmldaa.Pl Go.Proofs.YtcengijoicmldaaW.PrintWords Go.Proofs.YtcengijoicmldaaW.PrintLast Go.Proofs.YtcengijoicmldaaW.PrintMore
set_option linter.unusedVariables false
theorem heldRelation_ev' (l0 : List Int) (l1 : List (List Int)) (m : Int) (hl : l1.length < 9223372036854775807) (h0 : 0 ≤ m) (hb : m + (cntRelation l0 l1 : Nat) < 9223372036854775807) :
  Ev (fun k => laws_heldRelation.f k (mkRelation_0 l0 l1 m) (mkRelation_1 l0 l1 m) m) (m + (cntRelation l0 l1 : Nat)) := by
 unfold cntRelation at hb ⊢
 simp only [laws_heldRelation.f]
 refine Ev.bind (heldIntS_ev' l0 _ (by omega) (by omega)) ?_
 simp only [if_neg (show ¬ m + (cntIntS l0 : Nat) < 0 by omega)]
 refine Ev.bind (heldIntSS_ev' l1 _ hl (by omega) (by omega)) ?_
 simp only [if_neg (show ¬ m + (cntIntS l0 : Nat) + (cntIntSS l1 : Nat) < 0 by omega)]
 rw [show m + (cntIntS l0 : Nat) + (cntIntSS l1 : Nat) = m + ((cntIntS l0 + cntIntSS l1 : Nat) : Int) by omega]
 exact ev_now rfl
end Go.Proofs.Ytcengijoicmldaa.Ax

/- The marks in a row of relations of the call's own, whose parts lie apart: contract. Conditions: marks that Go can hold. -/
namespace Go.Proofs.Ytcengijoicmldaa.Ax
set_option linter.unusedVariables false
open Go.Proofs.Ytcengijoicmldaa.Pr
def cR (d : S27) : Nat := cntRelation d.f0 d.f1
def mR (d : S27) (m : Int) : S27 := ⟨mkRelation_0 d.f0 d.f1 m, mkRelation_1 d.f0 d.f1 m⟩
abbrev cntRelationS : List S27 → Nat := cntOf cR
abbrev mkRelationS : List S27 → Int → List S27 := mkOf cR mR
end Go.Proofs.Ytcengijoicmldaa.Ax
namespace Go.Proofs.Ytcengijoicmldaa.Mk
open Go.RowKit Go.Proofs.Ytcengijoicmldaa Go.Proofs.Ytcengijoicmldaa.Pr Go.Proofs.Ytcengijoicmldaa.Pl Go.Proofs.YtcengijoicmldaaW.PrintWords Go.Proofs.YtcengijoicmldaaW.PrintLast Go.Proofs.YtcengijoicmldaaW.PrintMore
set_option linter.unusedVariables false
set_option linter.unusedSimpArgs false
set_option maxHeartbeats 4000000 in
set_option maxRecDepth 100000 in
theorem markRelationS_S (w0 w : World) (base : Nat) (ok : Nat → Prop) (m M : Int) (v : Value) (l : List S27) (hB : Below w0.heap.size w0 w) (hb : w0.heap.size ≤ base)
  (ho : Kd.S kA 27 w base ok v l) (h0 : 0 ≤ m) (h1 : m + (Ax.cntRelationS l : Nat) = M ∧ M < 9223372036854775807) :
  Calls Try.prog 12 #[v, .int .i64 m] w fun e w' => e = .returned (.int .i64 M) ∧ Kd.S kA 27 w' base ok v (Ax.mkRelationS l m) ∧ Below w0.heap.size w0 w' ∧ Kept w w' ok := by
 obtain ⟨A, c, rfl⟩ := Kd.S_slice ho
 obtain ⟨rfl, hM⟩ := h1
 have HN := Aside0.mk (Kd.S_reads' ho).2.2.2.1
 have HO := Aside0.mk ho
 have HB := Aside0.mk hB
 have HBB := Aside0.mk hb
 have H0 := Aside0.mk h0
 have HM := Aside0.mk hM
 clear ho hB hb h0 hM
 go_enter Try.func12, Try.ntmps12
 go_wp2
 go_loopg [1, 5] (l.length + 1) (fun gg v1 v5 wr => ∃ (pre post : List S27) (m1 : Int), v1 = .int .i64 m1 ∧ v5 = .int .i64 (pre.length : Nat) ∧ Aside0 (m1 = m + (Ax.cntRelationS pre : Nat)) ∧ Aside0 (l = pre ++ post) ∧ Aside0 (post.length + 1 ≤ gg) ∧
  Aside0 (Kd.S kA 27 wr base ok (.slice A l.length c) (Ax.mkRelationS pre m ++ post)) ∧ Aside0 (Kept w wr ok) ∧ Aside0 (Below w0.heap.size w0 wr))
 case atStart => exact ⟨[], l, m, rfl, rfl, ⟨by simp [Ax.cntOf]⟩, ⟨rfl⟩, ⟨Nat.le_refl _⟩, HO, ⟨Kept.refl _ _⟩, HB⟩
 case round =>
  clear HO HB
  obtain ⟨pre, post, m1, rfl, rfl, HM1, HL, HG, HO, HK, HB⟩ := hrel
  cases post with
  | nil =>
   have hlen : l.length = pre.length := by rw [HL.out]; simp
   have h1 : ¬ ((pre.length : Nat) : Int) < (l.length : Int) := by omega
   have hE : pre = l := by rw [HL.out]; simp
   have HE := Aside0.mk hE
   clear hE hlen
   go_wp2
   go_ret
   refine ⟨?_, ?_, HB.out, HK.out⟩
   ·rw [HM1.out, HE.out]
    rfl
   ·have := HO.out
    rwa [HE.out, List.append_nil] at this
  | cons y post =>
   have hlen : l.length = pre.length + (post.length + 1) := by rw [HL.out]; simp
   have h1 : ((pre.length : Nat) : Int) < (l.length : Int) := by omega
   have hml : (Ax.mkRelationS pre m ++ y :: post).length = l.length := by rw [List.length_append, Ax.mkOf_length, hlen]; rfl
   obtain ⟨g, cap, hv, hg, hgl, _, _⟩ := Kd.S_form HO.out (by omega)
   injection hv with hv1 hv2 hv3
   subst hv1; subst hv3
   obtain ⟨oki, cs, hcl, hMd, hcc, hoki, hH⟩ := Kd.S_lend HO.out (z27 : S27) ((pre.length : Nat) : Int) (by omega) (by omega)
   rw [Int.toNat_natCast, Ax.mkOf_at] at hMd
   obtain ⟨gt, c0_, c1_, rfl, ⟨v0, rfl, hR0⟩, ⟨v1, rfl, hS1⟩⟩ := hMd
   have x0 := hcc 0 v0 rfl
   have x1 := hcc 1 v1 rfl
   simp only [Int.toNat_natCast, show kA.sz = 2 from rfl, Nat.add_zero] at x0 x1
   have hcnt : Ax.cntRelationS l = Ax.cntRelationS pre + (Ax.cR y + Ax.cntRelationS post) := by rw [HL.out]; exact Ax.cntOf_append pre (y :: post)
   have hcy : Ax.cR y = Ax.cntIntS y.f0 + Ax.cntIntSS y.f1 := rfl
   have hw5 : wrap64 (((pre.length : Nat) : Int) + 1) = ((pre.length + 1 : Nat) : Int) := Pl.wrap_succ (by have := HN.out; omega)
   have HW5 := Aside0.mk hw5
   have HOK := Aside0.mk hoki
   have HH := Aside0.mk hH
   have HLN := Aside0.mk hlen
   have hcall := markIntS_R w0 wr base _ m1 (m1 + (Ax.cntIntS y.f0 : Nat)) v0 y.f0 HB.out HBB.out hR0 (by have := HM1.out; have := H0.out; omega) ⟨rfl, by have := HM1.out; have := HM.out; omega⟩
   have hcall2 := fun (W : World) (hB' : Below w0.heap.size w0 W) (h : Kd.S (Kd.slice 3 (Kd.int .i64)) 24 W base (fun k => oki k ∧ gt k = true) v1 y.f1) => markIntSS_S w0 W base _ (m1 + (Ax.cntIntS y.f0 : Nat)) (m1 + (Ax.cntIntS y.f0 : Nat) + (Ax.cntIntSS y.f1 : Nat)) v1 y.f1 hB' HBB.out h (by have := HM1.out; have := H0.out; omega) ⟨rfl, by have := HM1.out; have := HM.out; omega⟩
   have HCY := Aside0.mk hcy
   have HR0 := Aside0.mk hR0
   have HS1 := Aside0.mk hS1
   obtain ⟨Ai, ci, rfl⟩ := Kd.R_slice hR0
   obtain ⟨Aj, cj, rfl⟩ := Kd.S_slice hS1
   have X1 := Aside0.mk x1
   have HC1 := Aside0.mk hcall
   have HC2 := Aside0.mk hcall2
   clear hw5 hoki hH hcc hml hlen hcnt hcy hR0 hS1 hv2 hg hgl hcl x1 hcall hcall2
   go_wp2_with (first | (go_at_call 37; refine HC1.out.mono ?_; clear HC1; rintro e w2 ⟨rfl, hR2, hB2, hK2⟩; have HR2 := Aside0.mk hR2; have HB2 := Aside0.mk hB2; have HK2 := Aside0.mk hK2; have x1 := Go.Proofs.YtcengijoicmldaaW.PrintWords.cell_kept X1.out hK2 (fun hs => (HOK.out _ (HR0.out.1 _ hs.symm).1).2 rfl); clear hR2 hB2 hK2))
   go_wp2_with (first | (go_at_call 22; refine (HC2.out w2 HB2.out (Kd.S_kept HS1.out HK2.out (fun k hk hs => by have := (HR0.out.1 k hs.symm).2; rw [hk.2] at this; cases this))).mono ?_; clear HC2; rintro e w3 ⟨rfl, hS3, hB3, hK3⟩; have HS3 := Aside0.mk hS3; have HB3 := Aside0.mk hB3; have HK3 := Aside0.mk hK3; clear hS3 hB3 hK3))
   go_roundg (post.length + 1)
   case measure => have := HG.out; simp at this; omega
   case rel =>
    have hs0 : ∀ k, some k = (Value.slice Ai y.f0.length ci).ownBlock → oki k ∧ gt k = false := fun k hk => HR0.out.1 k hk.symm
    refine ⟨pre ++ [y], post, _, rfl, ?_, ⟨?_⟩, ⟨?_⟩, ⟨Nat.le_refl _⟩, ⟨?_⟩, ⟨?_⟩, HB3⟩
    ·rw [HW5.out]; simp
    ·rw [HM1.out]; simp only [Ax.cntRelationS, Ax.cntOf_snoc, HCY.out]; omega
    ·rw [HL.out]; simp
    ·have k0 := Kd.R_kept HR2.out HK3.out (fun k hk hs => by have := hk.2; rw [hs.2] at this; cases this)
     have hb2 := Kd.H_back (Kd.H_kept (Kd.H_kept HH.out HK2.out (fun k hk hn hs => hn (hs0 k hs).1)) HK3.out (fun k hk hn hs => hn hs.1)) (x' := Ax.mR y m1) (okp := oki) (show kA.M w3 base oki (Ax.mR y m1) [Value.slice Ai y.f0.length ci, Value.slice Aj y.f1.length cj] from ⟨gt, [_], [_], rfl, ⟨_, rfl, k0⟩, ⟨_, rfl, HS3.out⟩⟩) (fun _ h => h)
     rw [Int.toNat_natCast, HM1.out, Ax.mkOf_set] at hb2
     exact hb2
    ·exact (HK.out.then_ HK2.out (fun k hk => .inl (HOK.out k (hs0 k hk).1).1)).then_ HK3.out (fun k hk => .inl (HOK.out k hk.1).1)
theorem markRelationS (w0 w : World) (lo hi : Nat) (m M : Int) (v : Value) (l : List S27) {q : Nat → Prop} (hB : Below w0.heap.size w0 w) (hlo : w0.heap.size ≤ lo) (o : Iv.Ob kA 27 w lo hi q v l) (h0 : 0 ≤ m) (h1 : m + (Ax.cntRelationS l : Nat) = M ∧ M < 9223372036854775807) :
  Calls Try.prog 12 #[v, .int .i64 m] w fun e w' => e = .returned (.int .i64 M) ∧ Iv.Ob kA 27 w' lo hi q v (Ax.mkRelationS l m) ∧ Below w0.heap.size w0 w' ∧ Kept w w' (fun k => lo ≤ k ∧ k < hi) := by
 refine (markRelationS_S w0 w lo _ m M v l hB hlo (Kd.S_bound o.1) h0 h1).mono ?_
 rintro e w' ⟨rfl, h2, h3, h4⟩
 exact ⟨rfl, ⟨Kd.S_mono h2 (fun k hk => hk.1), Nat.le_trans o.2 h4.1⟩, h3, h4.mono (fun k hk => ⟨hk.2.1, hk.1.1⟩)⟩
end Go.Proofs.Ytcengijoicmldaa.Mk

/- How many marks a row of relations takes. No condition. -/
namespace Go.Proofs.Ytcengijoicmldaa.Ax
open Go.RowKit Go.Proofs.Ytcengijoicmldaa.Pr Go.Proofs.Ytcengijoicmldaa.Pl Go.Proofs.YtcengijoicmldaaW.PrintWords Go.Proofs.YtcengijoicmldaaW.PrintLast Go.Proofs.YtcengijoicmldaaW.PrintMore
set_option linter.unusedVariables false
theorem cntRelationS_bd {l : List S37} (h : BdRelationS l) : cntRelationS (l.map cvRelation) ≤ 2305843009213693952 := by
 have h1 := cnt_le (c := cR) 2199023255552 (l.map cvRelation) (fun x hx => by
  obtain ⟨y, hy, rfl⟩ := List.mem_map.1 hx
  exact cntRelation_bd (h.2 y hy).1 (h.2 y hy).2)
 rw [List.length_map] at h1
 exact Nat.le_trans h1 (Nat.mul_le_mul_right 2199023255552 h.1)
end Go.Proofs.Ytcengijoicmldaa.Ax
