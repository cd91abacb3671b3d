/- The law FnExactPutTogether over numbers and lists alone. No condition. -/
import Derived.Test.YtcengijoicmldaaPr0
import Derived.Test.YtcengijoicmldaaPr1
import Derived.Test.YtcengijoicmldaaPr4
import Derived.Test.YtcengijoicmldaaPr7
import Derived.Test.YtcengijoicmldaaMx7
import Derived.Test.YtcengijoicmldaaMerge1
namespace Go.Proofs.Ytcengijoicmldaa.Pu
open Go.RowKit Go.Proofs.Ytcengijoicmldaa.Pr Go.Proofs.Ytcengijoicmldaa.Pl Go.Proofs.Ytcengijoicmldaa.Ax Go.Proofs.Ytcengijoicmldaa.Ops Go.Proofs.YtcengijoicmldaaW.PrintWords Go.Proofs.YtcengijoicmldaaW.PrintLast Go.Proofs.YtcengijoicmldaaW.PrintMore
set_option linter.unusedVariables false
set_option linter.unusedSimpArgs false
theorem rdT_drop {xs ys : List S27} {j : Nat} {y : S27} (h : xs.drop j = y :: ys) : rd_T27 xs (j : Int) = y := by
 obtain ⟨h1, h2, h3⟩ := drop_cons h
 unfold rd_T27
 rw [Int.toNat_natCast, List.getD_eq_getElem?_getD, h2]
 rfl
theorem tp_pair {n : Nat} : ∀ {ts : List (List Int)} {p : Option (List Int)}, tp n p ts = true → ts.Pairwise (fun x y => ltL x y = true) ∧ ∀ q, p = some q → q.length = n → ∀ x ∈ ts, ltL q x = true
 | [], p, _ => ⟨List.Pairwise.nil, by simp⟩
 | t :: ts, p, h => by
  rw [tp_cons] at h
  simp only [Bool.and_eq_true, decide_eq_true_eq] at h
  obtain ⟨⟨⟨h1, _⟩, h2⟩, h3⟩ := h
  obtain ⟨i1, i2⟩ := tp_pair h3
  refine ⟨List.pairwise_cons.2 ⟨i2 t rfl h1, i1⟩, fun q hq hl x hx => ?_⟩
  subst hq
  have hqt : ltL q t = true := by
   rw [← lt_ltL q t (by omega)]
   exact h2
  rcases List.mem_cons.1 hx with e | e
  ·rw [e]; exact hqt
  ·exact ltL_ord.tr _ _ _ hqt (i2 t rfl h1 x e)
theorem gr_tell {ns : List Int} {ts : List (List Int)} (h : gr ns ts = true) : tell ns (risen ltL ts) = (ns, ts, true) := by
 have h2 := h
 simp only [gr, Bool.and_eq_true] at h2
 rw [risen_self ltL_ord (tp_pair h2.2).1]
 unfold tell
 rw [if_pos h]
theorem gr_bd {ns : List Int} {ts : List (List Int)} (h : gr ns ts = true) : BdIntS ns ∧ BdIntSS ts := by
 obtain ⟨h1, h2⟩ := gr_len h
 have h3 := (gr_names h).2
 exact ⟨⟨by omega, fun _ _ => trivial⟩, ⟨by omega, fun e he => ⟨by rw [h3 e he]; omega, fun _ _ => trivial⟩⟩⟩
def ptF : List S27 → List Int → List (List Int) → List Int × List (List Int) × Bool
 | [], a, b => (a, b, true)
 | r :: rs, a, b => if (joV a b r.f0 r.f1).2.2 = true then ptF rs (joV a b r.f0 r.f1).1 (joV a b r.f0 r.f1).2.1 else ([], [], false)
def ptV : List S27 → List Int × List (List Int) × Bool
 | [] => ([], [], false)
 | r :: rs => if win ((r :: rs).length : Int) 1 10 then (if (r :: rs).all (fun x => gr x.f0 x.f1) then ptF rs r.f0 r.f1 else ([], [], false)) else ([], [], false)
theorem ptF_bd : ∀ (l : List S27) (a : List Int) (b : List (List Int)), BdIntS a → BdIntSS b → BdIntS (ptF l a b).1 ∧ BdIntSS (ptF l a b).2.1
 | [], a, b, h0, h1 => ⟨h0, h1⟩
 | r :: rs, a, b, h0, h1 => by
  rw [ptF]
  split
  ·exact ptF_bd rs _ _ (joV_bd _ _ _ _).1 (joV_bd _ _ _ _).2
  ·exact bd_nil
theorem ptS_l1 (xs : List S27) (hx : OkRelationS xs) (hb : xs.length < 1000000) : ∀ (ys : List S27) (j : Nat) (a : List Int) (b : List (List Int)), BdIntS a → BdIntSS b → xs.drop j = ys →
  Ev (fun k => spec_PutTogether.l1 k xs (xs.length : Int) (j : Int) a b) (ptF ys a b)
 | [], j, a, b, h0, h1, h => by
  have h2 := drop_nil h
  refine ev_succ ?_
  simp only [spec_PutTogether.l1]
  simp only [if_neg (show ¬ ((j : Int) < (xs.length : Int)) by omega)]
  exact ev_now rfl
 | y :: ys, j, a, b, h0, h1, h => by
  obtain ⟨i1, i2, i3⟩ := drop_cons h
  have hy := hx.2 y (List.mem_of_getElem? i2)
  refine ev_succ ?_
  simp only [spec_PutTogether.l1]
  simp only [if_pos (show (j : Int) < (xs.length : Int) by omega), if_pos (show (0 : Int) ≤ (j : Int) by omega), rdT_drop h, wrap_succ (show j < 9223372036854775807 by omega)]
  refine Ev.bind (joinS_ev a b y.f0 y.f1 (ok_IntS h0) (ok_IntSS h1) hy.1 hy.2) ?_
  rw [ptF]
  cases hp : (joV a b y.f0 y.f1).2.2
  ·simp only [Bool.false_eq_true, if_false]
   exact ev_now rfl
  ·simp only [if_true]
   exact ptS_l1 xs hx hb ys (j + 1) _ _ (joV_bd _ _ _ _).1 (joV_bd _ _ _ _).2 i3
theorem ptI_l0 (xs : List S27) (hx : OkRelationS xs) (hb : xs.length < 1000000) : ∀ (ys : List S27) (j : Nat) (a : List Int) (b : List (List Int)), BdIntS a → BdIntSS b → xs.drop j = ys →
  Ev (fun k => impl_PutTogether.l0 k true xs (xs.length : Int) (j : Int) a b) (ptF ys a b)
 | [], j, a, b, h0, h1, h => by
  have h2 := drop_nil h
  refine ev_succ ?_
  simp only [impl_PutTogether.l0]
  simp only [if_neg (show ¬ ((j : Int) < (xs.length : Int)) by omega)]
  exact ev_now rfl
 | y :: ys, j, a, b, h0, h1, h => by
  obtain ⟨i1, i2, i3⟩ := drop_cons h
  have hy := hx.2 y (List.mem_of_getElem? i2)
  refine ev_succ ?_
  simp only [impl_PutTogether.l0]
  simp only [if_pos (show (j : Int) < (xs.length : Int) by omega), if_pos (show (0 : Int) ≤ (j : Int) by omega), rdT_drop h, wrap_succ (show j < 9223372036854775807 by omega)]
  refine Ev.bind (joinI_ev a b y.f0 y.f1 (ok_IntS h0) (ok_IntSS h1) hy.1 hy.2) ?_
  rw [ptF]
  cases hp : (joV a b y.f0 y.f1).2.2
  ·simp only [Bool.false_eq_true, if_false]
   exact ev_now rfl
  ·simp only [if_true]
   exact ptI_l0 xs hx hb ys (j + 1) _ _ (joV_bd _ _ _ _).1 (joV_bd _ _ _ _).2 i3
theorem drop_ok {xs : List S27} (h : OkRelationS xs) : OkRelationS (xs.drop 1) := ⟨by have := h.1; rw [List.length_drop]; omega, fun e he => h.2 e (List.mem_of_mem_drop he)⟩
theorem ptS_l0 (x : S27) (xs : List S27) (hx : OkRelationS (x :: xs)) (hb : (x :: xs).length < 1000000) (hx0 : gr x.f0 x.f1 = true) : ∀ (ys : List S27) (j : Nat), (x :: xs).drop j = ys →
  Ev (fun k => spec_PutTogether.l0 k (x :: xs) (x :: xs) ((x :: xs).length : Int) (j : Int)) (if ys.all (fun x => gr x.f0 x.f1) then ptF xs x.f0 x.f1 else ([], [], false))
 | [], j, h => by
  have h2 := drop_nil h
  have hg := gr_len hx0
  have hn := (gr_names hx0).2
  refine ev_succ ?_
  simp only [spec_PutTogether.l0]
  simp only [if_neg (show ¬ ((j : Int) < ((x :: xs).length : Int)) by omega), if_pos (show (0 : Int) < ((x :: xs).length : Int) by simp only [List.length_cons]; omega), if_pos (show (1 : Int) ≤ ((x :: xs).length : Int) by simp only [List.length_cons]; omega), Option.bind_some, List.drop_succ_cons, List.drop_zero, List.all_nil, if_true]
  have e0 : rd_T27 (x :: xs) 0 = x := rfl
  rw [e0]
  refine Ev.bind (l3Tell_ev x.f0 (by omega) x.f0.length (by omega) x.f1 hn (by omega)) ?_
  rw [gr_tell hx0]
  have hbx := gr_bd hx0
  exact ptS_l1 xs (drop_ok hx) (by simp only [List.length_cons] at hb; omega) xs 0 _ _ hbx.1 hbx.2 rfl
 | y :: ys, j, h => by
  obtain ⟨i1, i2, i3⟩ := drop_cons h
  have hy := hx.2 y (List.mem_of_getElem? i2)
  refine ev_succ ?_
  simp only [spec_PutTogether.l0]
  simp only [if_pos (show (j : Int) < ((x :: xs).length : Int) by omega), if_pos (show (0 : Int) ≤ (j : Int) by omega), rdT_drop h, wrap_succ (show j < 9223372036854775807 by omega)]
  refine Ev.bind (sGR_ev y.f0 y.f1 hy.1 hy.2) ?_
  rw [List.all_cons]
  cases hg : gr y.f0 y.f1
  ·simp only [Bool.false_eq_true, if_false, Bool.false_and]
   exact ev_now rfl
  ·simp only [if_true, Bool.true_and]
   exact ptS_l0 x xs hx hb hx0 ys (j + 1) i3
def bdI : Nat → List S27 → Int
 | _, [] => -1
 | j, y :: ys => if gr y.f0 y.f1 then bdI (j + 1) ys else (j : Int)
theorem bdI_all : ∀ (ys : List S27) (j : Nat), decide (bdI j ys ≥ 0) = !(ys.all (fun x => gr x.f0 x.f1))
 | [], j => rfl
 | y :: ys, j => by
  rw [bdI, List.all_cons]
  cases gr y.f0 y.f1
  ·simp
  ·simpa using bdI_all ys (j + 1)
theorem idx_ev (xs : List S27) (hx : OkRelationS xs) : ∀ (ys : List S27) (j : Nat), xs.drop j = ys → Ev (fun k => impl_Relation_58.l0 k xs (xs.length : Int) (j : Int)) (bdI j ys)
 | [], j, h => by
  have h2 := drop_nil h
  refine ev_succ ?_
  simp only [impl_Relation_58.l0]
  simp only [if_neg (show ¬ ((j : Int) < (xs.length : Int)) by omega)]
  exact ev_now rfl
 | y :: ys, j, h => by
  obtain ⟨i1, i2, i3⟩ := drop_cons h
  have hy := hx.2 y (List.mem_of_getElem? i2)
  have hl := hx.1
  refine ev_succ ?_
  simp only [impl_Relation_58.l0, impl_PutTogether_1.f]
  simp only [if_pos (show (j : Int) < (xs.length : Int) by omega), if_pos (show (0 : Int) ≤ (j : Int) by omega), rdT_drop h, wrap_succ (show j < 9223372036854775807 by omega), Option.bind_assoc, Option.bind_some]
  refine Ev.bind (iGR_ev y.f0 y.f1 hy.1 hy.2) ?_
  rw [bdI]
  cases hg : gr y.f0 y.f1
  ·simp only [Bool.not_false, if_true, Bool.false_eq_true, if_false]
   exact ev_now rfl
  ·simp only [Bool.not_true, if_true, Bool.false_eq_true, if_false]
   exact idx_ev xs hx ys (j + 1) i3
theorem putS_ev : ∀ (l : List S27), OkRelationS l → Ev (fun k => spec_PutTogether.f k l) (ptV l)
 | [], _ => by
  simp only [spec_PutTogether.f, l1In_eq, Option.bind_some]
  exact ev_now rfl
 | x :: xs, hx => by
  simp only [spec_PutTogether.f, l1In_eq, Option.bind_some, ptV]
  cases hw : win ((x :: xs).length : Int) 1 10
  ·simp only [Bool.false_eq_true, if_false]
   exact ev_now rfl
  ·have := (win_iff _ _ _).1 hw
   simp only [if_true]
   cases hg : gr x.f0 x.f1
   ·have hy := hx.2 x (by simp)
    refine ev_succ ?_
    simp only [spec_PutTogether.l0]
    simp only [if_pos (show (0 : Int) < ((x :: xs).length : Int) by omega), if_pos (show (0 : Int) ≤ 0 by omega), show rd_T27 (x :: xs) 0 = x from rfl]
    refine Ev.bind (sGR_ev x.f0 x.f1 hy.1 hy.2) ?_
    simp only [hg, Bool.false_eq_true, if_false, List.all_cons, Bool.false_and]
    exact ev_now rfl
   ·exact ptS_l0 x xs hx (by omega) hg (x :: xs) 0 rfl
theorem putI_ev : ∀ (l : List S27), OkRelationS l → Ev (fun k => impl_PutTogether.f k l) (ptV l)
 | [], _ => by
  simp only [impl_PutTogether.f, within_eq, Option.bind_some]
  refine ev_succ ?_
  simp only [show win ((([] : List S27).length : Nat) : Int) 1 10 = false from rfl, Bool.false_eq_true, if_false, impl_PutTogether.j0, if_true]
  exact ev_now rfl
 | x :: xs, hx => by
  simp only [impl_PutTogether.f, within_eq, Option.bind_some, ptV]
  cases hw : win ((x :: xs).length : Int) 1 10
  ·simp only [Bool.false_eq_true, if_false]
   refine ev_succ ?_
   simp only [impl_PutTogether.j0, if_true]
   exact ev_now rfl
  ·have := (win_iff _ _ _).1 hw
   simp only [if_true, impl_Relation_31.f, impl_Relation_58.f, Option.bind_assoc, Option.bind_some]
   refine Ev.bind (idx_ev (x :: xs) hx (x :: xs) 0 rfl) ?_
   rw [bdI_all]
   refine ev_succ ?_
   simp only [impl_PutTogether.j0]
   cases hg : (x :: xs).all (fun x => gr x.f0 x.f1)
   ·simp only [Bool.not_false, if_true, Bool.false_eq_true, if_false]
    exact ev_now rfl
   ·have hx0 : gr x.f0 x.f1 = true := by
     have := List.all_eq_true.1 hg x (by simp)
     simpa using this
    have hgl := gr_len hx0
    have hbx := gr_bd hx0
    simp only [Bool.not_true, Bool.false_eq_true, if_false, if_true, if_pos (show (0 : Int) < ((x :: xs).length : Int) by omega), if_pos (show (1 : Int) ≤ ((x :: xs).length : Int) by omega), Option.bind_some, List.drop_succ_cons, List.drop_zero, show rd_T27 (x :: xs) 0 = x from rfl]
    rw [related_eq x.f0 (by omega) x.f0.length (by omega) x.f1 (gr_names hx0).2 (by omega), gr_tell hx0]
    simp only [Option.bind_some]
    exact ptI_l0 xs (drop_ok hx) (by simp only [List.length_cons] at this; omega) xs 0 _ _ hbx.1 hbx.2 rfl
theorem ptV_bd : ∀ (l : List S27), BdIntS (ptV l).1 ∧ BdIntSS (ptV l).2.1
 | [] => bd_nil
 | x :: xs => by
  simp only [ptV]
  cases hw : win ((x :: xs).length : Int) 1 10
  ·exact bd_nil
  ·simp only [if_true]
   cases hg : (x :: xs).all (fun x => gr x.f0 x.f1)
   ·exact bd_nil
   ·have hx0 : gr x.f0 x.f1 = true := by
     have := List.all_eq_true.1 hg x (by simp)
     simpa using this
    simp only [if_true]
    exact ptF_bd xs _ _ (gr_bd hx0).1 (gr_bd hx0).2
theorem PutTogether_both (l0 : List S27) (h0 : OkRelationS l0) : ∃ (y0 : List Int) (y1 : List (List Int)) (b : Bool), Ev (fun k => spec_PutTogether.f k l0) (y0, y1, b) ∧ Ev (fun k => impl_PutTogether.f k l0) (y0, y1, b) ∧ BdIntS y0 ∧ BdIntSS y1 :=
 ⟨(ptV l0).1, (ptV l0).2.1, (ptV l0).2.2, putS_ev l0 h0, putI_ev l0 h0, (ptV_bd l0).1, (ptV_bd l0).2⟩
end Go.Proofs.Ytcengijoicmldaa.Pu
