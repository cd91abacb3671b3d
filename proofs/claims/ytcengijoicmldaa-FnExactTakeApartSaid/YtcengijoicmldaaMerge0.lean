/- Several small texts together: A3p, A3t, A3j, A3pr, Am, MkA, MkB, MkBSS, MkI, MkR, MkBRelation, MkRS, MkBRelationS, MkHRelationS. No condition but those they name. -/
import Derived.Test.YtcengijoicmldaaPr2
import Derived.Test.YtcengijoicmldaaPr4
import Derived.Test.YtcengijoicmldaaMerge1
import Derived.Test.YtcengijoicmldaaAe
import Derived.Test.YtcengijoicmldaaERelated
import Derived.Test.YtcengijoicmldaaAc
import Derived.Test.YtcengijoicmldaaPr1
import Derived.Test.YtcengijoicmldaaPl
import Derived.Test.YtcengijoicmldaaIv
import Derived.Test.YtcengijoicmldaaPr0
import Derived.Test.YtcengijoicmldaaRelA
/- What parts of names and the numbers under them tell. Conditions: lengths that Go can hold. -/
namespace Go.Proofs.Ytcengijoicmldaa.Ax
open Go.RowKit Go.Proofs.Ytcengijoicmldaa.Pr Go.Proofs.Ytcengijoicmldaa.Pl Go.Proofs.YtcengijoicmldaaW.PrintWords Go.Proofs.YtcengijoicmldaaW.PrintLast Go.Proofs.YtcengijoicmldaaW.PrintMore
set_option linter.unusedVariables false
set_option linter.unusedSimpArgs false
def pt (ns : List Int) : Option Int → List Int → Bool
  | _, [] => true
  | p, x :: xs => decide (x ∈ ns) && (match p with | none => true | some q => decide (q < x)) && pt ns (some x) xs
theorem pt_nil (ns : List Int) (p : Option Int) : pt ns p [] = true := by cases p <;> rfl
theorem pt_cons (ns : List Int) (p : Option Int) (x : Int) (xs : List Int) : pt ns p (x :: xs) = (decide (x ∈ ns) && (match p with | none => true | some q => decide (q < x)) && pt ns (some x) xs) := by cases p <;> rfl
theorem pt_mem {ns : List Int} : ∀ {l : List Int} {p : Option Int}, pt ns p l = true → ∀ x ∈ l, x ∈ ns
  | [], p, h, x, hx => by simp at hx
  | y :: ys, p, h, x, hx => by
    rw [pt_cons] at h
    simp only [Bool.and_eq_true, decide_eq_true_eq] at h
    rcases List.mem_cons.1 hx with rfl | hx
    · exact h.1.1
    · exact pt_mem h.2 x hx
theorem pt_eq {ns : List Int} (hN : ∀ n ∈ ns, win n 0 20 = true) : ∀ (l : List Int) (p : Option Int), pt ns p l = ((l.all fun x => decide (x ∈ ns)) && rs 0 20 p l)
  | [], p => by rw [pt_nil, rs_nil]; rfl
  | x :: xs, p => by
    rw [pt_cons, rs_cons, List.all_cons, pt_eq hN xs]
    by_cases h : x ∈ ns
    · rw [hN x h, decide_eq_true h]
      cases p <;> cases (xs.all fun x => decide (x ∈ ns)) <;> simp
    · rw [decide_eq_false h]
      rfl
theorem isPart_l0 (ns : List Int) (hn : ns.length < 9223372036854775807) (xs : List Int) (hb : xs.length < 9223372036854775807) : ∀ (ys : List Int) (j : Nat), xs.drop j = ys →
    Ev (fun k => impl_isPart.l0 k xs ns xs (xs.length : Int) (j : Int)) (pt ns (if j = 0 then none else some (rd xs ((j : Int) - 1))) ys)
  | [], j, h => by
    have h1 := drop_nil h
    refine ev_succ ?_
    simp only [impl_isPart.l0]
    simp only [if_neg (show ¬ ((j : Int) < (xs.length : Int)) by omega)]
    exact ev_now (pt_nil _ _).symm
  | y :: ys, j, h => by
    obtain ⟨h1, h2, h3⟩ := drop_cons h
    have ih := isPart_l0 ns hn xs hb ys (j + 1) h3
    have ep : rd xs (((j + 1 : Nat) : Int) - 1) = y := by rw [show ((j + 1 : Nat) : Int) - 1 = (j : Int) by omega]; exact rd_drop h
    rw [if_neg (by omega), ep] at ih
    refine ev_succ ?_
    simp only [impl_isPart.l0]
    simp only [if_pos (show (j : Int) < (xs.length : Int) by omega), if_pos (show (0 : Int) ≤ (j : Int) by omega), rd_drop h, wrap_succ (show j < 9223372036854775807 by omega)]
    refine Ev.bind (has_ev ns y hn) ?_
    rw [pt_cons]
    by_cases e : y ∈ ns
    · simp only [decide_eq_true e, if_true]
      by_cases hj : j = 0
      · subst hj
        simp only [if_neg (show ¬ (((0 : Nat) : Int) > 0) by omega)]
        simpa using ih
      · simp only [if_pos (show (j : Int) > 0 by omega), wrap_in (show -9223372036854775808 ≤ (j : Int) - 1 by omega) (show (j : Int) - 1 < 9223372036854775808 by omega), if_pos (show 0 ≤ (j : Int) - 1 by omega), if_pos (show (j : Int) - 1 < (xs.length : Int) by omega), if_neg hj]
        by_cases hk : rd xs ((j : Int) - 1) ≥ y
        · simp only [if_pos hk]
          exact ev_now (by simp; intro h; omega)
        · simp only [if_neg hk]
          simpa [show rd xs ((j : Int) - 1) < y by omega] using ih
    · simp only [decide_eq_false e, Bool.false_eq_true, if_false]
      exact ev_now (by simp)
theorem isPart_ev (xs ns : List Int) (hb : xs.length < 9223372036854775807) (hn : ns.length < 9223372036854775807) : Ev (fun k => impl_isPart.f k xs ns) (pt ns none xs) := isPart_l0 ns hn xs hb xs 0 rfl
theorem l3Sub_l0 (ns : List Int) (hn : ns.length < 9223372036854775807) (zs : List Int) (hz : zs.length < 9223372036854775807) (xs : List Int) (hb : xs.length < 9223372036854775807) : ∀ (ys : List Int) (j : Nat), xs.drop j = ys →
    Ev (fun k => spec_l3Sub.l0 k ns zs xs (xs.length : Int) (j : Int)) ((ys.all fun x => decide (x ∈ ns)) && rs 0 20 none zs)
  | [], j, h => by
    have h1 := drop_nil h
    refine ev_succ ?_
    simp only [spec_l3Sub.l0]
    simp only [if_neg (show ¬ ((j : Int) < (xs.length : Int)) by omega)]
    exact Ev.bind (l1Rising_ev zs 0 20 hz) (ev_now (by simp))
  | y :: ys, j, h => by
    obtain ⟨h1, h2, h3⟩ := drop_cons h
    have ih := l3Sub_l0 ns hn zs hz xs hb ys (j + 1) h3
    refine ev_succ ?_
    simp only [spec_l3Sub.l0]
    simp only [if_pos (show (j : Int) < (xs.length : Int) by omega), if_pos (show (0 : Int) ≤ (j : Int) by omega), rd_drop h, wrap_succ (show j < 9223372036854775807 by omega)]
    refine Ev.bind (at_ev ns y hn) ?_
    by_cases e : y ∈ ns
    · have := (ix_in e).1
      simp only [if_neg (show ¬ ix ns y < 0 by omega)]
      simpa [e] using ih
    · rw [ix_out e]
      simp only [if_pos (show (-1 : Int) < 0 by omega)]
      exact ev_now (by simp [e])
theorem l3Sub_ev (ns xs : List Int) (hn : ns.length < 9223372036854775807) (hb : xs.length < 9223372036854775807) : Ev (fun k => spec_l3Sub.f k ns xs) ((xs.all fun x => decide (x ∈ ns)) && rs 0 20 none xs) := l3Sub_l0 ns hn xs hb xs hb xs 0 rfl
end Go.Proofs.Ytcengijoicmldaa.Ax

/- The relation of tuples in any order, on both sides. Conditions: tuples of one length; lengths that Go can hold. -/
namespace Go.Proofs.Ytcengijoicmldaa.Ax
open Go.RowKit Go.Proofs.Ytcengijoicmldaa.Pr Go.Proofs.Ytcengijoicmldaa.Pl Go.Proofs.YtcengijoicmldaaW.PrintWords Go.Proofs.YtcengijoicmldaaW.PrintLast Go.Proofs.YtcengijoicmldaaW.PrintMore
set_option linter.unusedVariables false
set_option linter.unusedSimpArgs false
theorem lt_ltL : ∀ a b : List Int, a.length = b.length → lt a b = ltL a b
  | [], [], _ => by simp [lt, ltL, cmpL]
  | [], _ :: _, h => by simp at h
  | _ :: _, [], h => by simp at h
  | x :: xs, y :: ys, h => by
    have ih := lt_ltL xs ys (by simpa using h)
    simp only [ltL] at ih
    simp only [lt, ltL, cmpL]
    by_cases e : x = y
    · subst e
      simp [ih]
    · rw [if_neg e]
      by_cases e2 : x < y
      · simp [e2]
      · simp [e2, show y < x by omega]
theorem l3Add_l0 (n : Nat) (t : List Int) (ht : t.length = n) (hn : n < 1000000) (l : List (List Int)) (hl : ∀ x ∈ l, x.length = n) (hb : l.length < 1000000) : ∀ (ys : List (List Int)) (j : Nat), l.drop j = ys → j ≤ l.length → (∀ x ∈ l.take j, ltL x t = true) → Ev (fun k => spec_l3Add.l0 k l t (j : Int)) (insB ltL l t)
  | [], j, h, hjl, hp => by
    have hj := drop_nil h
    refine ev_succ ?_
    simp only [spec_l3Add.l0]
    have htk : l.take j = l := List.take_of_length_le hj
    rw [htk] at hp
    have e : insB ltL l t = l ++ [t] := by
      have := insB_split t l [] hp
      simpa [insB] using this
    have hje : j = l.length := by omega
    subst hje
    simp only [if_neg (show ¬ ((l.length : Int) < (l.length : Int)) by omega), Option.bind_some, if_pos (show (0 : Int) ≤ (l.length : Int) by omega), if_pos (show (l.length : Int) ≤ (l.length : Int) by omega), Int.toNat_natCast, List.take_length, List.drop_length, List.length_nil, List.nil_append, List.append_nil, List.length_append, List.length_singleton]
    simp only [if_pos (show 0 + l.length < 5864062014805 by omega), if_pos (show 0 + t.length < 17592186044416 by omega), if_pos (show l.length < 5864062014805 by omega), if_pos (show 0 + l.length + 1 + 0 < 5864062014805 by omega)]
    exact ev_now e.symm
  | y :: ys, j, h, hjl, hp => by
    obtain ⟨i1, i2, i3⟩ := drop_cons h
    have hsplit : l = l.take j ++ (y :: ys) := by rw [← h, List.take_append_drop]
    have hi : insB ltL l t = l.take j ++ insB ltL (y :: ys) t := by
      have := insB_split t (l.take j) (y :: ys) hp
      rwa [← hsplit] at this
    have hyn := hl y (List.mem_of_getElem? i2)
    have htl : (l.take j).length = j := by rw [List.length_take]; omega
    have hdl : (l.drop j).length = l.length - j := List.length_drop
    refine ev_succ ?_
    simp only [spec_l3Add.l0]
    simp only [if_pos (show (j : Int) < (l.length : Int) by omega), if_pos (show (0 : Int) ≤ (j : Int) by omega), rdL1_drop h, wrap_succ (show j < 9223372036854775807 by omega)]
    refine Ev.bind (l3Less_ev y t (by omega) (by omega)) ?_
    rw [lt_ltL y t (by omega)]
    by_cases c1 : ltL y t = true
    · simp only [if_pos c1]
      refine l3Add_l0 n t ht hn l hl hb ys (j + 1) i3 i1 (fun x hx => ?_)
      rw [List.take_add_one, i2] at hx
      rcases List.mem_append.1 hx with hx | hx
      · exact hp x hx
      · have : x = y := by simpa using hx
        rw [this]
        exact c1
    · simp only [if_neg c1]
      refine Ev.bind (same_ev y t (by omega)) ?_
      by_cases c2 : y = t
      · simp only [if_pos (decide_eq_true c2)]
        refine ev_now ?_
        rw [hi, insB, if_neg c1, if_pos c2, ← hsplit]
      · simp only [decide_eq_false c2, Bool.false_eq_true, if_false, Option.bind_some, if_pos (show (j : Int) ≤ (l.length : Int) by omega), Int.toNat_natCast, List.nil_append, List.length_nil, List.length_append, List.length_singleton, htl, hdl]
        simp only [if_pos (show 0 + j < 5864062014805 by omega), if_pos (show 0 + t.length < 17592186044416 by omega), if_pos (show j < 5864062014805 by omega), if_pos (show 0 + j + 1 + (l.length - j) < 5864062014805 by omega)]
        refine ev_now ?_
        rw [hi, insB, if_neg c1, if_neg c2, h]
        simp
theorem l3Add_ev (n : Nat) (t : List Int) (ht : t.length = n) (hn : n < 1000000) (l : List (List Int)) (hl : ∀ x ∈ l, x.length = n) (hb : l.length < 1000000) : Ev (fun k => spec_l3Add.f k l t) (insB ltL l t) := l3Add_l0 n t ht hn l hl hb l 0 rfl (Nat.zero_le _) (by simp)
def tell (names : List Int) (r : List (List Int)) : List Int × List (List Int) × Bool := if gr names r then (names, r, true) else ([], [], false)
theorem insB_len {n : Nat} {l : List (List Int)} {t : List Int} (hl : ∀ x ∈ l, x.length = n) (ht : t.length = n) : ∀ x ∈ insB ltL l t, x.length = n := fun x hx => by
  rcases (mem_insB t x l).1 hx with h | h
  · rw [h]; exact ht
  · exact hl x h
theorem l3Tell_l0 (names : List Int) (hnm : names.length < 1000000) (n : Nat) (hn : n < 1000000) (l : List (List Int)) (hl : ∀ x ∈ l, x.length = n) : ∀ (ys : List (List Int)) (j : Nat) (R : List (List Int)), l.drop j = ys → (∀ x ∈ R, x.length = n) → R.length + ys.length < 1000000 → l.length < 1000000 →
    Ev (fun k => spec_l3Tell.l0 k l (l.length : Int) (j : Int) names R) (tell names (putsB ltL R ys))
  | [], j, R, h, hR, hb, hb2 => by
    have h1 := drop_nil h
    refine ev_succ ?_
    simp only [spec_l3Tell.l0]
    simp only [if_neg (show ¬ ((j : Int) < (l.length : Int)) by omega)]
    refine Ev.bind (sGR_ev names R (LnS_of (by omega)) ⟨by simp at hb; omega, fun e he => LnS_of (by rw [hR e he]; omega)⟩) ?_
    show Ev _ (tell names R)
    unfold tell
    cases gr names R
    · exact ev_now rfl
    · exact ev_now rfl
  | y :: ys, j, R, h, hR, hb, hb2 => by
    obtain ⟨h1, h2, h3⟩ := drop_cons h
    have hy := hl y (List.mem_of_getElem? h2)
    have hlen := insB_length (lt := ltL) y R
    simp only [List.length_cons] at hb
    refine ev_succ ?_
    simp only [spec_l3Tell.l0]
    simp only [if_pos (show (j : Int) < (l.length : Int) by omega), if_pos (show (0 : Int) ≤ (j : Int) by omega), rdL1_drop h, wrap_succ (show j < 9223372036854775807 by omega)]
    refine Ev.bind (l3Add_ev n y hy hn R hR (by omega)) ?_
    exact l3Tell_l0 names hnm n hn l hl ys (j + 1) (insB ltL R y) h3 (insB_len hR hy) (by omega) hb2
theorem l3Tell_ev (names : List Int) (hnm : names.length < 1000000) (n : Nat) (hn : n < 1000000) (l : List (List Int)) (hl : ∀ x ∈ l, x.length = n) (hb : l.length < 1000000) : Ev (fun k => spec_l3Tell.f k names l) (tell names (risen ltL l)) := by
  simp only [spec_l3Tell.f, Option.bind_some, List.nil_append, List.length_nil]
  simp only [if_pos (show 0 + names.length < 17592186044416 by omega)]
  exact l3Tell_l0 names hnm n hn l hl l 0 [] rfl (by simp) (by simpa using hb) hb
theorem related_eq (names : List Int) (hnm : names.length < 1000000) (n : Nat) (hn : n < 1000000) (l : List (List Int)) (hl : ∀ x ∈ l, x.length = n) (hb : l.length < 1000000) : impl_related.f names l = some (tell names (risen ltL l)) := by
  unfold impl_related.f
  rw [if_pos ⟨by omega, by omega, fun t ht => by rw [hl t ht]; omega⟩]
  rfl
theorem gr_len {names : List Int} {r : List (List Int)} (h : gr names r = true) : names.length ≤ 6 ∧ r.length ≤ 60 := by
  simp only [gr, Bool.and_eq_true, decide_eq_true_eq] at h
  exact ⟨h.1.1.1, h.1.2⟩
theorem tell_bd (names : List Int) (r : List (List Int)) (hr : ∀ x ∈ r, x.length ≤ 1000) : (tell names r).1.length ≤ 6 ∧ (tell names r).2.1.length ≤ 60 ∧ ∀ x ∈ (tell names r).2.1, x.length ≤ 1000 := by
  unfold tell
  cases h : gr names r
  · simp
  · have := gr_len h
    exact ⟨this.1, this.2, hr⟩
end Go.Proofs.Ytcengijoicmldaa.Ax

/- Names of good relations. No condition. -/

namespace Go.Proofs.Ytcengijoicmldaa.Ax
open Go.RowKit Go.Proofs.Ytcengijoicmldaa.Pr Go.Proofs.Ytcengijoicmldaa.Pl Go.Proofs.YtcengijoicmldaaW.PrintWords Go.Proofs.YtcengijoicmldaaW.PrintLast Go.Proofs.YtcengijoicmldaaW.PrintMore
set_option linter.unusedVariables false
set_option linter.unusedSimpArgs false
theorem gr_names {ns : List Int} {ts : List (List Int)} (h : gr ns ts = true) : (∀ n ∈ ns, win n 0 20 = true) ∧ ∀ t ∈ ts, t.length = ns.length := by
  simp only [gr, Bool.and_eq_true] at h
  exact ⟨rs_win h.1.1.2, tp_len h.2⟩
theorem rs_rising {lo hi : Int} : ∀ {l : List Int} {p : Option Int}, rs lo hi p l = true → l.Pairwise (· < ·) ∧ (∀ x ∈ l, lo ≤ x ∧ x ≤ hi) ∧ ∀ q, p = some q → ∀ x ∈ l, q < x
  | [], p, _ => ⟨List.Pairwise.nil, by simp, by simp⟩
  | x :: xs, p, h => by
    rw [rs_cons] at h
    simp only [Bool.and_eq_true] at h
    obtain ⟨⟨h1, h2⟩, h3⟩ := h
    obtain ⟨i1, i2, i3⟩ := rs_rising h3
    have hx := (win_iff x lo hi).1 h1
    refine ⟨List.pairwise_cons.2 ⟨i3 x rfl, i1⟩, fun z hz => ?_, fun q hq z hz => ?_⟩
    · rcases List.mem_cons.1 hz with e | e
      · rw [e]; exact hx
      · exact i2 z e
    · subst hq
      have hqx : q < x := by simpa using h2
      rcases List.mem_cons.1 hz with e | e
      · rw [e]; exact hqx
      · have := i3 x rfl z e
        omega
theorem few {l : List Int} (h : l.Pairwise (· < ·)) (hb : ∀ x ∈ l, 0 ≤ x ∧ x ≤ 20) : l.length ≤ 21 := by
  have := rising_len (lo := 0) (hi := 21) h (fun x hx => by have := hb x hx; omega)
  omega
theorem tell_BdS (ns : List Int) (r : List (List Int)) (hr : ∀ x ∈ r, x.length ≤ 1000) : BdIntS (tell ns r).1 ∧ BdIntSS (tell ns r).2.1 := by
  obtain ⟨h1, h2, h3⟩ := tell_bd ns r hr
  exact ⟨⟨by omega, fun _ _ => trivial⟩, ⟨by omega, fun e he => ⟨by have := h3 e he; omega, fun _ _ => trivial⟩⟩⟩
theorem bd_nil : BdIntS [] ∧ BdIntSS [] := ⟨⟨by simp, by simp⟩, ⟨by simp, by simp⟩⟩
theorem pk_length (ns t s : List Int) : (pk ns t s).length = s.length := by simp [pk]
end Go.Proofs.Ytcengijoicmldaa.Ax

/- Project: what both sides come to. Conditions: lengths that Go can hold. -/
namespace Go.Proofs.Ytcengijoicmldaa.Ax
open Go.RowKit Go.Proofs.Ytcengijoicmldaa.Pr Go.Proofs.Ytcengijoicmldaa.Pl Go.Proofs.YtcengijoicmldaaW.PrintWords Go.Proofs.YtcengijoicmldaaW.PrintLast Go.Proofs.YtcengijoicmldaaW.PrintMore
set_option linter.unusedVariables false
set_option linter.unusedSimpArgs false
def prV (ns : List Int) (ts : List (List Int)) (names : List Int) : List Int × List (List Int) × Bool :=
  if gr ns ts then (if pt ns none names then tell names (risen ltL (ts.map fun t => pk ns t names)) else ([], [], false)) else ([], [], false)
theorem projectS_l0 (ns names : List Int) (hn : ns.length < 1000000) (hm : names.length < 1000000) (hx : ∀ x ∈ names, x ∈ ns) (ts : List (List Int)) (ht : ∀ t ∈ ts, t.length = ns.length) (hb : ts.length < 1000000) : ∀ (ys : List (List Int)) (j : Nat) (out : List (List Int)), ts.drop j = ys → out.length ≤ j → j ≤ ts.length → (∀ t ∈ out, t.length = names.length) →
    Ev (fun k => spec_Project.l0 k names out ts (ts.length : Int) (j : Int) ns ts) (tell names (risen ltL (out ++ ys.map fun t => pk ns t names)))
  | [], j, out, h, ho, hj, hl => by
    have h2 := drop_nil h
    refine ev_succ ?_
    simp only [spec_Project.l0]
    simp only [if_neg (show ¬ ((j : Int) < (ts.length : Int)) by omega)]
    refine Ev.bind (l3Tell_ev names hm names.length hm out hl (by omega)) (ev_now ?_)
    rw [List.map_nil, List.append_nil]
  | y :: ys, j, out, h, ho, hj, hl => by
    obtain ⟨i1, i2, i3⟩ := drop_cons h
    have hy := ht y (List.mem_of_getElem? i2)
    refine ev_succ ?_
    simp only [spec_Project.l0]
    simp only [if_pos (show (j : Int) < (ts.length : Int) by omega), if_pos (show (0 : Int) ≤ (j : Int) by omega), rdL1_drop h, wrap_succ (show j < 9223372036854775807 by omega), if_pos (show out.length < 5864062014805 by omega)]
    refine Ev.bind (pick_ev ns y names (by omega) hy (by omega) hx) ?_
    have ih := projectS_l0 ns names hn hm hx ts ht hb ys (j + 1) (out ++ [pk ns y names]) i3 (by simp; omega) i1 (fun t h => by
      rcases List.mem_append.1 h with h | h
      · exact hl t h
      · rw [List.mem_singleton.1 h]; exact pk_length _ _ _)
    simpa using ih
theorem projectS_ev (ns : List Int) (ts : List (List Int)) (names : List Int) (hN : LnS ns) (hT : LnSS ts) (hM : LnS names) : Ev (fun k => spec_Project.f k ns ts names) (prV ns ts names) := by
  have no : Ev (fun k => spec_Project.j0 k names true ns ts) ([], [], false) := by
    refine ev_succ ?_
    simp only [spec_Project.j0, if_true]
    exact ev_now rfl
  simp only [spec_Project.f]
  refine Ev.bind (sGR_ev ns ts hN hT) ?_
  unfold prV
  cases hg : gr ns ts
  · simp only [Bool.false_eq_true, if_false]
    exact no
  · simp only [if_true]
    refine Ev.bind (l3Sub_ev ns names hN.1 hM.1) ?_
    have hpe := pt_eq (gr_names hg).1 names none
    rw [← hpe]
    cases hp : pt ns none names
    · simp only [Bool.not_false, Bool.false_eq_true, if_false]
      exact no
    · simp only [Bool.not_true, if_true]
      refine ev_succ ?_
      simp only [spec_Project.j0, Bool.false_eq_true, if_false]
      have hl := gr_len hg
      have hx := pt_mem hp
      have hfew : names.length ≤ 21 := by
        rw [hpe, Bool.and_eq_true] at hp
        have := rs_rising hp.2
        exact few this.1 this.2.1
      have := projectS_l0 ns names (by omega) (by omega) hx ts (gr_names hg).2 (by omega) ts 0 [] rfl (Nat.le_refl _) (Nat.zero_le _) (by simp)
      simpa using this
theorem projectI_l0 (ns names : List Int) (hn : ns.length < 1000000) (hm : names.length < 1000000) (hx : ∀ x ∈ names, x ∈ ns) (ts : List (List Int)) (ht : ∀ t ∈ ts, t.length = ns.length) (hb : ts.length < 1000000) : ∀ (ys : List (List Int)) (j : Nat) (out : List (List Int)), ts.drop j = ys → out.length ≤ j → j ≤ ts.length → (∀ t ∈ out, t.length = names.length) →
    Ev (fun k => impl_Project.l0 k names out ts (ts.length : Int) (j : Int) ns ts) (tell names (risen ltL (out ++ ys.map fun t => pk ns t names)))
  | [], j, out, h, ho, hj, hl => by
    have h2 := drop_nil h
    refine ev_succ ?_
    simp only [impl_Project.l0]
    simp only [if_neg (show ¬ ((j : Int) < (ts.length : Int)) by omega)]
    simp only [related_eq names hm names.length hm out hl (by omega), Option.bind_some]
    refine ev_now ?_
    rw [List.map_nil, List.append_nil]
  | y :: ys, j, out, h, ho, hj, hl => by
    obtain ⟨i1, i2, i3⟩ := drop_cons h
    have hy := ht y (List.mem_of_getElem? i2)
    refine ev_succ ?_
    simp only [impl_Project.l0]
    simp only [if_pos (show (j : Int) < (ts.length : Int) by omega), if_pos (show (0 : Int) ≤ (j : Int) by omega), rdL1_drop h, wrap_succ (show j < 9223372036854775807 by omega), if_pos (show out.length < 5864062014805 by omega)]
    refine Ev.bind (under_ev ns y names (by omega) hy (by omega) hx) ?_
    have ih := projectI_l0 ns names hn hm hx ts ht hb ys (j + 1) (out ++ [pk ns y names]) i3 (by simp; omega) i1 (fun t h => by
      rcases List.mem_append.1 h with h | h
      · exact hl t h
      · rw [List.mem_singleton.1 h]; exact pk_length _ _ _)
    simpa using ih
theorem projectI_ev (ns : List Int) (ts : List (List Int)) (names : List Int) (hN : LnS ns) (hT : LnSS ts) (hM : LnS names) : Ev (fun k => impl_Project.f k ns ts names) (prV ns ts names) := by
  have no : Ev (fun k => impl_Project.j0 k names true ns ts) ([], [], false) := by
    refine ev_succ ?_
    simp only [impl_Project.j0, if_true]
    exact ev_now rfl
  simp only [impl_Project.f]
  refine Ev.bind (iGR_ev ns ts hN hT) ?_
  unfold prV
  cases hg : gr ns ts
  · simp only [Bool.false_eq_true, if_false]
    exact no
  · simp only [if_true]
    refine Ev.bind (isPart_ev names ns hM.1 hN.1) ?_
    have hpe := pt_eq (gr_names hg).1 names none
    cases hp : pt ns none names
    · simp only [Bool.not_false, Bool.false_eq_true, if_false]
      exact no
    · simp only [Bool.not_true, if_true]
      refine ev_succ ?_
      simp only [impl_Project.j0, Bool.false_eq_true, if_false]
      have hl := gr_len hg
      have hx := pt_mem hp
      have hfew : names.length ≤ 21 := by
        rw [hpe, Bool.and_eq_true] at hp
        have := rs_rising hp.2
        exact few this.1 this.2.1
      have := projectI_l0 ns names (by omega) (by omega) hx ts (gr_names hg).2 (by omega) ts 0 [] rfl (Nat.le_refl _) (Nat.zero_le _) (by simp)
      simpa using this
theorem prV_bd (ns : List Int) (ts : List (List Int)) (names : List Int) : BdIntS (prV ns ts names).1 ∧ BdIntSS (prV ns ts names).2.1 := by
  unfold prV
  cases hg : gr ns ts
  · exact bd_nil
  · simp only [if_true]
    cases hp : pt ns none names
    · exact bd_nil
    · simp only [if_true]
      have hfew : names.length ≤ 21 := by
        rw [pt_eq (gr_names hg).1 names none, Bool.and_eq_true] at hp
        have := rs_rising hp.2
        exact few this.1 this.2.1
      refine tell_BdS _ _ (fun x hx => ?_)
      rw [mem_risen] at hx
      obtain ⟨t, _, rfl⟩ := List.mem_map.1 hx
      rw [pk_length]
      omega
end Go.Proofs.Ytcengijoicmldaa.Ax

/- What the marks in a list of numbers tell. Conditions: marks that Go can hold. -/
namespace Go.Proofs.Ytcengijoicmldaa.Ax
open Go.RowKit Go.Proofs.Ytcengijoicmldaa.Pr Go.Proofs.Ytcengijoicmldaa.Pl Go.Proofs.YtcengijoicmldaaW.PrintWords Go.Proofs.YtcengijoicmldaaW.PrintLast Go.Proofs.YtcengijoicmldaaW.PrintMore
set_option linter.unusedVariables false
set_option linter.unusedSimpArgs false
def mkL : Nat → Int → List Int
  | 0, _ => []
  | n + 1, k => k :: mkL n (k + 1)
theorem mkL_length : ∀ (n : Nat) (k : Int), (mkL n k).length = n
  | 0, _ => rfl
  | n + 1, k => by rw [mkL, List.length_cons, mkL_length n]
theorem mkL_snoc : ∀ (n : Nat) (k : Int), mkL (n + 1) k = mkL n k ++ [k + n]
  | 0, k => by simp [mkL]
  | n + 1, k => by
    rw [mkL, mkL_snoc n (k + 1), mkL]
    simp
    omega
theorem markIntS_l0 (n : Nat) (k0 : Int) (h0 : 0 ≤ k0) (hb : k0 + n < 9223372036854775807) : ∀ (d j : Nat) (xs : List Int), xs.length = n → n - j = d → j ≤ n → xs.take j = mkL j k0 →
    Ev (fun k => laws_markIntS.l0 k xs (k0 + j) (j : Int)) (k0 + n, mkL n k0)
  | 0, j, xs, hl, hd, hj, hp => by
    obtain rfl : j = n := by omega
    refine ev_succ ?_
    simp only [laws_markIntS.l0]
    simp only [if_neg (show ¬ ((j : Int) < (xs.length : Int)) by omega)]
    refine ev_now ?_
    rw [← hp, List.take_of_length_le (by omega)]
  | d + 1, j, xs, hl, hd, hj, hp => by
    refine ev_succ ?_
    simp only [laws_markIntS.l0]
    simp only [if_pos (show (j : Int) < (xs.length : Int) by omega), if_pos (show (0 : Int) ≤ (j : Int) by omega), wrap_succ (show j < 9223372036854775807 by omega), wrap_in (show -9223372036854775808 ≤ k0 + j + 1 by omega) (show k0 + j + 1 < 9223372036854775808 by omega), Int.toNat_natCast]
    have := markIntS_l0 n k0 h0 hb d (j + 1) (xs.set j (k0 + j)) (by simpa using hl) (by omega) (by omega) (by
      rw [mkL_snoc, List.take_add_one, List.getElem?_set_self (by omega), List.take_set_of_le (Nat.le_refl _), hp]
      rfl)
    rwa [show k0 + ((j + 1 : Nat) : Int) = k0 + j + 1 by omega] at this
theorem markIntS_ev (xs : List Int) (k0 : Int) (h0 : 0 ≤ k0) (hb : k0 + xs.length < 9223372036854775807) : Ev (fun k => laws_markIntS.f k xs k0) (k0 + xs.length, mkL xs.length k0) := by
  have := markIntS_l0 xs.length k0 h0 hb xs.length 0 xs rfl (by omega) (by omega) rfl
  simpa [laws_markIntS.f] using this
theorem heldIntS_l0 (xs : List Int) (hx : xs.length < 9223372036854775807) (n : Nat) : ∀ (j : Nat) (k0 : Int), 0 ≤ k0 → k0 + n < 9223372036854775807 → xs.drop j = mkL n k0 →
    Ev (fun k => laws_heldIntS.l0 k xs k0 (j : Int)) (k0 + n) := by
  induction n with
  | zero =>
    intro j k0 h0 hb h
    rw [mkL] at h
    have h1 := drop_nil h
    refine ev_succ ?_
    simp only [laws_heldIntS.l0]
    simp only [if_neg (show ¬ ((j : Int) < (xs.length : Int)) by omega)]
    exact ev_now (by simp)
  | succ n ih =>
    intro j k0 h0 hb h
    rw [mkL] at h
    obtain ⟨h1, h2, h3⟩ := drop_cons h
    refine ev_succ ?_
    simp only [laws_heldIntS.l0]
    simp only [if_pos (show (j : Int) < (xs.length : Int) by omega), if_pos (show (0 : Int) ≤ (j : Int) by omega), rd_drop h, if_true, wrap_succ (show j < 9223372036854775807 by omega), wrap_in (show -9223372036854775808 ≤ k0 + 1 by omega) (show k0 + 1 < 9223372036854775808 by omega)]
    have := ih (j + 1) (k0 + 1) (by omega) (by omega) h3
    rwa [show k0 + 1 + (n : Int) = k0 + ((n + 1 : Nat) : Int) by omega] at this
theorem heldIntS_ev (n : Nat) (k0 : Int) (h0 : 0 ≤ k0) (hb : k0 + n < 9223372036854775807) : Ev (fun k => laws_heldIntS.f k (mkL n k0) k0) (k0 + n) := by
  have := heldIntS_l0 (mkL n k0) (by rw [mkL_length]; omega) n 0 k0 h0 hb rfl
  simpa [laws_heldIntS.f] using this
end Go.Proofs.Ytcengijoicmldaa.Ax

/- What the marks in lists of lists tell: plain words. Conditions: marks that Go can hold. -/

namespace Go.Proofs.Ytcengijoicmldaa.Ax
open Go.RowKit Go.Proofs.Ytcengijoicmldaa.Pr Go.Proofs.Ytcengijoicmldaa.Pl Go.Proofs.YtcengijoicmldaaW.PrintWords Go.Proofs.YtcengijoicmldaaW.PrintLast Go.Proofs.YtcengijoicmldaaW.PrintMore
set_option linter.unusedVariables false
set_option linter.unusedSimpArgs false
def cntIntS (l : List Int) : Nat := l.length
def mkIntS (l : List Int) (m : Int) : List Int := mkL l.length m
theorem mkIntS_length (l : List Int) (m : Int) : (mkIntS l m).length = l.length := mkL_length _ _
def cntOf {α : Type} (c : α → Nat) : List α → Nat
  | [] => 0
  | x :: xs => c x + cntOf c xs
def mkOf {α : Type} (c : α → Nat) (f : α → Int → α) : List α → Int → List α
  | [], _ => []
  | x :: xs, m => f x m :: mkOf c f xs (m + (c x : Nat))
section
variable {α : Type} {c : α → Nat} {f : α → Int → α}
theorem cntOf_snoc : ∀ (xs : List α) (y : α), cntOf c (xs ++ [y]) = cntOf c xs + c y
  | [], y => by simp [cntOf]
  | x :: xs, y => by simp only [List.cons_append, cntOf, cntOf_snoc xs y]; omega
theorem cntOf_append : ∀ (xs ys : List α), cntOf c (xs ++ ys) = cntOf c xs + cntOf c ys
  | [], y => by simp [cntOf]
  | x :: xs, y => by simp only [List.cons_append, cntOf, cntOf_append xs y]; omega
theorem mkOf_length : ∀ (xs : List α) (m : Int), (mkOf c f xs m).length = xs.length
  | [], _ => rfl
  | x :: xs, m => by rw [mkOf, List.length_cons, List.length_cons, mkOf_length xs]
theorem mkOf_snoc : ∀ (xs : List α) (y : α) (m : Int), mkOf c f (xs ++ [y]) m = mkOf c f xs m ++ [f y (m + (cntOf c xs : Nat))]
  | [], y, m => by simp [mkOf, cntOf]
  | x :: xs, y, m => by
    have := mkOf_snoc xs y (m + (c x : Nat))
    simp only [List.cons_append, mkOf, this, cntOf]
    rw [show m + ((c x : Nat) : Int) + ((cntOf c xs : Nat) : Int) = m + ((c x + cntOf c xs : Nat) : Int) by omega]
theorem mkOf_set (pre post : List α) (y : α) (m : Int) : (mkOf c f pre m ++ y :: post).set pre.length (f y (m + (cntOf c pre : Nat))) = mkOf c f (pre ++ [y]) m ++ post := by
  rw [mkOf_snoc, List.set_append_right _ _ (by rw [mkOf_length]; exact Nat.le_refl _), mkOf_length, Nat.sub_self, List.append_assoc]
  rfl
theorem mkOf_at (pre post : List α) (y z : α) (m : Int) : (mkOf c f pre m ++ y :: post).getD pre.length z = y := by
  rw [List.getD_eq_getElem?_getD, List.getElem?_append_right (by rw [mkOf_length]; exact Nat.le_refl _), mkOf_length, Nat.sub_self]
  rfl
end
abbrev cntIntSS : List (List Int) → Nat := cntOf cntIntS
abbrev mkIntSS : List (List Int) → Int → List (List Int) := mkOf cntIntS mkIntS
theorem cnt_le {α : Type} {c : α → Nat} (b : Nat) : ∀ (xs : List α), (∀ x ∈ xs, c x ≤ b) → cntOf c xs ≤ xs.length * b
  | [], _ => by simp [cntOf]
  | x :: xs, h => by
    have h1 := h x (by simp)
    have h2 := cnt_le b xs (fun y hy => h y (by simp [hy]))
    simp only [cntOf, List.length_cons, Nat.succ_mul]
    omega
theorem cntIntSS_le {l : List (List Int)} (h : l.length ≤ 1048576 ∧ ∀ e ∈ l, e.length ≤ 1048576) : cntIntSS l ≤ 1099511627776 := by
  have h1 := cnt_le (c := cntIntS) 1048576 l h.2
  exact Nat.le_trans h1 (Nat.mul_le_mul_right 1048576 h.1)
end Go.Proofs.Ytcengijoicmldaa.Ax

/- How many marks a value takes, and that those of numbers are found again. No condition. -/
namespace Go.Proofs.Ytcengijoicmldaa.Ax
open Go.RowKit Go.Proofs.Ytcengijoicmldaa.Pr Go.Proofs.Ytcengijoicmldaa.Pl Go.Proofs.YtcengijoicmldaaW.PrintWords Go.Proofs.YtcengijoicmldaaW.PrintLast Go.Proofs.YtcengijoicmldaaW.PrintMore
set_option linter.unusedVariables false
theorem cntIntS_bd {l : List Int} (h : BdIntS l) : cntIntS l ≤ 1048576 := h.1
theorem cntIntSS_bd {l : List (List Int)} (h : BdIntSS l) : cntIntSS l ≤ 1099511627776 := cntIntSS_le ⟨h.1, fun e he => (h.2 e he).1⟩
theorem heldIntS_ev' (l : List Int) (m : Int) (h0 : 0 ≤ m) (hb : m + (cntIntS l : Nat) < 9223372036854775807) : Ev (fun k => laws_heldIntS.f k (mkIntS l m) m) (m + (cntIntS l : Nat)) := heldIntS_ev l.length m h0 hb
end Go.Proofs.Ytcengijoicmldaa.Ax

/- The marks in lists of lists are found again. No condition. -/
namespace Go.Proofs.Ytcengijoicmldaa.Ax
open Go.RowKit Go.Proofs.Ytcengijoicmldaa.Pr Go.Proofs.Ytcengijoicmldaa.Pl Go.Proofs.YtcengijoicmldaaW.PrintWords Go.Proofs.YtcengijoicmldaaW.PrintLast Go.Proofs.YtcengijoicmldaaW.PrintMore
set_option linter.unusedVariables false
theorem heldIntSS_l0 (xs : List (List Int)) (hx : xs.length < 9223372036854775807) : ∀ (ys : List (List Int)) (j : Nat) (m : Int), 0 ≤ m → m + (cntIntSS ys : Nat) < 9223372036854775807 → xs.drop j = mkIntSS ys m →
    Ev (fun k => laws_heldIntSS.l0 k xs m (j : Int)) (m + (cntIntSS ys : Nat))
  | [], j, m, h0, hb, h => by
    have h1 := drop_nil h
    refine ev_succ ?_
    simp only [laws_heldIntSS.l0]
    simp only [if_neg (show ¬ ((j : Int) < (xs.length : Int)) by omega)]
    exact ev_now (by simp [cntOf])
  | y :: ys, j, m, h0, hb, h => by
    rw [mkIntSS, mkOf] at h
    obtain ⟨h1, h2, h3⟩ := drop_cons h
    rw [cntIntSS, cntOf] at hb
    refine ev_succ ?_
    simp only [laws_heldIntSS.l0]
    simp only [if_pos (show (j : Int) < (xs.length : Int) by omega), if_pos (show (0 : Int) ≤ (j : Int) by omega), rd_L1_drop h]
    refine Ev.bind (heldIntS_ev' y m h0 (by omega)) ?_
    simp only [if_neg (show ¬ m + (cntIntS y : Nat) < 0 by omega), wrap_succ (show j < 9223372036854775807 by omega)]
    have := heldIntSS_l0 xs hx ys (j + 1) (m + (cntIntS y : Nat)) (by omega) (by show m + (cntIntS y : Nat) + ((cntOf cntIntS ys : Nat) : Int) < _; omega) h3
    rw [cntIntSS, cntOf]
    rwa [show m + (cntIntS y : Nat) + ((cntOf cntIntS ys : Nat) : Int) = m + ((cntIntS y + cntOf cntIntS ys : Nat) : Int) by omega] at this
theorem heldIntSS_ev' (l : List (List Int)) (m : Int) (hl : l.length < 9223372036854775807) (h0 : 0 ≤ m) (hb : m + (cntIntSS l : Nat) < 9223372036854775807) : Ev (fun k => laws_heldIntSS.f k (mkIntSS l m) m) (m + (cntIntSS l : Nat)) := by
  simp only [laws_heldIntSS.f]
  exact heldIntSS_l0 _ (by rw [mkOf_length]; exact hl) l 0 m h0 hb rfl
end Go.Proofs.Ytcengijoicmldaa.Ax

/- The marks in rows of numbers, and in rows of such rows, of the call's own: contracts. Conditions: marks that Go can hold. -/
namespace Go.Proofs.Ytcengijoicmldaa.Mk
open Go.RowKit Go.Proofs.Ytcengijoicmldaa Go.Proofs.Ytcengijoicmldaa.Pr Go.Proofs.Ytcengijoicmldaa.Pl Go.Proofs.YtcengijoicmldaaW.PrintWords Go.Proofs.YtcengijoicmldaaW.PrintLast Go.Proofs.YtcengijoicmldaaW.PrintMore
set_option linter.unusedVariables false
set_option linter.unusedSimpArgs false
theorem R_base_up {k : IntKind} {e b b' : Nat} {w : World} {ok : Nat → Prop} {v : Value} {xs : List Int} (h : (Kd.int k).R e w b ok v xs) (hb : ∀ k, v.ownBlock = some k → b' ≤ k) : (Kd.int k).R e w b' ok v xs :=
  Kd.R_raise (d := Kd.int k) (b := b) (b' := b') (fun _ _ _ _ h_ => h_) h hb
set_option maxHeartbeats 1000000 in
theorem markIntS_R (w0 w : World) (base : Nat) (ok : Nat → Prop) (m M : Int) (v : Value) (l : List Int) (hB : Below w0.heap.size w0 w) (hb : w0.heap.size ≤ base)
    (ho : (Kd.int .i64).R 3 w base ok v l) (h0 : 0 ≤ m) (h1 : m + (Ax.cntIntS l : Nat) = M ∧ M < 9223372036854775807) :
    Calls Try.prog 37 #[v, .int .i64 m] w fun e w' => e = .returned (.int .i64 M) ∧ (Kd.int .i64).R 3 w' base ok v (Ax.mkIntS l m) ∧ Below w0.heap.size w0 w' ∧ Kept w w' (fun k => some k = v.ownBlock) := by
  obtain ⟨rfl, hM⟩ := h1
  obtain ⟨k, hk⟩ := Ev.rounds (Ax.markIntS_ev l m h0 hM)
  refine (laws_markIntS.calls k (fun k => some k = v.ownBlock) v l m _ _ w0 w hB (Kd.R_lower (Kd.R_tight rfl ho) hb) hk).mono ?_
  rintro e w' ⟨rfl, h2, h3, h4⟩
  refine ⟨rfl, ?_, h3, h4⟩
  exact R_base_up (Kd.R_reok rfl h2 (fun k hk => ho.1 k hk)) (fun k hk => Kd.R_base ho k hk)
theorem own_in {α : Type} {d : Kd α} {e lo hi : Nat} {q : Nat → Prop} {w : World} {v : Value} {xs : List α} (o : Iv.Ob d e w lo hi q v xs) : ∀ k, some k = v.ownBlock → lo ≤ k ∧ k < hi := fun k hk => o.lo_le k hk.symm
set_option maxHeartbeats 4000000 in
set_option maxRecDepth 100000 in
theorem markIntSS_S (w0 w : World) (base : Nat) (ok : Nat → Prop) (m M : Int) (v : Value) (l : List (List Int)) (hB : Below w0.heap.size w0 w) (hb : w0.heap.size ≤ base)
    (ho : Kd.S (Kd.slice 3 (Kd.int .i64)) 24 w base ok v l) (h0 : 0 ≤ m) (h1 : m + (Ax.cntIntSS l : Nat) = M ∧ M < 9223372036854775807) :
    Calls Try.prog 22 #[v, .int .i64 m] w fun e w' => e = .returned (.int .i64 M) ∧ Kd.S (Kd.slice 3 (Kd.int .i64)) 24 w' base ok v (Ax.mkIntSS l m) ∧ Below w0.heap.size w0 w' ∧ Kept w w' ok := by
  obtain ⟨A, c, rfl⟩ := Kd.S_slice ho
  obtain ⟨rfl, hM⟩ := h1
  have HN := Aside0.mk (Kd.S_reads' ho).2.2.2.1
  have HO := Aside0.mk ho
  have HB := Aside0.mk hB
  have HBB := Aside0.mk hb
  have H0 := Aside0.mk h0
  have HM := Aside0.mk hM
  clear ho hB hb h0 hM
  go_enter Try.func22, Try.ntmps22
  go_wp2
  go_loopg [1, 5] (l.length + 1) (fun gg v1 v5 wr => ∃ (pre post : List (List Int)) (m1 : Int), v1 = .int .i64 m1 ∧ v5 = .int .i64 (pre.length : Nat) ∧ Aside0 (m1 = m + (Ax.cntIntSS pre : Nat)) ∧ Aside0 (l = pre ++ post) ∧ Aside0 (post.length + 1 ≤ gg) ∧
    Aside0 (Kd.S (Kd.slice 3 (Kd.int .i64)) 24 wr base ok (.slice A l.length c) (Ax.mkIntSS pre m ++ post)) ∧ Aside0 (Kept w wr ok) ∧ Aside0 (Below w0.heap.size w0 wr))
  case atStart => exact ⟨[], l, m, rfl, rfl, ⟨by simp [Ax.cntOf]⟩, ⟨rfl⟩, ⟨Nat.le_refl _⟩, HO, ⟨Kept.refl _ _⟩, HB⟩
  case round =>
    clear HO HB
    obtain ⟨pre, post, m1, rfl, rfl, HM1, HL, HG, HO, HK, HB⟩ := hrel
    cases post with
    | nil =>
      have hlen : l.length = pre.length := by rw [HL.out]; simp
      have h1 : ¬ ((pre.length : Nat) : Int) < (l.length : Int) := by omega
      have hE : pre = l := by rw [HL.out]; simp
      have HE := Aside0.mk hE
      clear hE hlen
      go_wp2
      go_ret
      refine ⟨?_, ?_, HB.out, HK.out⟩
      · rw [HM1.out, HE.out]
        rfl
      · have := HO.out
        rwa [HE.out, List.append_nil] at this
    | cons y post =>
      have hlen : l.length = pre.length + (post.length + 1) := by rw [HL.out]; simp
      have h1 : ((pre.length : Nat) : Int) < (l.length : Int) := by omega
      have hml : (Ax.mkIntSS pre m ++ y :: post).length = l.length := by rw [List.length_append, Ax.mkOf_length, hlen]; rfl
      obtain ⟨g, cap, hv, hg, hgl, _, _⟩ := Kd.S_form HO.out (by omega)
      injection hv with hv1 hv2 hv3
      subst hv1; subst hv3
      obtain ⟨oki, cs, hcl, hMd, hcc, hoki, hH⟩ := Kd.S_lend HO.out ([] : List Int) ((pre.length : Nat) : Int) (by omega) (by omega)
      obtain ⟨vi, rfl, hR⟩ := hMd
      have x0 := hcc 0 vi rfl
      simp only [Int.toNat_natCast, show (Kd.slice 3 (Kd.int .i64)).sz = 1 from rfl, Nat.mul_one, Nat.add_zero] at x0
      rw [Int.toNat_natCast, Ax.mkOf_at] at hR
      have hcnt : Ax.cntIntSS l = Ax.cntIntSS pre + (Ax.cntIntS y + Ax.cntIntSS post) := by rw [HL.out]; exact Ax.cntOf_append pre (y :: post)
      have hw5 : wrap64 (((pre.length : Nat) : Int) + 1) = ((pre.length + 1 : Nat) : Int) := Pl.wrap_succ (by have := HN.out; omega)
      have HW5 := Aside0.mk hw5
      have HOK := Aside0.mk hoki
      have HH := Aside0.mk hH
      have HLN := Aside0.mk hlen
      have hcall := markIntS_R w0 wr base oki m1 (m1 + (Ax.cntIntS y : Nat)) vi y HB.out HBB.out hR (by have := HM1.out; have := H0.out; omega) ⟨rfl, by have := HM1.out; have := HM.out; omega⟩
      have HR := Aside0.mk hR
      obtain ⟨Ai, ci, rfl⟩ := Kd.R_slice hR
      clear hw5 hoki hH hcc hml hlen hcnt hR hv2 hg hgl hcl
      go_wp2_with (first | (go_at_call 37; refine hcall.mono ?_; rintro e w2 ⟨rfl, hR2, hB2, hK2⟩; have HR2 := Aside0.mk hR2; have HB2 := Aside0.mk hB2; have HK2 := Aside0.mk hK2; clear hR2 hB2 hK2 hcall))
      go_roundg (post.length + 1)
      case measure => have := HG.out; simp at this; omega
      case rel =>
        have hsub : ∀ k, some k = (Value.slice Ai y.length ci).ownBlock → oki k := fun k hk => HR.out.1 k hk.symm
        refine ⟨pre ++ [y], post, _, rfl, ?_, ⟨?_⟩, ⟨?_⟩, ⟨Nat.le_refl _⟩, ⟨?_⟩, ⟨?_⟩, HB2⟩
        · rw [HW5.out]; simp
        · rw [HM1.out]; simp only [Ax.cntIntSS, Ax.cntOf_snoc]; omega
        · rw [HL.out]; simp
        · have hb2 := Kd.H_back (Kd.H_kept HH.out (S := fun k => some k = (Value.slice Ai y.length ci).ownBlock) HK2.out (fun k hk hn hs => hn (hsub k hs))) (x' := Ax.mkIntS y m1) (okp := oki) ⟨_, rfl, HR2.out⟩ (fun _ h => h)
          rw [Int.toNat_natCast, HM1.out, Ax.mkOf_set] at hb2
          exact hb2
        · exact HK.out.then_ HK2.out (fun k hk => .inl (HOK.out k (hsub k hk)).1)
theorem markIntSS (w0 w : World) (lo hi : Nat) (m M : Int) (v : Value) (l : List (List Int)) {q : Nat → Prop} (hB : Below w0.heap.size w0 w) (hlo : w0.heap.size ≤ lo) (o : Iv.Ob (Kd.slice 3 (Kd.int .i64)) 24 w lo hi q v l) (h0 : 0 ≤ m) (h1 : m + (Ax.cntIntSS l : Nat) = M ∧ M < 9223372036854775807) :
    Calls Try.prog 22 #[v, .int .i64 m] w fun e w' => e = .returned (.int .i64 M) ∧ Iv.Ob (Kd.slice 3 (Kd.int .i64)) 24 w' lo hi q v (Ax.mkIntSS l m) ∧ Below w0.heap.size w0 w' ∧ Kept w w' (fun k => lo ≤ k ∧ k < hi) := by
  refine (markIntSS_S w0 w lo _ m M v l hB hlo (Kd.S_bound o.1) h0 h1).mono ?_
  rintro e w' ⟨rfl, h2, h3, h4⟩
  exact ⟨rfl, ⟨Kd.S_mono h2 (fun k hk => hk.1), Nat.le_trans o.2 h4.1⟩, h3, h4.mono (fun k hk => ⟨hk.2.1, hk.1.1⟩)⟩
theorem ob_of {lo hi : Nat} {q : Nat → Prop} {w w' : World} {v : Value} {l l' : List Int} (o : Iv.Ob (Kd.int .i64) 3 w lo hi q v l) (h : (Kd.int .i64).R 3 w' lo (fun k => some k = v.ownBlock) v l') (hs : w.heap.size ≤ w'.heap.size) : Iv.Ob (Kd.int .i64) 3 w' lo hi q v l' :=
  ⟨Kd.S_bare (d := Kd.int .i64) (show (Kd.bare (Kd.int .i64)).R 3 w' lo _ v l' from Kd.R_reok rfl h (fun k hk => o.R.1 k hk)), Nat.le_trans o.2 hs⟩
theorem Ob_tight {lo hi : Nat} {q : Nat → Prop} {w : World} {v : Value} {l : List Int} (o : Iv.Ob (Kd.int .i64) 3 w lo hi q v l) : (Kd.int .i64).R 3 w lo (fun k => some k = v.ownBlock) v l := Kd.R_tight rfl o.R
end Go.Proofs.Ytcengijoicmldaa.Mk

/- The marks in a relation of the call's own: contract. Conditions: marks that Go can hold. -/

namespace Go.Proofs.Ytcengijoicmldaa.Ax
set_option linter.unusedVariables false
abbrev cntRelation (l0 : List Int) (l1 : List (List Int)) : Nat := cntIntS l0 + cntIntSS l1
abbrev mkRelation_0 (l0 : List Int) (l1 : List (List Int)) (m : Int) : List Int := mkIntS l0 m
abbrev mkRelation_1 (l0 : List Int) (l1 : List (List Int)) (m : Int) : List (List Int) := mkIntSS l1 (m + (cntIntS l0 : Nat))
end Go.Proofs.Ytcengijoicmldaa.Ax
namespace Go.Proofs.Ytcengijoicmldaa.Mk
open Go.RowKit Go.Proofs.Ytcengijoicmldaa Go.Proofs.Ytcengijoicmldaa.Pr Go.Proofs.Ytcengijoicmldaa.Pl Go.Proofs.YtcengijoicmldaaW.PrintWords Go.Proofs.YtcengijoicmldaaW.PrintLast Go.Proofs.YtcengijoicmldaaW.PrintMore
set_option linter.unusedVariables false
set_option linter.unusedSimpArgs false
set_option maxHeartbeats 4000000 in
set_option maxRecDepth 100000 in
theorem markRelation (w0 w : World) (lo hi : Nat) (m M : Int) (v0 v1 : Value) (l0 : List Int) (l1 : List (List Int)) {q0 : Nat → Prop} (hB : Below w0.heap.size w0 w) (hlo : w0.heap.size ≤ lo)
    (o0 : Iv.Ob (Kd.int .i64) 3 w lo hi q0 v0 l0) (o1 : Iv.Ob (Kd.slice 3 (Kd.int .i64)) 24 w lo hi (fun k => some k ≠ v0.ownBlock) v1 l1)
    (h0 : 0 ≤ m) (h1 : m + (Ax.cntRelation l0 l1 : Nat) = M ∧ M < 9223372036854775807) :
    Calls Try.prog 13 #[.agg #[v0, v1], .int .i64 m] w fun e w' => e = .returned (.int .i64 M) ∧ Iv.Ob (Kd.int .i64) 3 w' lo hi q0 v0 (Ax.mkRelation_0 l0 l1 m) ∧ Iv.Ob (Kd.slice 3 (Kd.int .i64)) 24 w' lo hi (fun k => some k ≠ v0.ownBlock) v1 (Ax.mkRelation_1 l0 l1 m) ∧
      Below w0.heap.size w0 w' ∧ Kept w w' (fun k => lo ≤ k ∧ k < hi) := by
  obtain ⟨hM1, hM2⟩ := h1
  unfold Ax.cntRelation at hM1
  obtain ⟨A0, k0, rfl⟩ := o0.slice
  obtain ⟨A1, k1, rfl⟩ := o1.slice
  have hal := below_alloc (Below.refl w.heap.size w) (.cells #[.slice A0 l0.length k0, .slice A1 l1.length k1] 27)
  have x1 := Bx.box_new w #[.slice A0 l0.length k0, .slice A1 l1.length k1] 27 1 (.slice A1 l1.length k1) rfl
  have c2 := markIntS_R w0 _ lo _ m (m + (Ax.cntIntS l0 : Nat)) (.slice A0 l0.length k0) l0 (below_then hB hB.size hal) hlo (Kd.R_below (Ob_tight o0) hal) h0 ⟨rfl, by omega⟩
  have c3 := fun (W : World) (hB' : Below w0.heap.size w0 W) (h : Kd.S (Kd.slice 3 (Kd.int .i64)) 24 W lo (fun k => (k < hi ∧ some k ≠ (Value.slice A0 l0.length k0).ownBlock) ∧ lo ≤ k) (.slice A1 l1.length k1) l1) => markIntSS_S w0 W lo _ (m + (Ax.cntIntS l0 : Nat)) M (.slice A1 l1.length k1) l1 hB' hlo h (by omega) ⟨by omega, hM2⟩
  have q1 := Kd.S_mono (ok' := fun k => (k < hi ∧ some k ≠ (Value.slice A0 l0.length k0).ownBlock) ∧ lo ≤ k) (Kd.S_below (Kd.S_bound o1.1) hal) (fun k hk => ⟨hk.1, hk.2.1⟩)
  have kw := Kept.of_below hal (fun k => lo ≤ k ∧ k < hi)
  have hhi := o0.2
  have C2 := Aside0.mk c2
  have C3 := Aside0.mk c3
  have O0 := Aside0.mk o0
  have Q1 := Aside0.mk q1
  have X1 := Aside0.mk x1
  have HHI := Aside0.mk hhi
  have KW := Aside0.mk kw
  clear hB hlo o0 o1 q1 h0 hM1 hM2 c2 c3 x1 hal hhi kw
  go_enter Try.func13, Try.ntmps13
  go_wp2_with (first | (go_at_call 37; refine C2.out.mono ?_; clear C2; rintro e w1 ⟨rfl, hR, hB1, hK1⟩; have HR0 := Aside0.mk hR; have HB1 := Aside0.mk hB1; have HK1 := Aside0.mk hK1; have y1 := cell_kept X1.out hK1 (fun hs => absurd (show w.heap.size < hi from (own_in O0.out _ hs).2) (Nat.not_lt.2 HHI.out)); clear hR hB1 hK1))
  go_wp2_with (first | (go_at_call 22; refine (C3.out w1 HB1.out (Kd.S_kept Q1.out HK1.out (fun k hk hs => hk.1.2 hs))).mono ?_; clear C3; rintro e w2 ⟨rfl, hS, hB2, hK2⟩; have HS1 := Aside0.mk hS; have HB2 := Aside0.mk hB2; have HK2 := Aside0.mk hK2; clear hS hB2 hK2))
  go_ret
  have hsz : w.heap.size ≤ w2.heap.size := Nat.le_trans KW.out.1 (Nat.le_trans HK1.out.1 HK2.out.1)
  refine ⟨rfl, ob_of O0.out ?_ hsz, ⟨Kd.S_mono HS1.out (fun k hk => hk.1), Nat.le_trans O0.out.2 hsz⟩, HB2.out, ?_⟩
  · exact Kd.R_kept HR0.out HK2.out (fun k hk hs => hs.1.2 hk)
  · exact (KW.out.then_ HK1.out (fun k hk => .inl (own_in O0.out k hk))).then_ HK2.out (fun k hk => .inl ⟨hk.2, hk.1.1⟩)
end Go.Proofs.Ytcengijoicmldaa.Mk

/- How many marks a relation takes. No condition. -/

namespace Go.Proofs.Ytcengijoicmldaa.Ax
open Go.RowKit Go.Proofs.Ytcengijoicmldaa.Pr Go.Proofs.Ytcengijoicmldaa.Pl Go.Proofs.YtcengijoicmldaaW.PrintWords Go.Proofs.YtcengijoicmldaaW.PrintLast Go.Proofs.YtcengijoicmldaaW.PrintMore
set_option linter.unusedVariables false
theorem cntRelation_bd {l0 : List Int} {l1 : List (List Int)} (h0 : BdIntS l0) (h1 : BdIntSS l1) : cntRelation l0 l1 ≤ 2199023255552 := by
  have := cntIntS_bd h0
  have := cntIntSS_bd h1
  unfold cntRelation
  omega
end Go.Proofs.Ytcengijoicmldaa.Ax

/- The marks in a row of relations of the call's own, whose parts lie apart: contract. Conditions: marks that Go can hold. -/
namespace Go.Proofs.Ytcengijoicmldaa.Ax
set_option linter.unusedVariables false
open Go.Proofs.Ytcengijoicmldaa.Pr
def cR (d : S27) : Nat := cntRelation d.f0 d.f1
def mR (d : S27) (m : Int) : S27 := ⟨mkRelation_0 d.f0 d.f1 m, mkRelation_1 d.f0 d.f1 m⟩
abbrev cntRelationS : List S27 → Nat := cntOf cR
abbrev mkRelationS : List S27 → Int → List S27 := mkOf cR mR
end Go.Proofs.Ytcengijoicmldaa.Ax
namespace Go.Proofs.Ytcengijoicmldaa.Mk
open Go.RowKit Go.Proofs.Ytcengijoicmldaa Go.Proofs.Ytcengijoicmldaa.Pr Go.Proofs.Ytcengijoicmldaa.Pl Go.Proofs.YtcengijoicmldaaW.PrintWords Go.Proofs.YtcengijoicmldaaW.PrintLast Go.Proofs.YtcengijoicmldaaW.PrintMore
set_option linter.unusedVariables false
set_option linter.unusedSimpArgs false
set_option maxHeartbeats 4000000 in
set_option maxRecDepth 100000 in
theorem markRelationS_S (w0 w : World) (base : Nat) (ok : Nat → Prop) (m M : Int) (v : Value) (l : List S27) (hB : Below w0.heap.size w0 w) (hb : w0.heap.size ≤ base)
    (ho : Kd.S kA 27 w base ok v l) (h0 : 0 ≤ m) (h1 : m + (Ax.cntRelationS l : Nat) = M ∧ M < 9223372036854775807) :
    Calls Try.prog 12 #[v, .int .i64 m] w fun e w' => e = .returned (.int .i64 M) ∧ Kd.S kA 27 w' base ok v (Ax.mkRelationS l m) ∧ Below w0.heap.size w0 w' ∧ Kept w w' ok := by
  obtain ⟨A, c, rfl⟩ := Kd.S_slice ho
  obtain ⟨rfl, hM⟩ := h1
  have HN := Aside0.mk (Kd.S_reads' ho).2.2.2.1
  have HO := Aside0.mk ho
  have HB := Aside0.mk hB
  have HBB := Aside0.mk hb
  have H0 := Aside0.mk h0
  have HM := Aside0.mk hM
  clear ho hB hb h0 hM
  go_enter Try.func12, Try.ntmps12
  go_wp2
  go_loopg [1, 5] (l.length + 1) (fun gg v1 v5 wr => ∃ (pre post : List S27) (m1 : Int), v1 = .int .i64 m1 ∧ v5 = .int .i64 (pre.length : Nat) ∧ Aside0 (m1 = m + (Ax.cntRelationS pre : Nat)) ∧ Aside0 (l = pre ++ post) ∧ Aside0 (post.length + 1 ≤ gg) ∧
    Aside0 (Kd.S kA 27 wr base ok (.slice A l.length c) (Ax.mkRelationS pre m ++ post)) ∧ Aside0 (Kept w wr ok) ∧ Aside0 (Below w0.heap.size w0 wr))
  case atStart => exact ⟨[], l, m, rfl, rfl, ⟨by simp [Ax.cntOf]⟩, ⟨rfl⟩, ⟨Nat.le_refl _⟩, HO, ⟨Kept.refl _ _⟩, HB⟩
  case round =>
    clear HO HB
    obtain ⟨pre, post, m1, rfl, rfl, HM1, HL, HG, HO, HK, HB⟩ := hrel
    cases post with
    | nil =>
      have hlen : l.length = pre.length := by rw [HL.out]; simp
      have h1 : ¬ ((pre.length : Nat) : Int) < (l.length : Int) := by omega
      have hE : pre = l := by rw [HL.out]; simp
      have HE := Aside0.mk hE
      clear hE hlen
      go_wp2
      go_ret
      refine ⟨?_, ?_, HB.out, HK.out⟩
      · rw [HM1.out, HE.out]
        rfl
      · have := HO.out
        rwa [HE.out, List.append_nil] at this
    | cons y post =>
      have hlen : l.length = pre.length + (post.length + 1) := by rw [HL.out]; simp
      have h1 : ((pre.length : Nat) : Int) < (l.length : Int) := by omega
      have hml : (Ax.mkRelationS pre m ++ y :: post).length = l.length := by rw [List.length_append, Ax.mkOf_length, hlen]; rfl
      obtain ⟨g, cap, hv, hg, hgl, _, _⟩ := Kd.S_form HO.out (by omega)
      injection hv with hv1 hv2 hv3
      subst hv1; subst hv3
      obtain ⟨oki, cs, hcl, hMd, hcc, hoki, hH⟩ := Kd.S_lend HO.out (z27 : S27) ((pre.length : Nat) : Int) (by omega) (by omega)
      rw [Int.toNat_natCast, Ax.mkOf_at] at hMd
      obtain ⟨gt, c0_, c1_, rfl, ⟨v0, rfl, hR0⟩, ⟨v1, rfl, hS1⟩⟩ := hMd
      have x0 := hcc 0 v0 rfl
      have x1 := hcc 1 v1 rfl
      simp only [Int.toNat_natCast, show kA.sz = 2 from rfl, Nat.add_zero] at x0 x1
      have hcnt : Ax.cntRelationS l = Ax.cntRelationS pre + (Ax.cR y + Ax.cntRelationS post) := by rw [HL.out]; exact Ax.cntOf_append pre (y :: post)
      have hcy : Ax.cR y = Ax.cntIntS y.f0 + Ax.cntIntSS y.f1 := rfl
      have hw5 : wrap64 (((pre.length : Nat) : Int) + 1) = ((pre.length + 1 : Nat) : Int) := Pl.wrap_succ (by have := HN.out; omega)
      have HW5 := Aside0.mk hw5
      have HOK := Aside0.mk hoki
      have HH := Aside0.mk hH
      have HLN := Aside0.mk hlen
      have hcall := markIntS_R w0 wr base _ m1 (m1 + (Ax.cntIntS y.f0 : Nat)) v0 y.f0 HB.out HBB.out hR0 (by have := HM1.out; have := H0.out; omega) ⟨rfl, by have := HM1.out; have := HM.out; omega⟩
      have hcall2 := fun (W : World) (hB' : Below w0.heap.size w0 W) (h : Kd.S (Kd.slice 3 (Kd.int .i64)) 24 W base (fun k => oki k ∧ gt k = true) v1 y.f1) => markIntSS_S w0 W base _ (m1 + (Ax.cntIntS y.f0 : Nat)) (m1 + (Ax.cntIntS y.f0 : Nat) + (Ax.cntIntSS y.f1 : Nat)) v1 y.f1 hB' HBB.out h (by have := HM1.out; have := H0.out; omega) ⟨rfl, by have := HM1.out; have := HM.out; omega⟩
      have HCY := Aside0.mk hcy
      have HR0 := Aside0.mk hR0
      have HS1 := Aside0.mk hS1
      obtain ⟨Ai, ci, rfl⟩ := Kd.R_slice hR0
      obtain ⟨Aj, cj, rfl⟩ := Kd.S_slice hS1
      have X1 := Aside0.mk x1
      have HC1 := Aside0.mk hcall
      have HC2 := Aside0.mk hcall2
      clear hw5 hoki hH hcc hml hlen hcnt hcy hR0 hS1 hv2 hg hgl hcl x1 hcall hcall2
      go_wp2_with (first | (go_at_call 37; refine HC1.out.mono ?_; clear HC1; rintro e w2 ⟨rfl, hR2, hB2, hK2⟩; have HR2 := Aside0.mk hR2; have HB2 := Aside0.mk hB2; have HK2 := Aside0.mk hK2; have x1 := Go.Proofs.YtcengijoicmldaaW.PrintWords.cell_kept X1.out hK2 (fun hs => (HOK.out _ (HR0.out.1 _ hs.symm).1).2 rfl); clear hR2 hB2 hK2))
      go_wp2_with (first | (go_at_call 22; refine (HC2.out w2 HB2.out (Kd.S_kept HS1.out HK2.out (fun k hk hs => by have := (HR0.out.1 k hs.symm).2; rw [hk.2] at this; cases this))).mono ?_; clear HC2; rintro e w3 ⟨rfl, hS3, hB3, hK3⟩; have HS3 := Aside0.mk hS3; have HB3 := Aside0.mk hB3; have HK3 := Aside0.mk hK3; clear hS3 hB3 hK3))
      go_roundg (post.length + 1)
      case measure => have := HG.out; simp at this; omega
      case rel =>
        have hs0 : ∀ k, some k = (Value.slice Ai y.f0.length ci).ownBlock → oki k ∧ gt k = false := fun k hk => HR0.out.1 k hk.symm
        refine ⟨pre ++ [y], post, _, rfl, ?_, ⟨?_⟩, ⟨?_⟩, ⟨Nat.le_refl _⟩, ⟨?_⟩, ⟨?_⟩, HB3⟩
        · rw [HW5.out]; simp
        · rw [HM1.out]; simp only [Ax.cntRelationS, Ax.cntOf_snoc, HCY.out]; omega
        · rw [HL.out]; simp
        · have k0 := Kd.R_kept HR2.out HK3.out (fun k hk hs => by have := hk.2; rw [hs.2] at this; cases this)
          have hb2 := Kd.H_back (Kd.H_kept (Kd.H_kept HH.out HK2.out (fun k hk hn hs => hn (hs0 k hs).1)) HK3.out (fun k hk hn hs => hn hs.1)) (x' := Ax.mR y m1) (okp := oki) (show kA.M w3 base oki (Ax.mR y m1) [Value.slice Ai y.f0.length ci, Value.slice Aj y.f1.length cj] from ⟨gt, [_], [_], rfl, ⟨_, rfl, k0⟩, ⟨_, rfl, HS3.out⟩⟩) (fun _ h => h)
          rw [Int.toNat_natCast, HM1.out, Ax.mkOf_set] at hb2
          exact hb2
        · exact (HK.out.then_ HK2.out (fun k hk => .inl (HOK.out k (hs0 k hk).1).1)).then_ HK3.out (fun k hk => .inl (HOK.out k hk.1).1)
theorem markRelationS (w0 w : World) (lo hi : Nat) (m M : Int) (v : Value) (l : List S27) {q : Nat → Prop} (hB : Below w0.heap.size w0 w) (hlo : w0.heap.size ≤ lo) (o : Iv.Ob kA 27 w lo hi q v l) (h0 : 0 ≤ m) (h1 : m + (Ax.cntRelationS l : Nat) = M ∧ M < 9223372036854775807) :
    Calls Try.prog 12 #[v, .int .i64 m] w fun e w' => e = .returned (.int .i64 M) ∧ Iv.Ob kA 27 w' lo hi q v (Ax.mkRelationS l m) ∧ Below w0.heap.size w0 w' ∧ Kept w w' (fun k => lo ≤ k ∧ k < hi) := by
  refine (markRelationS_S w0 w lo _ m M v l hB hlo (Kd.S_bound o.1) h0 h1).mono ?_
  rintro e w' ⟨rfl, h2, h3, h4⟩
  exact ⟨rfl, ⟨Kd.S_mono h2 (fun k hk => hk.1), Nat.le_trans o.2 h4.1⟩, h3, h4.mono (fun k hk => ⟨hk.2.1, hk.1.1⟩)⟩
end Go.Proofs.Ytcengijoicmldaa.Mk

/- How many marks a row of relations takes. No condition. -/
namespace Go.Proofs.Ytcengijoicmldaa.Ax
open Go.RowKit Go.Proofs.Ytcengijoicmldaa.Pr Go.Proofs.Ytcengijoicmldaa.Pl Go.Proofs.YtcengijoicmldaaW.PrintWords Go.Proofs.YtcengijoicmldaaW.PrintLast Go.Proofs.YtcengijoicmldaaW.PrintMore
set_option linter.unusedVariables false
def BdRS (b : Nat) (l : List S27) : Prop := l.length ≤ b ∧ ∀ x ∈ l, BdIntS x.f0 ∧ BdIntSS x.f1
theorem cntRS_bd {b : Nat} {l : List S27} (h : BdRS b l) : cntRelationS l ≤ b * 2199023255552 := by
  have h1 := cnt_le (c := cR) 2199023255552 l (fun x hx => cntRelation_bd (h.2 x hx).1 (h.2 x hx).2)
  exact Nat.le_trans h1 (Nat.mul_le_mul_right 2199023255552 h.1)
theorem ok_RS {b : Nat} {l : List S27} (h : BdRS b l) (hb : b < 9223372036854775807) : OkRelationS l := ⟨by have := h.1; omega, fun e he => ⟨ok_IntS (h.2 e he).1, ok_IntSS (h.2 e he).2⟩⟩
end Go.Proofs.Ytcengijoicmldaa.Ax

/- The marks in a row of relations are found again. No condition. -/
namespace Go.Proofs.Ytcengijoicmldaa.Ax
open Go.RowKit Go.Proofs.Ytcengijoicmldaa.Pr Go.Proofs.Ytcengijoicmldaa.Pl Go.Proofs.YtcengijoicmldaaW.PrintWords Go.Proofs.YtcengijoicmldaaW.PrintLast Go.Proofs.YtcengijoicmldaaW.PrintMore
set_option linter.unusedVariables false
theorem heldRelationS_l0 (xs : List S27) (hx : xs.length < 9223372036854775807) : ∀ (ys : List S27) (j : Nat) (m : Int), (∀ y ∈ ys, y.f1.length < 9223372036854775807) → 0 ≤ m → m + (cntRelationS ys : Nat) < 9223372036854775807 → xs.drop j = mkRelationS ys m →
    Ev (fun k => laws_heldRelationS.l0 k xs m (j : Int)) (m + (cntRelationS ys : Nat))
  | [], j, m, hl, h0, hb, h => by
    have h1 := drop_nil h
    refine ev_succ ?_
    simp only [laws_heldRelationS.l0]
    simp only [if_neg (show ¬ ((j : Int) < (xs.length : Int)) by omega)]
    exact ev_now (by simp [cntOf])
  | y :: ys, j, m, hl, h0, hb, h => by
    rw [mkRelationS, mkOf] at h
    obtain ⟨h1, h2, h3⟩ := drop_cons h
    have hc : cntRelationS (y :: ys) = cntIntS y.f0 + cntIntSS y.f1 + cntRelationS ys := rfl
    rw [hc] at hb ⊢
    refine ev_succ ?_
    simp only [laws_heldRelationS.l0]
    simp only [if_pos (show (j : Int) < (xs.length : Int) by omega), if_pos (show (0 : Int) ≤ (j : Int) by omega)]
    have hrd : rd_T27 xs (j : Int) = mR y m := by
      unfold rd_T27
      rw [Int.toNat_natCast, List.getD_eq_getElem?_getD, h2]
      rfl
    simp only [hrd]
    refine Ev.bind (heldIntS_ev' y.f0 m h0 (by omega)) ?_
    simp only [if_neg (show ¬ m + (cntIntS y.f0 : Nat) < 0 by omega)]
    refine Ev.bind (heldIntSS_ev' y.f1 (m + (cntIntS y.f0 : Nat)) (hl y (by simp)) (by omega) (by omega)) ?_
    simp only [if_neg (show ¬ m + (cntIntS y.f0 : Nat) + (cntIntSS y.f1 : Nat) < 0 by omega), wrap_succ (show j < 9223372036854775807 by omega)]
    have hm : m + ((cR y : Nat) : Int) = m + (cntIntS y.f0 : Nat) + (cntIntSS y.f1 : Nat) := by
      show m + ((cntIntS y.f0 + cntIntSS y.f1 : Nat) : Int) = _
      omega
    rw [hm] at h3
    have := heldRelationS_l0 xs hx ys (j + 1) (m + (cntIntS y.f0 : Nat) + (cntIntSS y.f1 : Nat)) (fun z hz => hl z (by simp [hz])) (by omega) (by omega) h3
    rwa [show m + (cntIntS y.f0 : Nat) + (cntIntSS y.f1 : Nat) + (cntRelationS ys : Nat) = m + ((cntIntS y.f0 + cntIntSS y.f1 + cntRelationS ys : Nat) : Int) by omega] at this
theorem heldRelationS_ev' (l : List S27) (m : Int) (hl : l.length < 9223372036854775807) (hs : ∀ y ∈ l, y.f1.length < 9223372036854775807) (h0 : 0 ≤ m) (hb : m + (cntRelationS l : Nat) < 9223372036854775807) : Ev (fun k => laws_heldRelationS.f k (mkRelationS l m) m) (m + (cntRelationS l : Nat)) := by
  simp only [laws_heldRelationS.f]
  exact heldRelationS_l0 _ (by rw [mkOf_length]; exact hl) l 0 m hs h0 hb rfl
end Go.Proofs.Ytcengijoicmldaa.Ax
