/- Several small texts together: A3t, A3j. No condition but those they name. -/
import Derived.Test.YtcengijoicmldaaPr2
import Derived.Test.YtcengijoicmldaaMerge0
import Derived.Test.YtcengijoicmldaaAe
import Derived.Test.YtcengijoicmldaaERelated
import Derived.Test.YtcengijoicmldaaAc
/- The relation of tuples in any order, on both sides. Conditions: tuples of one length; lengths that Go can hold. -/
namespace Go.Proofs.Ytcengijoicmldaa.Ax
open Go.RowKit Go.Proofs.Ytcengijoicmldaa.Pr Go.Proofs.Ytcengijoicmldaa.Pl Go.Proofs.YtcengijoicmldaaW.PrintWords Go.Proofs.YtcengijoicmldaaW.PrintLast Go.Proofs.YtcengijoicmldaaW.PrintMore
set_option linter.unusedVariables false
set_option linter.unusedSimpArgs false
theorem lt_ltL : ∀ a b : List Int, a.length = b.length → lt a b = ltL a b
  | [], [], _ => by simp [lt, ltL, cmpL]
  | [], _ :: _, h => by simp at h
  | _ :: _, [], h => by simp at h
  | x :: xs, y :: ys, h => by
    have ih := lt_ltL xs ys (by simpa using h)
    simp only [ltL] at ih
    simp only [lt, ltL, cmpL]
    by_cases e : x = y
    · subst e
      simp [ih]
    · rw [if_neg e]
      by_cases e2 : x < y
      · simp [e2]
      · simp [e2, show y < x by omega]
theorem l3Add_l0 (n : Nat) (t : List Int) (ht : t.length = n) (hn : n < 1000000) (l : List (List Int)) (hl : ∀ x ∈ l, x.length = n) (hb : l.length < 1000000) : ∀ (ys : List (List Int)) (j : Nat), l.drop j = ys → j ≤ l.length → (∀ x ∈ l.take j, ltL x t = true) → Ev (fun k => spec_l3Add.l0 k l t (j : Int)) (insB ltL l t)
  | [], j, h, hjl, hp => by
    have hj := drop_nil h
    refine ev_succ ?_
    simp only [spec_l3Add.l0]
    have htk : l.take j = l := List.take_of_length_le hj
    rw [htk] at hp
    have e : insB ltL l t = l ++ [t] := by
      have := insB_split t l [] hp
      simpa [insB] using this
    have hje : j = l.length := by omega
    subst hje
    simp only [if_neg (show ¬ ((l.length : Int) < (l.length : Int)) by omega), Option.bind_some, if_pos (show (0 : Int) ≤ (l.length : Int) by omega), if_pos (show (l.length : Int) ≤ (l.length : Int) by omega), Int.toNat_natCast, List.take_length, List.drop_length, List.length_nil, List.nil_append, List.append_nil, List.length_append, List.length_singleton]
    simp only [if_pos (show 0 + l.length < 5864062014805 by omega), if_pos (show 0 + t.length < 17592186044416 by omega), if_pos (show l.length < 5864062014805 by omega), if_pos (show 0 + l.length + 1 + 0 < 5864062014805 by omega)]
    exact ev_now e.symm
  | y :: ys, j, h, hjl, hp => by
    obtain ⟨i1, i2, i3⟩ := drop_cons h
    have hsplit : l = l.take j ++ (y :: ys) := by rw [← h, List.take_append_drop]
    have hi : insB ltL l t = l.take j ++ insB ltL (y :: ys) t := by
      have := insB_split t (l.take j) (y :: ys) hp
      rwa [← hsplit] at this
    have hyn := hl y (List.mem_of_getElem? i2)
    have htl : (l.take j).length = j := by rw [List.length_take]; omega
    have hdl : (l.drop j).length = l.length - j := List.length_drop
    refine ev_succ ?_
    simp only [spec_l3Add.l0]
    simp only [if_pos (show (j : Int) < (l.length : Int) by omega), if_pos (show (0 : Int) ≤ (j : Int) by omega), rdL1_drop h, wrap_succ (show j < 9223372036854775807 by omega)]
    refine Ev.bind (l3Less_ev y t (by omega) (by omega)) ?_
    rw [lt_ltL y t (by omega)]
    by_cases c1 : ltL y t = true
    · simp only [if_pos c1]
      refine l3Add_l0 n t ht hn l hl hb ys (j + 1) i3 i1 (fun x hx => ?_)
      rw [List.take_add_one, i2] at hx
      rcases List.mem_append.1 hx with hx | hx
      · exact hp x hx
      · have : x = y := by simpa using hx
        rw [this]
        exact c1
    · simp only [if_neg c1]
      refine Ev.bind (same_ev y t (by omega)) ?_
      by_cases c2 : y = t
      · simp only [if_pos (decide_eq_true c2)]
        refine ev_now ?_
        rw [hi, insB, if_neg c1, if_pos c2, ← hsplit]
      · simp only [decide_eq_false c2, Bool.false_eq_true, if_false, Option.bind_some, if_pos (show (j : Int) ≤ (l.length : Int) by omega), Int.toNat_natCast, List.nil_append, List.length_nil, List.length_append, List.length_singleton, htl, hdl]
        simp only [if_pos (show 0 + j < 5864062014805 by omega), if_pos (show 0 + t.length < 17592186044416 by omega), if_pos (show j < 5864062014805 by omega), if_pos (show 0 + j + 1 + (l.length - j) < 5864062014805 by omega)]
        refine ev_now ?_
        rw [hi, insB, if_neg c1, if_neg c2, h]
        simp
theorem l3Add_ev (n : Nat) (t : List Int) (ht : t.length = n) (hn : n < 1000000) (l : List (List Int)) (hl : ∀ x ∈ l, x.length = n) (hb : l.length < 1000000) : Ev (fun k => spec_l3Add.f k l t) (insB ltL l t) := l3Add_l0 n t ht hn l hl hb l 0 rfl (Nat.zero_le _) (by simp)
def tell (names : List Int) (r : List (List Int)) : List Int × List (List Int) × Bool := if gr names r then (names, r, true) else ([], [], false)
theorem insB_len {n : Nat} {l : List (List Int)} {t : List Int} (hl : ∀ x ∈ l, x.length = n) (ht : t.length = n) : ∀ x ∈ insB ltL l t, x.length = n := fun x hx => by
  rcases (mem_insB t x l).1 hx with h | h
  · rw [h]; exact ht
  · exact hl x h
theorem l3Tell_l0 (names : List Int) (hnm : names.length < 1000000) (n : Nat) (hn : n < 1000000) (l : List (List Int)) (hl : ∀ x ∈ l, x.length = n) : ∀ (ys : List (List Int)) (j : Nat) (R : List (List Int)), l.drop j = ys → (∀ x ∈ R, x.length = n) → R.length + ys.length < 1000000 → l.length < 1000000 →
    Ev (fun k => spec_l3Tell.l0 k l (l.length : Int) (j : Int) names R) (tell names (putsB ltL R ys))
  | [], j, R, h, hR, hb, hb2 => by
    have h1 := drop_nil h
    refine ev_succ ?_
    simp only [spec_l3Tell.l0]
    simp only [if_neg (show ¬ ((j : Int) < (l.length : Int)) by omega)]
    refine Ev.bind (sGR_ev names R (LnS_of (by omega)) ⟨by simp at hb; omega, fun e he => LnS_of (by rw [hR e he]; omega)⟩) ?_
    show Ev _ (tell names R)
    unfold tell
    cases gr names R
    · exact ev_now rfl
    · exact ev_now rfl
  | y :: ys, j, R, h, hR, hb, hb2 => by
    obtain ⟨h1, h2, h3⟩ := drop_cons h
    have hy := hl y (List.mem_of_getElem? h2)
    have hlen := insB_length (lt := ltL) y R
    simp only [List.length_cons] at hb
    refine ev_succ ?_
    simp only [spec_l3Tell.l0]
    simp only [if_pos (show (j : Int) < (l.length : Int) by omega), if_pos (show (0 : Int) ≤ (j : Int) by omega), rdL1_drop h, wrap_succ (show j < 9223372036854775807 by omega)]
    refine Ev.bind (l3Add_ev n y hy hn R hR (by omega)) ?_
    exact l3Tell_l0 names hnm n hn l hl ys (j + 1) (insB ltL R y) h3 (insB_len hR hy) (by omega) hb2
theorem l3Tell_ev (names : List Int) (hnm : names.length < 1000000) (n : Nat) (hn : n < 1000000) (l : List (List Int)) (hl : ∀ x ∈ l, x.length = n) (hb : l.length < 1000000) : Ev (fun k => spec_l3Tell.f k names l) (tell names (risen ltL l)) := by
  simp only [spec_l3Tell.f, Option.bind_some, List.nil_append, List.length_nil]
  simp only [if_pos (show 0 + names.length < 17592186044416 by omega)]
  exact l3Tell_l0 names hnm n hn l hl l 0 [] rfl (by simp) (by simpa using hb) hb
theorem related_eq (names : List Int) (hnm : names.length < 1000000) (n : Nat) (hn : n < 1000000) (l : List (List Int)) (hl : ∀ x ∈ l, x.length = n) (hb : l.length < 1000000) : impl_related.f names l = some (tell names (risen ltL l)) := by
  unfold impl_related.f
  rw [if_pos ⟨by omega, by omega, fun t ht => by rw [hl t ht]; omega⟩]
  rfl
theorem gr_len {names : List Int} {r : List (List Int)} (h : gr names r = true) : names.length ≤ 6 ∧ r.length ≤ 60 := by
  simp only [gr, Bool.and_eq_true, decide_eq_true_eq] at h
  exact ⟨h.1.1.1, h.1.2⟩
theorem tell_bd (names : List Int) (r : List (List Int)) (hr : ∀ x ∈ r, x.length ≤ 1000) : (tell names r).1.length ≤ 6 ∧ (tell names r).2.1.length ≤ 60 ∧ ∀ x ∈ (tell names r).2.1, x.length ≤ 1000 := by
  unfold tell
  cases h : gr names r
  · simp
  · have := gr_len h
    exact ⟨this.1, this.2, hr⟩
end Go.Proofs.Ytcengijoicmldaa.Ax

/- Names of good relations. No condition. -/

namespace Go.Proofs.Ytcengijoicmldaa.Ax
open Go.RowKit Go.Proofs.Ytcengijoicmldaa.Pr Go.Proofs.Ytcengijoicmldaa.Pl Go.Proofs.YtcengijoicmldaaW.PrintWords Go.Proofs.YtcengijoicmldaaW.PrintLast Go.Proofs.YtcengijoicmldaaW.PrintMore
set_option linter.unusedVariables false
set_option linter.unusedSimpArgs false
theorem gr_names {ns : List Int} {ts : List (List Int)} (h : gr ns ts = true) : (∀ n ∈ ns, win n 0 20 = true) ∧ ∀ t ∈ ts, t.length = ns.length := by
  simp only [gr, Bool.and_eq_true] at h
  exact ⟨rs_win h.1.1.2, tp_len h.2⟩
theorem rs_rising {lo hi : Int} : ∀ {l : List Int} {p : Option Int}, rs lo hi p l = true → l.Pairwise (· < ·) ∧ (∀ x ∈ l, lo ≤ x ∧ x ≤ hi) ∧ ∀ q, p = some q → ∀ x ∈ l, q < x
  | [], p, _ => ⟨List.Pairwise.nil, by simp, by simp⟩
  | x :: xs, p, h => by
    rw [rs_cons] at h
    simp only [Bool.and_eq_true] at h
    obtain ⟨⟨h1, h2⟩, h3⟩ := h
    obtain ⟨i1, i2, i3⟩ := rs_rising h3
    have hx := (win_iff x lo hi).1 h1
    refine ⟨List.pairwise_cons.2 ⟨i3 x rfl, i1⟩, fun z hz => ?_, fun q hq z hz => ?_⟩
    · rcases List.mem_cons.1 hz with e | e
      · rw [e]; exact hx
      · exact i2 z e
    · subst hq
      have hqx : q < x := by simpa using h2
      rcases List.mem_cons.1 hz with e | e
      · rw [e]; exact hqx
      · have := i3 x rfl z e
        omega
theorem gr_rising {ns : List Int} {ts : List (List Int)} (h : gr ns ts = true) : ns.Pairwise (· < ·) ∧ ∀ x ∈ ns, 0 ≤ x ∧ x ≤ 20 := by
  simp only [gr, Bool.and_eq_true] at h
  have := rs_rising h.1.1.2
  exact ⟨this.1, this.2.1⟩
theorem tell_BdS (ns : List Int) (r : List (List Int)) (hr : ∀ x ∈ r, x.length ≤ 1000) : BdIntS (tell ns r).1 ∧ BdIntSS (tell ns r).2.1 := by
  obtain ⟨h1, h2, h3⟩ := tell_bd ns r hr
  exact ⟨⟨by omega, fun _ _ => trivial⟩, ⟨by omega, fun e he => ⟨by have := h3 e he; omega, fun _ _ => trivial⟩⟩⟩
theorem bd_nil : BdIntS [] ∧ BdIntSS [] := ⟨⟨by simp, by simp⟩, ⟨by simp, by simp⟩⟩
theorem pk_length (ns t s : List Int) : (pk ns t s).length = s.length := by simp [pk]
end Go.Proofs.Ytcengijoicmldaa.Ax
