/- Several small texts together: A3t, A3j, A3jo. No condition but those they name. -/
import Derived.Test.YtcengijoicmldaaPr2
import Derived.Test.YtcengijoicmldaaMerge0
import Derived.Test.YtcengijoicmldaaMx2
import Derived.Test.YtcengijoicmldaaERelated
import Derived.Test.YtcengijoicmldaaAc
import Derived.Test.YtcengijoicmldaaPr3
import Derived.Test.YtcengijoicmldaaPr7
import Derived.Test.YtcengijoicmldaaMx5
import Derived.Test.YtcengijoicmldaaEBoth
import Derived.Test.YtcengijoicmldaaMx8
/- The relation of tuples in any order, on both sides. Conditions: tuples of one length; lengths that Go can hold. -/
namespace Go.Proofs.Ytcengijoicmldaa.Ax
open Go.RowKit Go.Proofs.Ytcengijoicmldaa.Pr Go.Proofs.Ytcengijoicmldaa.Pl Go.Proofs.YtcengijoicmldaaW.PrintWords Go.Proofs.YtcengijoicmldaaW.PrintLast Go.Proofs.YtcengijoicmldaaW.PrintMore
set_option linter.unusedVariables false
set_option linter.unusedSimpArgs false
theorem lt_ltL : ∀ a b : List Int, a.length = b.length → lt a b = ltL a b
 | [], [], _ => by simp [lt, ltL, cmpL]
 | [], _ :: _, h => by simp at h
 | _ :: _, [], h => by simp at h
 | x :: xs, y :: ys, h => by
  have ih := lt_ltL xs ys (by simpa using h)
  simp only [ltL] at ih
  simp only [lt, ltL, cmpL]
  by_cases e : x = y
  ·subst e
   simp [ih]
  ·rw [if_neg e]
   by_cases e2 : x < y
   ·simp [e2]
   ·simp [e2, show y < x by omega]
theorem l3Add_l0 (n : Nat) (t : List Int) (ht : t.length = n) (hn : n < 1000000) (l : List (List Int)) (hl : ∀ x ∈ l, x.length = n) (hb : l.length < 1000000) : ∀ (ys : List (List Int)) (j : Nat), l.drop j = ys → j ≤ l.length → (∀ x ∈ l.take j, ltL x t = true) → Ev (fun k => spec_l3Add.l0 k l t (j : Int)) (insB ltL l t)
 | [], j, h, hjl, hp => by
  have hj := drop_nil h
  refine ev_succ ?_
  simp only [spec_l3Add.l0]
  have htk : l.take j = l := List.take_of_length_le hj
  rw [htk] at hp
  have e : insB ltL l t = l ++ [t] := by
   have := insB_split t l [] hp
   simpa [insB] using this
  have hje : j = l.length := by omega
  subst hje
  simp only [if_neg (show ¬ ((l.length : Int) < (l.length : Int)) by omega), Option.bind_some, if_pos (show (0 : Int) ≤ (l.length : Int) by omega), if_pos (show (l.length : Int) ≤ (l.length : Int) by omega), Int.toNat_natCast, List.take_length, List.drop_length, List.length_nil, List.nil_append, List.append_nil, List.length_append, List.length_singleton]
  simp only [if_pos (show 0 + l.length < 5864062014805 by omega), if_pos (show 0 + t.length < 17592186044416 by omega), if_pos (show l.length < 5864062014805 by omega), if_pos (show 0 + l.length + 1 + 0 < 5864062014805 by omega)]
  exact ev_now e.symm
 | y :: ys, j, h, hjl, hp => by
  obtain ⟨i1, i2, i3⟩ := drop_cons h
  have hsplit : l = l.take j ++ (y :: ys) := by rw [← h, List.take_append_drop]
  have hi : insB ltL l t = l.take j ++ insB ltL (y :: ys) t := by
   have := insB_split t (l.take j) (y :: ys) hp
   rwa [← hsplit] at this
  have hyn := hl y (List.mem_of_getElem? i2)
  have htl : (l.take j).length = j := by rw [List.length_take]; omega
  have hdl : (l.drop j).length = l.length - j := List.length_drop
  refine ev_succ ?_
  simp only [spec_l3Add.l0]
  simp only [if_pos (show (j : Int) < (l.length : Int) by omega), if_pos (show (0 : Int) ≤ (j : Int) by omega), rdL1_drop h, wrap_succ (show j < 9223372036854775807 by omega)]
  refine Ev.bind (l3Less_ev y t (by omega) (by omega)) ?_
  rw [lt_ltL y t (by omega)]
  by_cases c1 : ltL y t = true
  ·simp only [if_pos c1]
   refine l3Add_l0 n t ht hn l hl hb ys (j + 1) i3 i1 (fun x hx => ?_)
   rw [List.take_add_one, i2] at hx
   rcases List.mem_append.1 hx with hx | hx
   ·exact hp x hx
   ·have : x = y := by simpa using hx
    rw [this]
    exact c1
  ·simp only [if_neg c1]
   refine Ev.bind (same_ev y t (by omega)) ?_
   by_cases c2 : y = t
   ·simp only [if_pos (decide_eq_true c2)]
    refine ev_now ?_
    rw [hi, insB, if_neg c1, if_pos c2, ← hsplit]
   ·simp only [decide_eq_false c2, Bool.false_eq_true, if_false, Option.bind_some, if_pos (show (j : Int) ≤ (l.length : Int) by omega), Int.toNat_natCast, List.nil_append, List.length_nil, List.length_append, List.length_singleton, htl, hdl]
    simp only [if_pos (show 0 + j < 5864062014805 by omega), if_pos (show 0 + t.length < 17592186044416 by omega), if_pos (show j < 5864062014805 by omega), if_pos (show 0 + j + 1 + (l.length - j) < 5864062014805 by omega)]
    refine ev_now ?_
    rw [hi, insB, if_neg c1, if_neg c2, h]
    simp
theorem l3Add_ev (n : Nat) (t : List Int) (ht : t.length = n) (hn : n < 1000000) (l : List (List Int)) (hl : ∀ x ∈ l, x.length = n) (hb : l.length < 1000000) : Ev (fun k => spec_l3Add.f k l t) (insB ltL l t) := l3Add_l0 n t ht hn l hl hb l 0 rfl (Nat.zero_le _) (by simp)
def tell (names : List Int) (r : List (List Int)) : List Int × List (List Int) × Bool := if gr names r then (names, r, true) else ([], [], false)
theorem insB_len {n : Nat} {l : List (List Int)} {t : List Int} (hl : ∀ x ∈ l, x.length = n) (ht : t.length = n) : ∀ x ∈ insB ltL l t, x.length = n := fun x hx => by
 rcases (mem_insB t x l).1 hx with h | h
 ·rw [h]; exact ht
 ·exact hl x h
theorem l3Tell_l0 (names : List Int) (hnm : names.length < 1000000) (n : Nat) (hn : n < 1000000) (l : List (List Int)) (hl : ∀ x ∈ l, x.length = n) : ∀ (ys : List (List Int)) (j : Nat) (R : List (List Int)), l.drop j = ys → (∀ x ∈ R, x.length = n) → R.length + ys.length < 1000000 → l.length < 1000000 →
  Ev (fun k => spec_l3Tell.l0 k l (l.length : Int) (j : Int) names R) (tell names (putsB ltL R ys))
 | [], j, R, h, hR, hb, hb2 => by
  have h1 := drop_nil h
  refine ev_succ ?_
  simp only [spec_l3Tell.l0]
  simp only [if_neg (show ¬ ((j : Int) < (l.length : Int)) by omega)]
  refine Ev.bind (sGR_ev names R (LnS_of (by omega)) ⟨by simp at hb; omega, fun e he => LnS_of (by rw [hR e he]; omega)⟩) ?_
  show Ev _ (tell names R)
  unfold tell
  cases gr names R
  ·exact ev_now rfl
  ·exact ev_now rfl
 | y :: ys, j, R, h, hR, hb, hb2 => by
  obtain ⟨h1, h2, h3⟩ := drop_cons h
  have hy := hl y (List.mem_of_getElem? h2)
  have hlen := insB_length (lt := ltL) y R
  simp only [List.length_cons] at hb
  refine ev_succ ?_
  simp only [spec_l3Tell.l0]
  simp only [if_pos (show (j : Int) < (l.length : Int) by omega), if_pos (show (0 : Int) ≤ (j : Int) by omega), rdL1_drop h, wrap_succ (show j < 9223372036854775807 by omega)]
  refine Ev.bind (l3Add_ev n y hy hn R hR (by omega)) ?_
  exact l3Tell_l0 names hnm n hn l hl ys (j + 1) (insB ltL R y) h3 (insB_len hR hy) (by omega) hb2
theorem l3Tell_ev (names : List Int) (hnm : names.length < 1000000) (n : Nat) (hn : n < 1000000) (l : List (List Int)) (hl : ∀ x ∈ l, x.length = n) (hb : l.length < 1000000) : Ev (fun k => spec_l3Tell.f k names l) (tell names (risen ltL l)) := by
 simp only [spec_l3Tell.f, Option.bind_some, List.nil_append, List.length_nil]
 simp only [if_pos (show 0 + names.length < 17592186044416 by omega)]
 exact l3Tell_l0 names hnm n hn l hl l 0 [] rfl (by simp) (by simpa using hb) hb
theorem related_eq (names : List Int) (hnm : names.length < 1000000) (n : Nat) (hn : n < 1000000) (l : List (List Int)) (hl : ∀ x ∈ l, x.length = n) (hb : l.length < 1000000) : impl_related.f names l = some (tell names (risen ltL l)) := by
 unfold impl_related.f
 rw [if_pos ⟨by omega, by omega, fun t ht => by rw [hl t ht]; omega⟩]
 rfl
theorem gr_len {names : List Int} {r : List (List Int)} (h : gr names r = true) : names.length ≤ 6 ∧ r.length ≤ 60 := by
 simp only [gr, Bool.and_eq_true, decide_eq_true_eq] at h
 exact ⟨h.1.1.1, h.1.2⟩
theorem tell_bd (names : List Int) (r : List (List Int)) (hr : ∀ x ∈ r, x.length ≤ 1000) : (tell names r).1.length ≤ 6 ∧ (tell names r).2.1.length ≤ 60 ∧ ∀ x ∈ (tell names r).2.1, x.length ≤ 1000 := by
 unfold tell
 cases h : gr names r
 ·simp
 ·have := gr_len h
  exact ⟨this.1, this.2, hr⟩
end Go.Proofs.Ytcengijoicmldaa.Ax

/- Names of good relations. No condition. -/
namespace Go.Proofs.Ytcengijoicmldaa.Ax
open Go.RowKit Go.Proofs.Ytcengijoicmldaa.Pr Go.Proofs.Ytcengijoicmldaa.Pl Go.Proofs.YtcengijoicmldaaW.PrintWords Go.Proofs.YtcengijoicmldaaW.PrintLast Go.Proofs.YtcengijoicmldaaW.PrintMore
set_option linter.unusedVariables false
set_option linter.unusedSimpArgs false
theorem gr_names {ns : List Int} {ts : List (List Int)} (h : gr ns ts = true) : (∀ n ∈ ns, win n 0 20 = true) ∧ ∀ t ∈ ts, t.length = ns.length := by
 simp only [gr, Bool.and_eq_true] at h
 exact ⟨rs_win h.1.1.2, tp_len h.2⟩
theorem rs_rising {lo hi : Int} : ∀ {l : List Int} {p : Option Int}, rs lo hi p l = true → l.Pairwise (· < ·) ∧ (∀ x ∈ l, lo ≤ x ∧ x ≤ hi) ∧ ∀ q, p = some q → ∀ x ∈ l, q < x
 | [], p, _ => ⟨List.Pairwise.nil, by simp, by simp⟩
 | x :: xs, p, h => by
  rw [rs_cons] at h
  simp only [Bool.and_eq_true] at h
  obtain ⟨⟨h1, h2⟩, h3⟩ := h
  obtain ⟨i1, i2, i3⟩ := rs_rising h3
  have hx := (win_iff x lo hi).1 h1
  refine ⟨List.pairwise_cons.2 ⟨i3 x rfl, i1⟩, fun z hz => ?_, fun q hq z hz => ?_⟩
  ·rcases List.mem_cons.1 hz with e | e
   ·rw [e]; exact hx
   ·exact i2 z e
  ·subst hq
   have hqx : q < x := by simpa using h2
   rcases List.mem_cons.1 hz with e | e
   ·rw [e]; exact hqx
   ·have := i3 x rfl z e
    omega
theorem gr_rising {ns : List Int} {ts : List (List Int)} (h : gr ns ts = true) : ns.Pairwise (· < ·) ∧ ∀ x ∈ ns, 0 ≤ x ∧ x ≤ 20 := by
 simp only [gr, Bool.and_eq_true] at h
 have := rs_rising h.1.1.2
 exact ⟨this.1, this.2.1⟩
theorem few {l : List Int} (h : l.Pairwise (· < ·)) (hb : ∀ x ∈ l, 0 ≤ x ∧ x ≤ 20) : l.length ≤ 21 := by
 have := rising_len (lo := 0) (hi := 21) h (fun x hx => by have := hb x hx; omega)
 omega
theorem tell_BdS (ns : List Int) (r : List (List Int)) (hr : ∀ x ∈ r, x.length ≤ 1000) : BdIntS (tell ns r).1 ∧ BdIntSS (tell ns r).2.1 := by
 obtain ⟨h1, h2, h3⟩ := tell_bd ns r hr
 exact ⟨⟨by omega, fun _ _ => trivial⟩, ⟨by omega, fun e he => ⟨by have := h3 e he; omega, fun _ _ => trivial⟩⟩⟩
theorem bd_nil : BdIntS [] ∧ BdIntSS [] := ⟨⟨by simp, by simp⟩, ⟨by simp, by simp⟩⟩
theorem pk_length (ns t s : List Int) : (pk ns t s).length = s.length := by simp [pk]
end Go.Proofs.Ytcengijoicmldaa.Ax

/- JoinTwo: what both sides come to. Conditions: lengths that Go can hold. -/
namespace Go.Proofs.Ytcengijoicmldaa.Ax
open Go.RowKit Go.Proofs.Ytcengijoicmldaa.Pr Go.Proofs.Ytcengijoicmldaa.Pl Go.Proofs.YtcengijoicmldaaW.PrintWords Go.Proofs.YtcengijoicmldaaW.PrintLast Go.Proofs.YtcengijoicmldaaW.PrintMore
set_option linter.unusedVariables false
set_option linter.unusedSimpArgs false
theorem ins_length (n : Int) : ∀ l : List Int, (ins l n).length ≤ l.length + 1
 | [] => by simp [ins]
 | x :: xs => by
  have := ins_length n xs
  unfold ins
  split
  ·simp only [List.length_cons]; omega
  ·split <;> simp
def jt (na nb x y names : List Int) : List Int := names.map fun n => if ix na n ≥ 0 then rd x (ix na n) else rd y (ix nb n)
theorem jt_length (na nb x y names : List Int) : (jt na nb x y names).length = names.length := by simp [jt]
def fit (na nb com : List Int) (x : List Int) (ys : List (List Int)) : List (List Int) := ys.filter fun y => decide (pk na x com = pk nb y com)
def joined (na nb com names : List Int) (tb : List (List Int)) (xs : List (List Int)) : List (List Int) := xs.flatMap fun x => (fit na nb com x tb).map fun y => jt na nb x y names
theorem ix_ge {ns : List Int} {n : Int} : ix ns n ≥ 0 ↔ n ∈ ns := by
 constructor
 ·intro h
  by_cases e : n ∈ ns
  ·exact e
  ·rw [ix_out e] at h
   omega
 ·exact fun h => (ix_in h).1
section
variable (na nb : List Int) (ta tb : List (List Int)) (com names : List Int)
variable (hna : na.length < 1000000) (hnb : nb.length < 1000000) (hta : ta.length < 1000000) (htb : tb.length < 1000000) (hxa : ∀ t ∈ ta, t.length = na.length) (hxb : ∀ t ∈ tb, t.length = nb.length)
variable (hnm : names.length < 1000000) (hcm : com.length < 1000000) (hca : ∀ n ∈ com, n ∈ na) (hcb : ∀ n ∈ com, n ∈ nb) (hor : ∀ n ∈ names, n ∈ na ∨ n ∈ nb)
include hna hnb hnm hor
theorem joinS_l3 {r : List Int × List (List Int) × Bool} (R : List (List Int)) (hR : ∀ t ∈ R, t.length = names.length) (hRl : R.length < 1000000 - 1) (x y : List Int) (hx : x.length = na.length) (hy : y.length = nb.length) (i m la lb : Int) : ∀ (ys : List Int) (j : Nat) (out : List Int), names.drop j = ys → out.length = j → j ≤ names.length →
  Ev (fun k => spec_JoinTwo.l2 k names com (insB ltL R (out ++ jt na nb x y ys)) x ta la i tb lb (wrap64 (m + 1)) na ta nb tb) r → Ev (fun k => spec_JoinTwo.l3 k names com R x y out ta la i tb lb m names (names.length : Int) (j : Int) na ta nb tb) r
 | [], j, out, h, ho, hjn, hr => by
  have h2 := drop_nil h
  refine ev_succ ?_
  simp only [spec_JoinTwo.l3]
  simp only [if_neg (show ¬ ((j : Int) < (names.length : Int)) by omega)]
  have hol : out.length = names.length := by omega
  rw [jt, List.map_nil, List.append_nil] at hr
  exact Ev.bind (l3Add_ev names.length out hol hnm R hR (by omega)) hr
 | n :: ys, j, out, h, ho, hjn, hr => by
  obtain ⟨i1, i2, i3⟩ := drop_cons h
  have hn := hor n (List.mem_of_getElem? i2)
  refine ev_succ ?_
  simp only [spec_JoinTwo.l3]
  simp only [if_pos (show (j : Int) < (names.length : Int) by omega), if_pos (show (0 : Int) ≤ (j : Int) by omega), rd_drop h, wrap_succ (show j < 9223372036854775807 by omega), if_pos (show out.length < 17592186044416 by omega)]
  refine Ev.bind (at_ev na n (by omega)) ?_
  by_cases c : ix na n ≥ 0
  ·have := (ix_in (ix_ge.1 c)).2
   simp only [if_pos c, if_pos (show 0 ≤ ix na n by omega), if_pos (show ix na n < (x.length : Int) by omega)]
   refine joinS_l3 R hR hRl x y hx hy i m la lb ys (j + 1) (out ++ [rd x (ix na n)]) i3 (by simp [ho]) i1 ?_
   simpa [jt, c] using hr
  ·have hnn : n ∈ nb := hn.resolve_left (fun h => c (ix_ge.2 h))
   have hb := ix_in hnn
   simp only [if_neg c]
   refine Ev.bind (at_ev nb n (by omega)) ?_
   simp only [if_pos hb.1, if_pos (show ix nb n < (y.length : Int) by omega)]
   refine joinS_l3 R hR hRl x y hx hy i m la lb ys (j + 1) (out ++ [rd y (ix nb n)]) i3 (by simp [ho]) i1 ?_
   simpa [jt, c] using hr
theorem joinI_l2 {r : List Int × List (List Int) × Bool} (R : List (List Int)) (hRl : R.length < 1000000) (x y : List Int) (hx : x.length = na.length) (hy : y.length = nb.length) (i m la lb : Int) : ∀ (ys : List Int) (j : Nat) (out : List Int), names.drop j = ys → out.length = j →
  Ev (fun k => impl_JoinTwo.l1 k com names (R ++ [out ++ jt na nb x y ys]) x ta la i tb lb (wrap64 (m + 1)) na ta nb tb) r → Ev (fun k => impl_JoinTwo.l2 k com names R x y out ta la i tb lb m names (names.length : Int) (j : Int) na ta nb tb) r
 | [], j, out, h, ho, hr => by
  have h2 := drop_nil h
  refine ev_succ ?_
  simp only [impl_JoinTwo.l2]
  simp only [if_neg (show ¬ ((j : Int) < (names.length : Int)) by omega), if_pos (show R.length < 5864062014805 by omega)]
  rw [jt, List.map_nil, List.append_nil] at hr
  exact hr
 | n :: ys, j, out, h, ho, hr => by
  obtain ⟨i1, i2, i3⟩ := drop_cons h
  have hn := hor n (List.mem_of_getElem? i2)
  refine ev_succ ?_
  simp only [impl_JoinTwo.l2]
  simp only [if_pos (show (j : Int) < (names.length : Int) by omega), if_pos (show (0 : Int) ≤ (j : Int) by omega), rd_drop h, wrap_succ (show j < 9223372036854775807 by omega), if_pos (show out.length < 17592186044416 by omega)]
  refine Ev.bind (index_ev na n (by omega)) ?_
  by_cases c : ix na n ≥ 0
  ·have := (ix_in (ix_ge.1 c)).2
   simp only [if_pos c, if_pos (show 0 ≤ ix na n by omega), if_pos (show ix na n < (x.length : Int) by omega)]
   refine joinI_l2 R hRl x y hx hy i m la lb ys (j + 1) (out ++ [rd x (ix na n)]) i3 (by simp [ho]) ?_
   simpa [jt, c] using hr
  ·have hnn : n ∈ nb := hn.resolve_left (fun h => c (ix_ge.2 h))
   have hb := ix_in hnn
   simp only [if_neg c]
   refine Ev.bind (index_ev nb n (by omega)) ?_
   simp only [if_pos hb.1, if_pos (show ix nb n < (y.length : Int) by omega)]
   refine joinI_l2 R hRl x y hx hy i m la lb ys (j + 1) (out ++ [rd y (ix nb n)]) i3 (by simp [ho]) ?_
   simpa [jt, c] using hr
include htb hxb hcm hca hcb
theorem joinS_l2 {r : List Int × List (List Int) × Bool} (x : List Int) (hx : x.length = na.length) (i la : Int) : ∀ (ys : List (List Int)) (j : Nat) (R : List (List Int)), tb.drop j = ys → (∀ t ∈ R, t.length = names.length) → R.length + ys.length < 1000000 - 1 →
  Ev (fun k => spec_JoinTwo.l1 k names com (putsB ltL R ((fit na nb com x ys).map fun y => jt na nb x y names)) ta la (wrap64 (i + 1)) na ta nb tb) r → Ev (fun k => spec_JoinTwo.l2 k names com R x ta la i tb (tb.length : Int) (j : Int) na ta nb tb) r
 | [], j, R, h, hR, hl, hr => by
  have h2 := drop_nil h
  refine ev_succ ?_
  simp only [spec_JoinTwo.l2]
  simp only [if_neg (show ¬ ((j : Int) < (tb.length : Int)) by omega)]
  exact hr
 | y :: ys, j, R, h, hR, hl, hr => by
  obtain ⟨i1, i2, i3⟩ := drop_cons h
  have hy := hxb y (List.mem_of_getElem? i2)
  simp only [List.length_cons] at hl
  refine ev_succ ?_
  simp only [spec_JoinTwo.l2]
  simp only [if_pos (show (j : Int) < (tb.length : Int) by omega), if_pos (show (0 : Int) ≤ (j : Int) by omega), rdL1_drop h]
  refine Ev.bind (pick_ev na x com (by omega) hx (by omega) hca) (Ev.bind (pick_ev nb y com (by omega) hy (by omega) hcb) (Ev.bind (same_ev _ _ (by rw [pk_length]; omega)) ?_))
  by_cases c : pk na x com = pk nb y com
  ·simp only [if_pos (decide_eq_true c)]
   have hj := jt_length na nb x y names
   have hlen := insB_length (lt := ltL) (jt na nb x y names) R
   refine joinS_l3 na nb ta tb com names hna hnb hnm hor R hR (by omega) x y hx hy i (j : Int) la _ names 0 [] rfl rfl (Nat.zero_le _) ?_
   rw [wrap_succ (show j < 9223372036854775807 by omega), List.nil_append]
   refine joinS_l2 x hx i la ys (j + 1) _ i3 (insB_len hR hj) (by omega) ?_
   have e : fit na nb com x (y :: ys) = y :: fit na nb com x ys := by simp [fit, c]
   rw [e] at hr
   exact hr
  ·simp only [decide_eq_false c, Bool.false_eq_true, if_false, wrap_succ (show j < 9223372036854775807 by omega)]
   refine joinS_l2 x hx i la ys (j + 1) R i3 hR (by omega) ?_
   have e : fit na nb com x (y :: ys) = fit na nb com x ys := by simp [fit, c]
   rw [e] at hr
   exact hr
theorem joinI_l1 {r : List Int × List (List Int) × Bool} (x : List Int) (hx : x.length = na.length) (i la : Int) : ∀ (ys : List (List Int)) (j : Nat) (R : List (List Int)), tb.drop j = ys → R.length + ys.length < 1000000 →
  Ev (fun k => impl_JoinTwo.l0 k com names (R ++ (fit na nb com x ys).map fun y => jt na nb x y names) ta la (wrap64 (i + 1)) na ta nb tb) r → Ev (fun k => impl_JoinTwo.l1 k com names R x ta la i tb (tb.length : Int) (j : Int) na ta nb tb) r
 | [], j, R, h, hl, hr => by
  have h2 := drop_nil h
  refine ev_succ ?_
  simp only [impl_JoinTwo.l1]
  simp only [if_neg (show ¬ ((j : Int) < (tb.length : Int)) by omega)]
  simpa [fit] using hr
 | y :: ys, j, R, h, hl, hr => by
  obtain ⟨i1, i2, i3⟩ := drop_cons h
  have hy := hxb y (List.mem_of_getElem? i2)
  simp only [List.length_cons] at hl
  refine ev_succ ?_
  simp only [impl_JoinTwo.l1]
  simp only [if_pos (show (j : Int) < (tb.length : Int) by omega), if_pos (show (0 : Int) ≤ (j : Int) by omega), rdL1_drop h]
  refine Ev.bind (under_ev na x com (by omega) hx (by omega) hca) (Ev.bind (under_ev nb y com (by omega) hy (by omega) hcb) (Ev.bind (equal_ev _ _ (by rw [pk_length]; omega)) ?_))
  by_cases c : pk na x com = pk nb y com
  ·simp only [if_pos (decide_eq_true c)]
   refine joinI_l2 na nb ta tb com names hna hnb hnm hor R (by omega) x y hx hy i (j : Int) la _ names 0 [] rfl rfl ?_
   rw [wrap_succ (show j < 9223372036854775807 by omega), List.nil_append]
   refine joinI_l1 x hx i la ys (j + 1) _ i3 (by simp; omega) ?_
   have e : fit na nb com x (y :: ys) = y :: fit na nb com x ys := by simp [fit, c]
   rw [e] at hr
   simpa using hr
  ·simp only [decide_eq_false c, Bool.false_eq_true, if_false, wrap_succ (show j < 9223372036854775807 by omega)]
   refine joinI_l1 x hx i la ys (j + 1) R i3 (by omega) ?_
   have e : fit na nb com x (y :: ys) = fit na nb com x ys := by simp [fit, c]
   rw [e] at hr
   exact hr
include hta hxa
theorem joinS_l1 : ∀ (xs : List (List Int)) (j : Nat) (R : List (List Int)), ta.drop j = xs → (∀ t ∈ R, t.length = names.length) → R.length + xs.length * tb.length < 1000000 - 1 →
  Ev (fun k => spec_JoinTwo.l1 k names com R ta (ta.length : Int) (j : Int) na ta nb tb) (tell names (risen ltL (putsB ltL R (joined na nb com names tb xs))))
 | [], j, R, h, hR, hl => by
  have h2 := drop_nil h
  refine ev_succ ?_
  simp only [spec_JoinTwo.l1]
  simp only [if_neg (show ¬ ((j : Int) < (ta.length : Int)) by omega)]
  exact Ev.bind (l3Tell_ev names hnm names.length hnm R hR (by simp at hl; omega)) (ev_now rfl)
 | x :: xs, j, R, h, hR, hl => by
  obtain ⟨i1, i2, i3⟩ := drop_cons h
  have hx := hxa x (List.mem_of_getElem? i2)
  have hl2 : R.length + (tb.length + xs.length * tb.length) < 1000000 - 1 := by
   have e : (x :: xs).length * tb.length = tb.length + xs.length * tb.length := by simp [Nat.add_mul, Nat.add_comm]
   rw [e] at hl
   exact hl
  refine ev_succ ?_
  simp only [spec_JoinTwo.l1]
  simp only [if_pos (show (j : Int) < (ta.length : Int) by omega), if_pos (show (0 : Int) ≤ (j : Int) by omega), rdL1_drop h]
  have hp := putsB_length (lt := ltL) ((fit na nb com x tb).map fun y => jt na nb x y names) R
  have hf := List.length_filter_le (fun y => decide (pk na x com = pk nb y com)) tb
  have hf2 : ((fit na nb com x tb).map fun y => jt na nb x y names).length ≤ tb.length := by rw [List.length_map]; exact hf
  refine joinS_l2 na nb ta tb com names hna hnb htb hxb hnm hcm hca hcb hor x hx (j : Int) _ tb 0 R rfl hR (by omega) ?_
  rw [wrap_succ (show j < 9223372036854775807 by omega)]
  have ih := joinS_l1 xs (j + 1) (putsB ltL R ((fit na nb com x tb).map fun y => jt na nb x y names)) i3 (fun t ht => by
   rcases (mem_putsB t _ _).1 ht with h | h
   ·exact hR t h
   ·obtain ⟨y, _, rfl⟩ := List.mem_map.1 h
    exact jt_length _ _ _ _ _) (by omega)
  have e : putsB ltL (putsB ltL R ((fit na nb com x tb).map fun y => jt na nb x y names)) (joined na nb com names tb xs) = putsB ltL R (joined na nb com names tb (x :: xs)) := by
   simp [putsB, joined, List.foldl_append]
  rw [e] at ih
  exact ih
theorem joinI_l0 : ∀ (xs : List (List Int)) (j : Nat) (R : List (List Int)), ta.drop j = xs → (∀ t ∈ R, t.length = names.length) → R.length + xs.length * tb.length < 1000000 - 1 →
  Ev (fun k => impl_JoinTwo.l0 k com names R ta (ta.length : Int) (j : Int) na ta nb tb) (tell names (risen ltL (R ++ joined na nb com names tb xs)))
 | [], j, R, h, hR, hl => by
  have h2 := drop_nil h
  refine ev_succ ?_
  simp only [impl_JoinTwo.l0]
  simp only [if_neg (show ¬ ((j : Int) < (ta.length : Int)) by omega), related_eq names hnm names.length hnm R hR (by simp at hl; omega), Option.bind_some]
  exact ev_now (by simp [joined])
 | x :: xs, j, R, h, hR, hl => by
  obtain ⟨i1, i2, i3⟩ := drop_cons h
  have hx := hxa x (List.mem_of_getElem? i2)
  have hl2 : R.length + (tb.length + xs.length * tb.length) < 1000000 - 1 := by
   have e : (x :: xs).length * tb.length = tb.length + xs.length * tb.length := by simp [Nat.add_mul, Nat.add_comm]
   rw [e] at hl
   exact hl
  refine ev_succ ?_
  simp only [impl_JoinTwo.l0]
  simp only [if_pos (show (j : Int) < (ta.length : Int) by omega), if_pos (show (0 : Int) ≤ (j : Int) by omega), rdL1_drop h]
  have hf := List.length_filter_le (fun y => decide (pk na x com = pk nb y com)) tb
  have hf2 : ((fit na nb com x tb).map fun y => jt na nb x y names).length ≤ tb.length := by rw [List.length_map]; exact hf
  refine joinI_l1 na nb ta tb com names hna hnb htb hxb hnm hcm hca hcb hor x hx (j : Int) _ tb 0 R rfl (by omega) ?_
  rw [wrap_succ (show j < 9223372036854775807 by omega)]
  have ih := joinI_l0 xs (j + 1) (R ++ (fit na nb com x tb).map fun y => jt na nb x y names) i3 (fun t ht => by
   rcases List.mem_append.1 ht with h | h
   ·exact hR t h
   ·obtain ⟨y, _, rfl⟩ := List.mem_map.1 h
    exact jt_length _ _ _ _ _) (by rw [List.length_append]; omega)
  have e : (R ++ (fit na nb com x tb).map fun y => jt na nb x y names) ++ joined na nb com names tb xs = R ++ joined na nb com names tb (x :: xs) := by
   simp [joined]
  rw [e] at ih
  exact ih
end
theorem joinS_l0 (na nb : List Int) (ta tb : List (List Int)) (hna : na.length < 1000) (hnb : nb.length < 1000) {r : List Int × List (List Int) × Bool} : ∀ (ys : List Int) (j : Nat) (names com : List Int), nb.drop j = ys → names.length ≤ 1000 + j → com.length ≤ j → j ≤ nb.length →
  Ev (fun k => spec_JoinTwo.l1 k (puts names ys) (com ++ ys.filter fun n => decide (n ∈ na)) [] ta (ta.length : Int) 0 na ta nb tb) r → Ev (fun k => spec_JoinTwo.l0 k names com nb (nb.length : Int) (j : Int) na ta nb tb) r
 | [], j, names, com, h, h1, h2, h3, hr => by
  have h4 := drop_nil h
  refine ev_succ ?_
  simp only [spec_JoinTwo.l0]
  simp only [if_neg (show ¬ ((j : Int) < (nb.length : Int)) by omega)]
  simpa [puts] using hr
 | y :: ys, j, names, com, h, h1, h2, h3, hr => by
  obtain ⟨i1, i2, i3⟩ := drop_cons h
  have hp := ins_length y names
  refine ev_succ ?_
  simp only [spec_JoinTwo.l0]
  simp only [if_pos (show (j : Int) < (nb.length : Int) by omega), if_pos (show (0 : Int) ≤ (j : Int) by omega), rd_drop h, wrap_succ (show j < 9223372036854775807 by omega)]
  refine Ev.bind (at_ev na y (by omega)) ?_
  by_cases c : ix na y ≥ 0
  ·simp only [if_pos c, if_pos (show com.length < 17592186044416 by omega)]
   refine Ev.bind (l1Put_ev y names (by omega)) ?_
   refine joinS_l0 na nb ta tb hna hnb ys (j + 1) (ins names y) (com ++ [y]) i3 (by omega) (by simp; omega) i1 ?_
   have e : y ∈ na := ix_ge.1 c
   simpa [puts, e] using hr
  ·simp only [if_neg c]
   refine Ev.bind (l1Put_ev y names (by omega)) ?_
   refine joinS_l0 na nb ta tb hna hnb ys (j + 1) (ins names y) com i3 (by omega) (by omega) i1 ?_
   have e : y ∉ na := fun h => c (ix_ge.2 h)
   simpa [puts, e] using hr
def joV (na : List Int) (ta : List (List Int)) (nb : List Int) (tb : List (List Int)) : List Int × List (List Int) × Bool :=
 if gr na ta then (if gr nb tb then tell (puts na nb) (risen ltL (joined na nb (na.filter fun n => nb.contains n) (puts na nb) tb ta)) else ([], [], false)) else ([], [], false)
theorem com_eq {na nb : List Int} (ha : na.Pairwise (· < ·)) (hb : nb.Pairwise (· < ·)) : (nb.filter fun n => decide (n ∈ na)) = na.filter fun n => nb.contains n :=
 rising_uniq (hb.sublist List.filter_sublist) (ha.sublist List.filter_sublist) (fun x => by simp [List.mem_filter, and_comm])
theorem joinS_ev (na : List Int) (ta : List (List Int)) (nb : List Int) (tb : List (List Int)) (h0 : LnS na) (h1 : LnSS ta) (h2 : LnS nb) (h3 : LnSS tb) : Ev (fun k => spec_JoinTwo.f k na ta nb tb) (joV na ta nb tb) := by
 have no : Ev (fun k => spec_JoinTwo.j0 k true na ta nb tb) ([], [], false) := by
  refine ev_succ ?_
  simp only [spec_JoinTwo.j0, if_true]
  exact ev_now rfl
 simp only [spec_JoinTwo.f]
 refine Ev.bind (sGR_ev na ta h0 h1) ?_
 unfold joV
 cases ga : gr na ta
 ·simp only [Bool.false_eq_true, if_false]
  exact no
 ·simp only [if_true]
  refine Ev.bind (sGR_ev nb tb h2 h3) ?_
  cases gb : gr nb tb
  ·simp only [Bool.not_false, Bool.false_eq_true, if_false]
   exact no
  ·simp only [Bool.not_true, if_true]
   have la := gr_len ga
   have lb := gr_len gb
   have ra := (gr_rising ga).1
   have rb := (gr_rising gb).1
   have hpl : (puts na nb).length ≤ 21 := few (puts_rising nb ra) (fun x hx => by
    rcases (mem_puts x nb na).1 hx with h | h
    ·exact (gr_rising ga).2 x h
    ·exact (gr_rising gb).2 x h)
   refine ev_succ ?_
   simp only [spec_JoinTwo.j0, Bool.false_eq_true, if_false, Option.bind_some, List.length_nil, List.nil_append, if_pos (show 0 + na.length < 17592186044416 by omega)]
   refine joinS_l0 na nb ta tb (by omega) (by omega) nb 0 na [] rfl (by omega) (Nat.le_refl _) (Nat.zero_le _) ?_
   rw [List.nil_append, com_eq ra rb]
   have hcl := List.length_filter_le (fun n => nb.contains n) na
   have hm : ta.length * tb.length ≤ 60 * 60 := Nat.mul_le_mul la.2 lb.2
   have := joinS_l1 na nb ta tb (na.filter fun n => nb.contains n) (puts na nb) (by omega) (by omega) (by omega) (by omega) (gr_names ga).2 (gr_names gb).2 (by omega) (by omega) (fun n hn => (List.mem_filter.1 hn).1) (fun n hn => by simpa using (List.mem_filter.1 hn).2) (fun n hn => (mem_puts n nb na).1 hn) ta 0 [] rfl (by simp) (by simp; omega)
   have e : risen ltL (putsB ltL [] (joined na nb (na.filter fun n => nb.contains n) (puts na nb) tb ta)) = risen ltL (joined na nb (na.filter fun n => nb.contains n) (puts na nb) tb ta) := risen_idem ltL_ord _
   rw [e] at this
   exact this
theorem joinI_ev (na : List Int) (ta : List (List Int)) (nb : List Int) (tb : List (List Int)) (h0 : LnS na) (h1 : LnSS ta) (h2 : LnS nb) (h3 : LnSS tb) : Ev (fun k => impl_JoinTwo.f k na ta nb tb) (joV na ta nb tb) := by
 have no : Ev (fun k => impl_JoinTwo.j0 k true na ta nb tb) ([], [], false) := by
  refine ev_succ ?_
  simp only [impl_JoinTwo.j0, if_true]
  exact ev_now rfl
 simp only [impl_JoinTwo.f]
 refine Ev.bind (iGR_ev na ta h0 h1) ?_
 unfold joV
 cases ga : gr na ta
 ·simp only [Bool.false_eq_true, if_false]
  exact no
 ·simp only [if_true]
  refine Ev.bind (iGR_ev nb tb h2 h3) ?_
  cases gb : gr nb tb
  ·simp only [Bool.not_false, Bool.false_eq_true, if_false]
   exact no
  ·simp only [Bool.not_true, if_true]
   have la := gr_len ga
   have lb := gr_len gb
   have ra := (gr_rising ga).1
   have hpl : (puts na nb).length ≤ 21 := few (puts_rising nb ra) (fun x hx => by
    rcases (mem_puts x nb na).1 hx with h | h
    ·exact (gr_rising ga).2 x h
    ·exact (gr_rising gb).2 x h)
   refine ev_succ ?_
   simp only [impl_JoinTwo.j0, Bool.false_eq_true, if_false, impl_both.f, impl_together.f, if_pos (show na.length * 8 ≤ 140737488355328 by omega), if_pos (show (na.length + nb.length) * 8 ≤ 140737488351232 by omega), Option.bind_some, tog_puts ra]
   have hcl := List.length_filter_le (fun n => nb.contains n) na
   have hm : ta.length * tb.length ≤ 60 * 60 := Nat.mul_le_mul la.2 lb.2
   have := joinI_l0 na nb ta tb (na.filter fun n => nb.contains n) (puts na nb) (by omega) (by omega) (by omega) (by omega) (gr_names ga).2 (gr_names gb).2 (by omega) (by omega) (fun n hn => (List.mem_filter.1 hn).1) (fun n hn => by simpa using (List.mem_filter.1 hn).2) (fun n hn => (mem_puts n nb na).1 hn) ta 0 [] rfl (by simp) (by simp; omega)
   simpa using this
theorem joV_bd (na : List Int) (ta : List (List Int)) (nb : List Int) (tb : List (List Int)) : BdIntS (joV na ta nb tb).1 ∧ BdIntSS (joV na ta nb tb).2.1 := by
 unfold joV
 cases ga : gr na ta
 ·exact bd_nil
 ·simp only [if_true]
  cases gb : gr nb tb
  ·exact bd_nil
  ·simp only [if_true]
   have ra := (gr_rising ga).1
   have hpl : (puts na nb).length ≤ 21 := few (puts_rising nb ra) (fun x hx => by
    rcases (mem_puts x nb na).1 hx with h | h
    ·exact (gr_rising ga).2 x h
    ·exact (gr_rising gb).2 x h)
   refine tell_BdS _ _ (fun x hx => ?_)
   rw [mem_risen] at hx
   obtain ⟨s, _, h⟩ := List.mem_flatMap.1 hx
   obtain ⟨y, _, rfl⟩ := List.mem_map.1 h
   rw [jt_length]
   omega
end Go.Proofs.Ytcengijoicmldaa.Ax
