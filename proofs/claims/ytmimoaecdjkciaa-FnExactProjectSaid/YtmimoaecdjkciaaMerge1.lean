/- Several small texts together: A3p, A3t, A3j, A3pr. No condition but those they name. -/
import Derived.Test.YtmimoaecdjkciaaPr1
import Derived.Test.YtmimoaecdjkciaaPr2
import Derived.Test.YtmimoaecdjkciaaPr4
import Derived.Test.YtmimoaecdjkciaaMerge0
import Derived.Test.YtmimoaecdjkciaaPr3
import Derived.Test.YtmimoaecdjkciaaERelated
import Derived.Test.YtmimoaecdjkciaaAc
/- What parts of names and the numbers under them tell. Conditions: lengths that Go can hold. -/
namespace Go.Proofs.Ytmimoaecdjkciaa.Ax
open Go.RowKit Go.Proofs.Ytmimoaecdjkciaa.Pr Go.Proofs.Ytmimoaecdjkciaa.Pl Go.Proofs.YtmimoaecdjkciaaW.PrintWords Go.Proofs.YtmimoaecdjkciaaW.PrintLast Go.Proofs.YtmimoaecdjkciaaW.PrintMore
set_option linter.unusedVariables false
set_option linter.unusedSimpArgs false
/-- Where a name stands, -1 for none. -/
def ixf (n : Int) : Nat → List Int → Int
  | _, [] => -1
  | j, x :: xs => if x = n then (j : Int) else ixf n (j + 1) xs
def ix (ns : List Int) (n : Int) : Int := ixf n 0 ns
theorem ixf_in (n : Int) : ∀ (xs : List Int) (j : Nat), n ∈ xs → (j : Int) ≤ ixf n j xs ∧ ixf n j xs < j + xs.length
  | [], j, h => by simp at h
  | x :: xs, j, h => by
    rw [ixf]
    by_cases e : x = n
    · rw [if_pos e]
      simp
      omega
    · rw [if_neg e]
      have := ixf_in n xs (j + 1) (by rcases List.mem_cons.1 h with h | h; exact absurd h.symm e; exact h)
      simp
      omega
theorem ixf_out (n : Int) : ∀ (xs : List Int) (j : Nat), n ∉ xs → ixf n j xs = -1
  | [], j, h => by rw [ixf]
  | x :: xs, j, h => by
    rw [ixf, if_neg (by intro e; exact h (by simp [e]))]
    exact ixf_out n xs (j + 1) (by intro e; exact h (by simp [e]))
theorem at_l0 (n : Int) (xs : List Int) (hb : xs.length < 9223372036854775807) : ∀ (ys : List Int) (j : Nat), xs.drop j = ys → Ev (fun k => spec_l3At.l0 k n xs (xs.length : Int) (j : Int)) (ixf n j ys)
  | [], j, h => by
    have h1 := drop_nil h
    refine ev_succ ?_
    simp only [spec_l3At.l0]
    simp only [if_neg (show ¬ ((j : Int) < (xs.length : Int)) by omega)]
    exact ev_now rfl
  | y :: ys, j, h => by
    obtain ⟨h1, h2, h3⟩ := drop_cons h
    refine ev_succ ?_
    simp only [spec_l3At.l0]
    simp only [if_pos (show (j : Int) < (xs.length : Int) by omega), if_pos (show (0 : Int) ≤ (j : Int) by omega), rd_drop h, wrap_succ (show j < 9223372036854775807 by omega)]
    rw [ixf]
    by_cases e : y = n
    · simp only [if_pos e]
      exact ev_now rfl
    · simp only [if_neg e]
      exact at_l0 n xs hb ys (j + 1) h3
theorem at_ev (ns : List Int) (n : Int) (hb : ns.length < 9223372036854775807) : Ev (fun k => spec_l3At.f k ns n) (ix ns n) := at_l0 n ns hb ns 0 rfl
theorem index_l0 (n : Int) (xs : List Int) (hb : xs.length < 9223372036854775807) : ∀ (ys : List Int) (j : Nat), xs.drop j = ys → Ev (fun k => slices_Index_int_int.l0 k xs n (xs.length : Int) (j : Int)) (ixf n j ys)
  | [], j, h => by
    have h1 := drop_nil h
    refine ev_succ ?_
    simp only [slices_Index_int_int.l0]
    simp only [if_neg (show ¬ ((j : Int) < (xs.length : Int)) by omega)]
    exact ev_now rfl
  | y :: ys, j, h => by
    obtain ⟨h1, h2, h3⟩ := drop_cons h
    refine ev_succ ?_
    simp only [slices_Index_int_int.l0]
    simp only [if_pos (show (j : Int) < (xs.length : Int) by omega), if_pos (show (0 : Int) ≤ (j : Int) by omega), rd_drop h, wrap_succ (show j < 9223372036854775807 by omega)]
    rw [ixf]
    by_cases e : n = y
    · simp only [if_pos e, if_pos e.symm]
      exact ev_now rfl
    · simp only [if_neg e, if_neg (show ¬ y = n from fun h => e h.symm)]
      exact index_l0 n xs hb ys (j + 1) h3
theorem index_ev (ns : List Int) (n : Int) (hb : ns.length < 9223372036854775807) : Ev (fun k => slices_Index_int_int.f k ns n) (ix ns n) := index_l0 n ns hb ns 0 rfl
theorem ix_in {ns : List Int} {n : Int} (h : n ∈ ns) : 0 ≤ ix ns n ∧ ix ns n < ns.length := by
  have := ixf_in n ns 0 h
  unfold ix
  omega
theorem ix_out {ns : List Int} {n : Int} (h : n ∉ ns) : ix ns n = -1 := ixf_out n ns 0 h
theorem has_ev (ns : List Int) (n : Int) (hb : ns.length < 9223372036854775807) : Ev (fun k => slices_Contains_int_int.f k ns n) (decide (n ∈ ns)) := by
  simp only [slices_Contains_int_int.f]
  refine Ev.bind (index_ev ns n hb) (ev_now ?_)
  by_cases h : n ∈ ns
  · have := (ix_in h).1
    simp [h, this]
  · rw [ix_out h]
    simp [h]
/-- Do numbers rise, and are all among others? -/
def pt (ns : List Int) : Option Int → List Int → Bool
  | _, [] => true
  | p, x :: xs => decide (x ∈ ns) && (match p with | none => true | some q => decide (q < x)) && pt ns (some x) xs
theorem pt_nil (ns : List Int) (p : Option Int) : pt ns p [] = true := by cases p <;> rfl
theorem pt_cons (ns : List Int) (p : Option Int) (x : Int) (xs : List Int) : pt ns p (x :: xs) = (decide (x ∈ ns) && (match p with | none => true | some q => decide (q < x)) && pt ns (some x) xs) := by cases p <;> rfl
theorem pt_mem {ns : List Int} : ∀ {l : List Int} {p : Option Int}, pt ns p l = true → ∀ x ∈ l, x ∈ ns
  | [], p, h, x, hx => by simp at hx
  | y :: ys, p, h, x, hx => by
    rw [pt_cons] at h
    simp only [Bool.and_eq_true, decide_eq_true_eq] at h
    rcases List.mem_cons.1 hx with rfl | hx
    · exact h.1.1
    · exact pt_mem h.2 x hx
theorem pt_eq {ns : List Int} (hN : ∀ n ∈ ns, win n 0 20 = true) : ∀ (l : List Int) (p : Option Int), pt ns p l = ((l.all fun x => decide (x ∈ ns)) && rs 0 20 p l)
  | [], p => by rw [pt_nil, rs_nil]; rfl
  | x :: xs, p => by
    rw [pt_cons, rs_cons, List.all_cons, pt_eq hN xs]
    by_cases h : x ∈ ns
    · rw [hN x h, decide_eq_true h]
      cases p <;> cases (xs.all fun x => decide (x ∈ ns)) <;> simp
    · rw [decide_eq_false h]
      rfl
theorem isPart_l0 (ns : List Int) (hn : ns.length < 9223372036854775807) (xs : List Int) (hb : xs.length < 9223372036854775807) : ∀ (ys : List Int) (j : Nat), xs.drop j = ys →
    Ev (fun k => impl_isPart.l0 k xs ns xs (xs.length : Int) (j : Int)) (pt ns (if j = 0 then none else some (rd xs ((j : Int) - 1))) ys)
  | [], j, h => by
    have h1 := drop_nil h
    refine ev_succ ?_
    simp only [impl_isPart.l0]
    simp only [if_neg (show ¬ ((j : Int) < (xs.length : Int)) by omega)]
    exact ev_now (pt_nil _ _).symm
  | y :: ys, j, h => by
    obtain ⟨h1, h2, h3⟩ := drop_cons h
    have ih := isPart_l0 ns hn xs hb ys (j + 1) h3
    have ep : rd xs (((j + 1 : Nat) : Int) - 1) = y := by rw [show ((j + 1 : Nat) : Int) - 1 = (j : Int) by omega]; exact rd_drop h
    rw [if_neg (by omega), ep] at ih
    refine ev_succ ?_
    simp only [impl_isPart.l0]
    simp only [if_pos (show (j : Int) < (xs.length : Int) by omega), if_pos (show (0 : Int) ≤ (j : Int) by omega), rd_drop h, wrap_succ (show j < 9223372036854775807 by omega)]
    refine Ev.bind (has_ev ns y hn) ?_
    rw [pt_cons]
    by_cases e : y ∈ ns
    · simp only [decide_eq_true e, if_true]
      by_cases hj : j = 0
      · subst hj
        simp only [if_neg (show ¬ (((0 : Nat) : Int) > 0) by omega)]
        simpa using ih
      · simp only [if_pos (show (j : Int) > 0 by omega), wrap_in (show -9223372036854775808 ≤ (j : Int) - 1 by omega) (show (j : Int) - 1 < 9223372036854775808 by omega), if_pos (show 0 ≤ (j : Int) - 1 by omega), if_pos (show (j : Int) - 1 < (xs.length : Int) by omega), if_neg hj]
        by_cases hk : rd xs ((j : Int) - 1) ≥ y
        · simp only [if_pos hk]
          exact ev_now (by simp; intro h; omega)
        · simp only [if_neg hk]
          simpa [show rd xs ((j : Int) - 1) < y by omega] using ih
    · simp only [decide_eq_false e, Bool.false_eq_true, if_false]
      exact ev_now (by simp)
theorem isPart_ev (xs ns : List Int) (hb : xs.length < 9223372036854775807) (hn : ns.length < 9223372036854775807) : Ev (fun k => impl_isPart.f k xs ns) (pt ns none xs) := isPart_l0 ns hn xs hb xs 0 rfl
theorem l3Sub_l0 (ns : List Int) (hn : ns.length < 9223372036854775807) (zs : List Int) (hz : zs.length < 9223372036854775807) (xs : List Int) (hb : xs.length < 9223372036854775807) : ∀ (ys : List Int) (j : Nat), xs.drop j = ys →
    Ev (fun k => spec_l3Sub.l0 k ns zs xs (xs.length : Int) (j : Int)) ((ys.all fun x => decide (x ∈ ns)) && rs 0 20 none zs)
  | [], j, h => by
    have h1 := drop_nil h
    refine ev_succ ?_
    simp only [spec_l3Sub.l0]
    simp only [if_neg (show ¬ ((j : Int) < (xs.length : Int)) by omega)]
    exact Ev.bind (l1Rising_ev zs 0 20 hz) (ev_now (by simp))
  | y :: ys, j, h => by
    obtain ⟨h1, h2, h3⟩ := drop_cons h
    have ih := l3Sub_l0 ns hn zs hz xs hb ys (j + 1) h3
    refine ev_succ ?_
    simp only [spec_l3Sub.l0]
    simp only [if_pos (show (j : Int) < (xs.length : Int) by omega), if_pos (show (0 : Int) ≤ (j : Int) by omega), rd_drop h, wrap_succ (show j < 9223372036854775807 by omega)]
    refine Ev.bind (at_ev ns y hn) ?_
    by_cases e : y ∈ ns
    · have := (ix_in e).1
      simp only [if_neg (show ¬ ix ns y < 0 by omega)]
      simpa [e] using ih
    · rw [ix_out e]
      simp only [if_pos (show (-1 : Int) < 0 by omega)]
      exact ev_now (by simp [e])
theorem l3Sub_ev (ns xs : List Int) (hn : ns.length < 9223372036854775807) (hb : xs.length < 9223372036854775807) : Ev (fun k => spec_l3Sub.f k ns xs) ((xs.all fun x => decide (x ∈ ns)) && rs 0 20 none xs) := l3Sub_l0 ns hn xs hb xs hb xs 0 rfl
/-- The numbers of a tuple under some names. -/
def pk (ns t some_ : List Int) : List Int := some_.map fun n => rd t (ix ns n)
theorem pick_l0 (ns t : List Int) (hn : ns.length < 9223372036854775807) (ht : t.length = ns.length) (xs : List Int) (hb : xs.length ≤ 1048576) (hx : ∀ x ∈ xs, x ∈ ns) : ∀ (ys : List Int) (j : Nat) (out : List Int), xs.drop j = ys → out.length = j →
    Ev (fun k => spec_l3Pick.l0 k ns t out xs (xs.length : Int) (j : Int)) (out ++ pk ns t ys)
  | [], j, out, h, ho => by
    have h1 := drop_nil h
    refine ev_succ ?_
    simp only [spec_l3Pick.l0]
    simp only [if_neg (show ¬ ((j : Int) < (xs.length : Int)) by omega)]
    exact ev_now (by simp [pk])
  | y :: ys, j, out, h, ho => by
    obtain ⟨h1, h2, h3⟩ := drop_cons h
    have hi := ix_in (hx y (List.mem_of_getElem? h2))
    refine ev_succ ?_
    simp only [spec_l3Pick.l0]
    simp only [if_pos (show (j : Int) < (xs.length : Int) by omega), if_pos (show (0 : Int) ≤ (j : Int) by omega), rd_drop h, wrap_succ (show j < 9223372036854775807 by omega)]
    refine Ev.bind (at_ev ns y hn) ?_
    simp only [if_pos hi.1, if_pos (show ix ns y < (t.length : Int) by omega), if_pos (show out.length < 17592186044416 by omega)]
    have := pick_l0 ns t hn ht xs hb hx ys (j + 1) (out ++ [rd t (ix ns y)]) h3 (by simp [ho])
    simpa [pk] using this
theorem pick_ev (ns t xs : List Int) (hn : ns.length < 9223372036854775807) (ht : t.length = ns.length) (hb : xs.length ≤ 1048576) (hx : ∀ x ∈ xs, x ∈ ns) : Ev (fun k => spec_l3Pick.f k ns t xs) (pk ns t xs) := by
  have := pick_l0 ns t hn ht xs hb hx xs 0 [] rfl rfl
  simpa [spec_l3Pick.f] using this
theorem under_l0 (ns t : List Int) (hn : ns.length < 9223372036854775807) (ht : t.length = ns.length) (xs : List Int) (hb : xs.length ≤ 1048576) (hx : ∀ x ∈ xs, x ∈ ns) : ∀ (ys : List Int) (j : Nat) (out : List Int), xs.drop j = ys → out.length = j →
    Ev (fun k => impl_under.l0 k ns t out xs (xs.length : Int) (j : Int)) (out ++ pk ns t ys)
  | [], j, out, h, ho => by
    have h1 := drop_nil h
    refine ev_succ ?_
    simp only [impl_under.l0]
    simp only [if_neg (show ¬ ((j : Int) < (xs.length : Int)) by omega)]
    exact ev_now (by simp [pk])
  | y :: ys, j, out, h, ho => by
    obtain ⟨h1, h2, h3⟩ := drop_cons h
    have hi := ix_in (hx y (List.mem_of_getElem? h2))
    refine ev_succ ?_
    simp only [impl_under.l0]
    simp only [if_pos (show (j : Int) < (xs.length : Int) by omega), if_pos (show (0 : Int) ≤ (j : Int) by omega), rd_drop h, wrap_succ (show j < 9223372036854775807 by omega)]
    refine Ev.bind (index_ev ns y hn) ?_
    simp only [if_pos hi.1, if_pos (show ix ns y < (t.length : Int) by omega), if_pos (show out.length < 17592186044416 by omega)]
    have := under_l0 ns t hn ht xs hb hx ys (j + 1) (out ++ [rd t (ix ns y)]) h3 (by simp [ho])
    simpa [pk] using this
theorem under_ev (ns t xs : List Int) (hn : ns.length < 9223372036854775807) (ht : t.length = ns.length) (hb : xs.length ≤ 1048576) (hx : ∀ x ∈ xs, x ∈ ns) : Ev (fun k => impl_under.f k ns t xs) (pk ns t xs) := by
  have := under_l0 ns t hn ht xs hb hx xs 0 [] rfl rfl
  simpa [impl_under.f] using this
theorem tp_len {n : Nat} : ∀ {ts : List (List Int)} {p : Option (List Int)}, tp n p ts = true → ∀ t ∈ ts, t.length = n
  | [], p, h, t, ht => by simp at ht
  | y :: ys, p, h, t, ht => by
    rw [tp_cons] at h
    simp only [Bool.and_eq_true, decide_eq_true_eq] at h
    rcases List.mem_cons.1 ht with rfl | ht
    · exact h.1.1.1
    · exact tp_len h.2 t ht
theorem rs_win {lo hi : Int} : ∀ {l : List Int} {p : Option Int}, rs lo hi p l = true → ∀ x ∈ l, win x lo hi = true
  | [], p, h, x, hx => by simp at hx
  | y :: ys, p, h, x, hx => by
    rw [rs_cons] at h
    simp only [Bool.and_eq_true] at h
    rcases List.mem_cons.1 hx with rfl | hx
    · exact h.1.1
    · exact rs_win h.2 x hx
end Go.Proofs.Ytmimoaecdjkciaa.Ax

/- The relation of tuples in any order, on both sides. Conditions: tuples of one length; lengths that Go can hold. -/
namespace Go.Proofs.Ytmimoaecdjkciaa.Ax
open Go.RowKit Go.Proofs.Ytmimoaecdjkciaa.Pr Go.Proofs.Ytmimoaecdjkciaa.Pl Go.Proofs.YtmimoaecdjkciaaW.PrintWords Go.Proofs.YtmimoaecdjkciaaW.PrintLast Go.Proofs.YtmimoaecdjkciaaW.PrintMore
set_option linter.unusedVariables false
set_option linter.unusedSimpArgs false
theorem lt_ltL : ∀ a b : List Int, a.length = b.length → lt a b = ltL a b
  | [], [], _ => by simp [lt, ltL, cmpL]
  | [], _ :: _, h => by simp at h
  | _ :: _, [], h => by simp at h
  | x :: xs, y :: ys, h => by
    have ih := lt_ltL xs ys (by simpa using h)
    simp only [ltL] at ih
    simp only [lt, ltL, cmpL]
    by_cases e : x = y
    · subst e
      simp [ih]
    · rw [if_neg e]
      by_cases e2 : x < y
      · simp [e2]
      · simp [e2, show y < x by omega]
theorem l3Add_l0 (n : Nat) (t : List Int) (ht : t.length = n) (hn : n < 1000000) (l : List (List Int)) (hl : ∀ x ∈ l, x.length = n) (hb : l.length < 1000000) : ∀ (ys : List (List Int)) (j : Nat), l.drop j = ys → j ≤ l.length → (∀ x ∈ l.take j, ltL x t = true) → Ev (fun k => spec_l3Add.l0 k l t (j : Int)) (insB ltL l t)
  | [], j, h, hjl, hp => by
    have hj := drop_nil h
    refine ev_succ ?_
    simp only [spec_l3Add.l0]
    have htk : l.take j = l := List.take_of_length_le hj
    rw [htk] at hp
    have e : insB ltL l t = l ++ [t] := by
      have := insB_split t l [] hp
      simpa [insB] using this
    have hje : j = l.length := by omega
    subst hje
    simp only [if_neg (show ¬ ((l.length : Int) < (l.length : Int)) by omega), Option.bind_some, if_pos (show (0 : Int) ≤ (l.length : Int) by omega), if_pos (show (l.length : Int) ≤ (l.length : Int) by omega), Int.toNat_natCast, List.take_length, List.drop_length, List.length_nil, List.nil_append, List.append_nil, List.length_append, List.length_singleton]
    simp only [if_pos (show 0 + l.length < 5864062014805 by omega), if_pos (show 0 + t.length < 17592186044416 by omega), if_pos (show l.length < 5864062014805 by omega), if_pos (show 0 + l.length + 1 + 0 < 5864062014805 by omega)]
    exact ev_now e.symm
  | y :: ys, j, h, hjl, hp => by
    obtain ⟨i1, i2, i3⟩ := drop_cons h
    have hsplit : l = l.take j ++ (y :: ys) := by rw [← h, List.take_append_drop]
    have hi : insB ltL l t = l.take j ++ insB ltL (y :: ys) t := by
      have := insB_split t (l.take j) (y :: ys) hp
      rwa [← hsplit] at this
    have hyn := hl y (List.mem_of_getElem? i2)
    have htl : (l.take j).length = j := by rw [List.length_take]; omega
    have hdl : (l.drop j).length = l.length - j := List.length_drop
    refine ev_succ ?_
    simp only [spec_l3Add.l0]
    simp only [if_pos (show (j : Int) < (l.length : Int) by omega), if_pos (show (0 : Int) ≤ (j : Int) by omega), rdL1_drop h, wrap_succ (show j < 9223372036854775807 by omega)]
    refine Ev.bind (l3Less_ev y t (by omega) (by omega)) ?_
    rw [lt_ltL y t (by omega)]
    by_cases c1 : ltL y t = true
    · simp only [if_pos c1]
      refine l3Add_l0 n t ht hn l hl hb ys (j + 1) i3 i1 (fun x hx => ?_)
      rw [List.take_add_one, i2] at hx
      rcases List.mem_append.1 hx with hx | hx
      · exact hp x hx
      · have : x = y := by simpa using hx
        rw [this]
        exact c1
    · simp only [if_neg c1]
      refine Ev.bind (same_ev y t (by omega)) ?_
      by_cases c2 : y = t
      · simp only [if_pos (decide_eq_true c2)]
        refine ev_now ?_
        rw [hi, insB, if_neg c1, if_pos c2, ← hsplit]
      · simp only [decide_eq_false c2, Bool.false_eq_true, if_false, Option.bind_some, if_pos (show (j : Int) ≤ (l.length : Int) by omega), Int.toNat_natCast, List.nil_append, List.length_nil, List.length_append, List.length_singleton, htl, hdl]
        simp only [if_pos (show 0 + j < 5864062014805 by omega), if_pos (show 0 + t.length < 17592186044416 by omega), if_pos (show j < 5864062014805 by omega), if_pos (show 0 + j + 1 + (l.length - j) < 5864062014805 by omega)]
        refine ev_now ?_
        rw [hi, insB, if_neg c1, if_neg c2, h]
        simp
theorem l3Add_ev (n : Nat) (t : List Int) (ht : t.length = n) (hn : n < 1000000) (l : List (List Int)) (hl : ∀ x ∈ l, x.length = n) (hb : l.length < 1000000) : Ev (fun k => spec_l3Add.f k l t) (insB ltL l t) := l3Add_l0 n t ht hn l hl hb l 0 rfl (Nat.zero_le _) (by simp)
/-- A relation, where it is good. -/
def tell (names : List Int) (r : List (List Int)) : List Int × List (List Int) × Bool := if gr names r then (names, r, true) else ([], [], false)
theorem insB_len {n : Nat} {l : List (List Int)} {t : List Int} (hl : ∀ x ∈ l, x.length = n) (ht : t.length = n) : ∀ x ∈ insB ltL l t, x.length = n := fun x hx => by
  rcases (mem_insB t x l).1 hx with h | h
  · rw [h]; exact ht
  · exact hl x h
theorem l3Tell_l0 (names : List Int) (hnm : names.length < 1000000) (n : Nat) (hn : n < 1000000) (l : List (List Int)) (hl : ∀ x ∈ l, x.length = n) : ∀ (ys : List (List Int)) (j : Nat) (R : List (List Int)), l.drop j = ys → (∀ x ∈ R, x.length = n) → R.length + ys.length < 1000000 → l.length < 1000000 →
    Ev (fun k => spec_l3Tell.l0 k l (l.length : Int) (j : Int) names R) (tell names (putsB ltL R ys))
  | [], j, R, h, hR, hb, hb2 => by
    have h1 := drop_nil h
    refine ev_succ ?_
    simp only [spec_l3Tell.l0]
    simp only [if_neg (show ¬ ((j : Int) < (l.length : Int)) by omega)]
    refine Ev.bind (sGR_ev names R (LnS_of (by omega)) ⟨by simp at hb; omega, fun e he => LnS_of (by rw [hR e he]; omega)⟩) ?_
    show Ev _ (tell names R)
    unfold tell
    cases gr names R
    · exact ev_now rfl
    · exact ev_now rfl
  | y :: ys, j, R, h, hR, hb, hb2 => by
    obtain ⟨h1, h2, h3⟩ := drop_cons h
    have hy := hl y (List.mem_of_getElem? h2)
    have hlen := insB_length (lt := ltL) y R
    simp only [List.length_cons] at hb
    refine ev_succ ?_
    simp only [spec_l3Tell.l0]
    simp only [if_pos (show (j : Int) < (l.length : Int) by omega), if_pos (show (0 : Int) ≤ (j : Int) by omega), rdL1_drop h, wrap_succ (show j < 9223372036854775807 by omega)]
    refine Ev.bind (l3Add_ev n y hy hn R hR (by omega)) ?_
    exact l3Tell_l0 names hnm n hn l hl ys (j + 1) (insB ltL R y) h3 (insB_len hR hy) (by omega) hb2
theorem l3Tell_ev (names : List Int) (hnm : names.length < 1000000) (n : Nat) (hn : n < 1000000) (l : List (List Int)) (hl : ∀ x ∈ l, x.length = n) (hb : l.length < 1000000) : Ev (fun k => spec_l3Tell.f k names l) (tell names (risen ltL l)) := by
  simp only [spec_l3Tell.f, Option.bind_some, List.nil_append, List.length_nil]
  simp only [if_pos (show 0 + names.length < 17592186044416 by omega)]
  exact l3Tell_l0 names hnm n hn l hl l 0 [] rfl (by simp) (by simpa using hb) hb
theorem related_eq (names : List Int) (hnm : names.length < 1000000) (n : Nat) (hn : n < 1000000) (l : List (List Int)) (hl : ∀ x ∈ l, x.length = n) (hb : l.length < 1000000) : impl_related.f names l = some (tell names (risen ltL l)) := by
  unfold impl_related.f
  rw [if_pos ⟨by omega, by omega, fun t ht => by rw [hl t ht]; omega⟩]
  rfl
theorem gr_len {names : List Int} {r : List (List Int)} (h : gr names r = true) : names.length ≤ 6 ∧ r.length ≤ 60 := by
  simp only [gr, Bool.and_eq_true, decide_eq_true_eq] at h
  exact ⟨h.1.1.1, h.1.2⟩
/-- What is told is small. -/
theorem tell_bd (names : List Int) (r : List (List Int)) (hr : ∀ x ∈ r, x.length ≤ 1000) : (tell names r).1.length ≤ 6 ∧ (tell names r).2.1.length ≤ 60 ∧ ∀ x ∈ (tell names r).2.1, x.length ≤ 1000 := by
  unfold tell
  cases h : gr names r
  · simp
  · have := gr_len h
    exact ⟨this.1, this.2, hr⟩
end Go.Proofs.Ytmimoaecdjkciaa.Ax

/- Names of good relations. No condition. -/

namespace Go.Proofs.Ytmimoaecdjkciaa.Ax
open Go.RowKit Go.Proofs.Ytmimoaecdjkciaa.Pr Go.Proofs.Ytmimoaecdjkciaa.Pl Go.Proofs.YtmimoaecdjkciaaW.PrintWords Go.Proofs.YtmimoaecdjkciaaW.PrintLast Go.Proofs.YtmimoaecdjkciaaW.PrintMore
set_option linter.unusedVariables false
set_option linter.unusedSimpArgs false
theorem gr_names {ns : List Int} {ts : List (List Int)} (h : gr ns ts = true) : (∀ n ∈ ns, win n 0 20 = true) ∧ ∀ t ∈ ts, t.length = ns.length := by
  simp only [gr, Bool.and_eq_true] at h
  exact ⟨rs_win h.1.1.2, tp_len h.2⟩
theorem rs_rising {lo hi : Int} : ∀ {l : List Int} {p : Option Int}, rs lo hi p l = true → l.Pairwise (· < ·) ∧ (∀ x ∈ l, lo ≤ x ∧ x ≤ hi) ∧ ∀ q, p = some q → ∀ x ∈ l, q < x
  | [], p, _ => ⟨List.Pairwise.nil, by simp, by simp⟩
  | x :: xs, p, h => by
    rw [rs_cons] at h
    simp only [Bool.and_eq_true] at h
    obtain ⟨⟨h1, h2⟩, h3⟩ := h
    obtain ⟨i1, i2, i3⟩ := rs_rising h3
    have hx := (win_iff x lo hi).1 h1
    refine ⟨List.pairwise_cons.2 ⟨i3 x rfl, i1⟩, fun z hz => ?_, fun q hq z hz => ?_⟩
    · rcases List.mem_cons.1 hz with e | e
      · rw [e]; exact hx
      · exact i2 z e
    · subst hq
      have hqx : q < x := by simpa using h2
      rcases List.mem_cons.1 hz with e | e
      · rw [e]; exact hqx
      · have := i3 x rfl z e
        omega
theorem gr_rising {ns : List Int} {ts : List (List Int)} (h : gr ns ts = true) : ns.Pairwise (· < ·) ∧ ∀ x ∈ ns, 0 ≤ x ∧ x ≤ 20 := by
  simp only [gr, Bool.and_eq_true] at h
  have := rs_rising h.1.1.2
  exact ⟨this.1, this.2.1⟩
theorem few {l : List Int} (h : l.Pairwise (· < ·)) (hb : ∀ x ∈ l, 0 ≤ x ∧ x ≤ 20) : l.length ≤ 21 := by
  have := rising_len (lo := 0) (hi := 21) h (fun x hx => by have := hb x hx; omega)
  omega
theorem tell_BdS (ns : List Int) (r : List (List Int)) (hr : ∀ x ∈ r, x.length ≤ 1000) : BdIntS (tell ns r).1 ∧ BdIntSS (tell ns r).2.1 := by
  obtain ⟨h1, h2, h3⟩ := tell_bd ns r hr
  exact ⟨⟨by omega, fun _ _ => trivial⟩, ⟨by omega, fun e he => ⟨by have := h3 e he; omega, fun _ _ => trivial⟩⟩⟩
theorem bd_nil : BdIntS [] ∧ BdIntSS [] := ⟨⟨by simp, by simp⟩, ⟨by simp, by simp⟩⟩
theorem pk_length (ns t s : List Int) : (pk ns t s).length = s.length := by simp [pk]
end Go.Proofs.Ytmimoaecdjkciaa.Ax

/- Project: what both sides come to. Conditions: lengths that Go can hold. -/
namespace Go.Proofs.Ytmimoaecdjkciaa.Ax
open Go.RowKit Go.Proofs.Ytmimoaecdjkciaa.Pr Go.Proofs.Ytmimoaecdjkciaa.Pl Go.Proofs.YtmimoaecdjkciaaW.PrintWords Go.Proofs.YtmimoaecdjkciaaW.PrintLast Go.Proofs.YtmimoaecdjkciaaW.PrintMore
set_option linter.unusedVariables false
set_option linter.unusedSimpArgs false
def prV (ns : List Int) (ts : List (List Int)) (names : List Int) : List Int × List (List Int) × Bool :=
  if gr ns ts then (if pt ns none names then tell names (risen ltL (ts.map fun t => pk ns t names)) else ([], [], false)) else ([], [], false)
theorem projectS_l0 (ns names : List Int) (hn : ns.length < 1000000) (hm : names.length < 1000000) (hx : ∀ x ∈ names, x ∈ ns) (ts : List (List Int)) (ht : ∀ t ∈ ts, t.length = ns.length) (hb : ts.length < 1000000) : ∀ (ys : List (List Int)) (j : Nat) (out : List (List Int)), ts.drop j = ys → out.length ≤ j → j ≤ ts.length → (∀ t ∈ out, t.length = names.length) →
    Ev (fun k => spec_Project.l0 k names out ts (ts.length : Int) (j : Int) ns ts) (tell names (risen ltL (out ++ ys.map fun t => pk ns t names)))
  | [], j, out, h, ho, hj, hl => by
    have h2 := drop_nil h
    refine ev_succ ?_
    simp only [spec_Project.l0]
    simp only [if_neg (show ¬ ((j : Int) < (ts.length : Int)) by omega)]
    refine Ev.bind (l3Tell_ev names hm names.length hm out hl (by omega)) (ev_now ?_)
    rw [List.map_nil, List.append_nil]
  | y :: ys, j, out, h, ho, hj, hl => by
    obtain ⟨i1, i2, i3⟩ := drop_cons h
    have hy := ht y (List.mem_of_getElem? i2)
    refine ev_succ ?_
    simp only [spec_Project.l0]
    simp only [if_pos (show (j : Int) < (ts.length : Int) by omega), if_pos (show (0 : Int) ≤ (j : Int) by omega), rdL1_drop h, wrap_succ (show j < 9223372036854775807 by omega), if_pos (show out.length < 5864062014805 by omega)]
    refine Ev.bind (pick_ev ns y names (by omega) hy (by omega) hx) ?_
    have ih := projectS_l0 ns names hn hm hx ts ht hb ys (j + 1) (out ++ [pk ns y names]) i3 (by simp; omega) i1 (fun t h => by
      rcases List.mem_append.1 h with h | h
      · exact hl t h
      · rw [List.mem_singleton.1 h]; exact pk_length _ _ _)
    simpa using ih
theorem projectS_ev (ns : List Int) (ts : List (List Int)) (names : List Int) (hN : LnS ns) (hT : LnSS ts) (hM : LnS names) : Ev (fun k => spec_Project.f k ns ts names) (prV ns ts names) := by
  have no : Ev (fun k => spec_Project.j0 k names true ns ts) ([], [], false) := by
    refine ev_succ ?_
    simp only [spec_Project.j0, if_true]
    exact ev_now rfl
  simp only [spec_Project.f]
  refine Ev.bind (sGR_ev ns ts hN hT) ?_
  unfold prV
  cases hg : gr ns ts
  · simp only [Bool.false_eq_true, if_false]
    exact no
  · simp only [if_true]
    refine Ev.bind (l3Sub_ev ns names hN.1 hM.1) ?_
    have hpe := pt_eq (gr_names hg).1 names none
    rw [← hpe]
    cases hp : pt ns none names
    · simp only [Bool.not_false, Bool.false_eq_true, if_false]
      exact no
    · simp only [Bool.not_true, if_true]
      refine ev_succ ?_
      simp only [spec_Project.j0, Bool.false_eq_true, if_false]
      have hl := gr_len hg
      have hx := pt_mem hp
      have hfew : names.length ≤ 21 := by
        rw [hpe, Bool.and_eq_true] at hp
        have := rs_rising hp.2
        exact few this.1 this.2.1
      have := projectS_l0 ns names (by omega) (by omega) hx ts (gr_names hg).2 (by omega) ts 0 [] rfl (Nat.le_refl _) (Nat.zero_le _) (by simp)
      simpa using this
theorem projectI_l0 (ns names : List Int) (hn : ns.length < 1000000) (hm : names.length < 1000000) (hx : ∀ x ∈ names, x ∈ ns) (ts : List (List Int)) (ht : ∀ t ∈ ts, t.length = ns.length) (hb : ts.length < 1000000) : ∀ (ys : List (List Int)) (j : Nat) (out : List (List Int)), ts.drop j = ys → out.length ≤ j → j ≤ ts.length → (∀ t ∈ out, t.length = names.length) →
    Ev (fun k => impl_Project.l0 k names out ts (ts.length : Int) (j : Int) ns ts) (tell names (risen ltL (out ++ ys.map fun t => pk ns t names)))
  | [], j, out, h, ho, hj, hl => by
    have h2 := drop_nil h
    refine ev_succ ?_
    simp only [impl_Project.l0]
    simp only [if_neg (show ¬ ((j : Int) < (ts.length : Int)) by omega)]
    simp only [related_eq names hm names.length hm out hl (by omega), Option.bind_some]
    refine ev_now ?_
    rw [List.map_nil, List.append_nil]
  | y :: ys, j, out, h, ho, hj, hl => by
    obtain ⟨i1, i2, i3⟩ := drop_cons h
    have hy := ht y (List.mem_of_getElem? i2)
    refine ev_succ ?_
    simp only [impl_Project.l0]
    simp only [if_pos (show (j : Int) < (ts.length : Int) by omega), if_pos (show (0 : Int) ≤ (j : Int) by omega), rdL1_drop h, wrap_succ (show j < 9223372036854775807 by omega), if_pos (show out.length < 5864062014805 by omega)]
    refine Ev.bind (under_ev ns y names (by omega) hy (by omega) hx) ?_
    have ih := projectI_l0 ns names hn hm hx ts ht hb ys (j + 1) (out ++ [pk ns y names]) i3 (by simp; omega) i1 (fun t h => by
      rcases List.mem_append.1 h with h | h
      · exact hl t h
      · rw [List.mem_singleton.1 h]; exact pk_length _ _ _)
    simpa using ih
theorem projectI_ev (ns : List Int) (ts : List (List Int)) (names : List Int) (hN : LnS ns) (hT : LnSS ts) (hM : LnS names) : Ev (fun k => impl_Project.f k ns ts names) (prV ns ts names) := by
  have no : Ev (fun k => impl_Project.j0 k names true ns ts) ([], [], false) := by
    refine ev_succ ?_
    simp only [impl_Project.j0, if_true]
    exact ev_now rfl
  simp only [impl_Project.f]
  refine Ev.bind (iGR_ev ns ts hN hT) ?_
  unfold prV
  cases hg : gr ns ts
  · simp only [Bool.false_eq_true, if_false]
    exact no
  · simp only [if_true]
    refine Ev.bind (isPart_ev names ns hM.1 hN.1) ?_
    have hpe := pt_eq (gr_names hg).1 names none
    cases hp : pt ns none names
    · simp only [Bool.not_false, Bool.false_eq_true, if_false]
      exact no
    · simp only [Bool.not_true, if_true]
      refine ev_succ ?_
      simp only [impl_Project.j0, Bool.false_eq_true, if_false]
      have hl := gr_len hg
      have hx := pt_mem hp
      have hfew : names.length ≤ 21 := by
        rw [hpe, Bool.and_eq_true] at hp
        have := rs_rising hp.2
        exact few this.1 this.2.1
      have := projectI_l0 ns names (by omega) (by omega) hx ts (gr_names hg).2 (by omega) ts 0 [] rfl (Nat.le_refl _) (Nat.zero_le _) (by simp)
      simpa using this
theorem prV_bd (ns : List Int) (ts : List (List Int)) (names : List Int) : BdIntS (prV ns ts names).1 ∧ BdIntSS (prV ns ts names).2.1 := by
  unfold prV
  cases hg : gr ns ts
  · exact bd_nil
  · simp only [if_true]
    cases hp : pt ns none names
    · exact bd_nil
    · simp only [if_true]
      have hfew : names.length ≤ 21 := by
        rw [pt_eq (gr_names hg).1 names none, Bool.and_eq_true] at hp
        have := rs_rising hp.2
        exact few this.1 this.2.1
      refine tell_BdS _ _ (fun x hx => ?_)
      rw [mem_risen] at hx
      obtain ⟨t, _, rfl⟩ := List.mem_map.1 hx
      rw [pk_length]
      omega
end Go.Proofs.Ytmimoaecdjkciaa.Ax
