/- What parts of names and the numbers under them tell. Conditions: lengths that Go can hold. -/
import Derived.Test.YtimmjgpagpkioaaPr4
import Derived.Test.YtimmjgpagpkioaaPr8
import Derived.Test.YtimmjgpagpkioaaA3
namespace Go.Proofs.Ytimmjgpagpkioaa.Ax
open Go.RowKit Go.Proofs.Ytimmjgpagpkioaa.Pr Go.Proofs.Ytimmjgpagpkioaa.Pl Go.Proofs.YtimmjgpagpkioaaW.PrintWords Go.Proofs.YtimmjgpagpkioaaW.PrintLast Go.Proofs.YtimmjgpagpkioaaW.PrintMore
set_option linter.unusedVariables false
set_option linter.unusedSimpArgs false
/-- Where a name stands, -1 for none. -/
def ixf (n : Int) : Nat → List Int → Int
  | _, [] => -1
  | j, x :: xs => if x = n then (j : Int) else ixf n (j + 1) xs
def ix (ns : List Int) (n : Int) : Int := ixf n 0 ns
theorem ixf_in (n : Int) : ∀ (xs : List Int) (j : Nat), n ∈ xs → (j : Int) ≤ ixf n j xs ∧ ixf n j xs < j + xs.length
  | [], j, h => by simp at h
  | x :: xs, j, h => by
    rw [ixf]
    by_cases e : x = n
    · rw [if_pos e]
      simp
      omega
    · rw [if_neg e]
      have := ixf_in n xs (j + 1) (by rcases List.mem_cons.1 h with h | h; exact absurd h.symm e; exact h)
      simp
      omega
theorem ixf_out (n : Int) : ∀ (xs : List Int) (j : Nat), n ∉ xs → ixf n j xs = -1
  | [], j, h => by rw [ixf]
  | x :: xs, j, h => by
    rw [ixf, if_neg (by intro e; exact h (by simp [e]))]
    exact ixf_out n xs (j + 1) (by intro e; exact h (by simp [e]))
theorem at_l0 (n : Int) (xs : List Int) (hb : xs.length < 9223372036854775807) : ∀ (ys : List Int) (j : Nat), xs.drop j = ys → Ev (fun k => spec_l3At.l0 k n xs (xs.length : Int) (j : Int)) (ixf n j ys)
  | [], j, h => by
    have h1 := drop_nil h
    refine ev_succ ?_
    simp only [spec_l3At.l0]
    simp only [if_neg (show ¬ ((j : Int) < (xs.length : Int)) by omega)]
    exact ev_now rfl
  | y :: ys, j, h => by
    obtain ⟨h1, h2, h3⟩ := drop_cons h
    refine ev_succ ?_
    simp only [spec_l3At.l0]
    simp only [if_pos (show (j : Int) < (xs.length : Int) by omega), if_pos (show (0 : Int) ≤ (j : Int) by omega), rd_drop h, wrap_succ (show j < 9223372036854775807 by omega)]
    rw [ixf]
    by_cases e : y = n
    · simp only [if_pos e]
      exact ev_now rfl
    · simp only [if_neg e]
      exact at_l0 n xs hb ys (j + 1) h3
theorem at_ev (ns : List Int) (n : Int) (hb : ns.length < 9223372036854775807) : Ev (fun k => spec_l3At.f k ns n) (ix ns n) := at_l0 n ns hb ns 0 rfl
theorem index_l0 (n : Int) (xs : List Int) (hb : xs.length < 9223372036854775807) : ∀ (ys : List Int) (j : Nat), xs.drop j = ys → Ev (fun k => slices_Index_int_int.l0 k xs n (xs.length : Int) (j : Int)) (ixf n j ys)
  | [], j, h => by
    have h1 := drop_nil h
    refine ev_succ ?_
    simp only [slices_Index_int_int.l0]
    simp only [if_neg (show ¬ ((j : Int) < (xs.length : Int)) by omega)]
    exact ev_now rfl
  | y :: ys, j, h => by
    obtain ⟨h1, h2, h3⟩ := drop_cons h
    refine ev_succ ?_
    simp only [slices_Index_int_int.l0]
    simp only [if_pos (show (j : Int) < (xs.length : Int) by omega), if_pos (show (0 : Int) ≤ (j : Int) by omega), rd_drop h, wrap_succ (show j < 9223372036854775807 by omega)]
    rw [ixf]
    by_cases e : n = y
    · simp only [if_pos e, if_pos e.symm]
      exact ev_now rfl
    · simp only [if_neg e, if_neg (show ¬ y = n from fun h => e h.symm)]
      exact index_l0 n xs hb ys (j + 1) h3
theorem index_ev (ns : List Int) (n : Int) (hb : ns.length < 9223372036854775807) : Ev (fun k => slices_Index_int_int.f k ns n) (ix ns n) := index_l0 n ns hb ns 0 rfl
theorem ix_in {ns : List Int} {n : Int} (h : n ∈ ns) : 0 ≤ ix ns n ∧ ix ns n < ns.length := by
  have := ixf_in n ns 0 h
  unfold ix
  omega
theorem ix_out {ns : List Int} {n : Int} (h : n ∉ ns) : ix ns n = -1 := ixf_out n ns 0 h
theorem has_ev (ns : List Int) (n : Int) (hb : ns.length < 9223372036854775807) : Ev (fun k => slices_Contains_int_int.f k ns n) (decide (n ∈ ns)) := by
  simp only [slices_Contains_int_int.f]
  refine Ev.bind (index_ev ns n hb) (ev_now ?_)
  by_cases h : n ∈ ns
  · have := (ix_in h).1
    simp [h, this]
  · rw [ix_out h]
    simp [h]
/-- Do numbers rise, and are all among others? -/
def pt (ns : List Int) : Option Int → List Int → Bool
  | _, [] => true
  | p, x :: xs => decide (x ∈ ns) && (match p with | none => true | some q => decide (q < x)) && pt ns (some x) xs
theorem pt_nil (ns : List Int) (p : Option Int) : pt ns p [] = true := by cases p <;> rfl
theorem pt_cons (ns : List Int) (p : Option Int) (x : Int) (xs : List Int) : pt ns p (x :: xs) = (decide (x ∈ ns) && (match p with | none => true | some q => decide (q < x)) && pt ns (some x) xs) := by cases p <;> rfl
theorem pt_mem {ns : List Int} : ∀ {l : List Int} {p : Option Int}, pt ns p l = true → ∀ x ∈ l, x ∈ ns
  | [], p, h, x, hx => by simp at hx
  | y :: ys, p, h, x, hx => by
    rw [pt_cons] at h
    simp only [Bool.and_eq_true, decide_eq_true_eq] at h
    rcases List.mem_cons.1 hx with rfl | hx
    · exact h.1.1
    · exact pt_mem h.2 x hx
theorem pt_eq {ns : List Int} (hN : ∀ n ∈ ns, win n 0 20 = true) : ∀ (l : List Int) (p : Option Int), pt ns p l = ((l.all fun x => decide (x ∈ ns)) && rs 0 20 p l)
  | [], p => by rw [pt_nil, rs_nil]; rfl
  | x :: xs, p => by
    rw [pt_cons, rs_cons, List.all_cons, pt_eq hN xs]
    by_cases h : x ∈ ns
    · rw [hN x h, decide_eq_true h]
      cases p <;> cases (xs.all fun x => decide (x ∈ ns)) <;> simp
    · rw [decide_eq_false h]
      rfl
theorem isPart_l0 (ns : List Int) (hn : ns.length < 9223372036854775807) (xs : List Int) (hb : xs.length < 9223372036854775807) : ∀ (ys : List Int) (j : Nat), xs.drop j = ys →
    Ev (fun k => impl_isPart.l0 k xs ns xs (xs.length : Int) (j : Int)) (pt ns (if j = 0 then none else some (rd xs ((j : Int) - 1))) ys)
  | [], j, h => by
    have h1 := drop_nil h
    refine ev_succ ?_
    simp only [impl_isPart.l0]
    simp only [if_neg (show ¬ ((j : Int) < (xs.length : Int)) by omega)]
    exact ev_now (pt_nil _ _).symm
  | y :: ys, j, h => by
    obtain ⟨h1, h2, h3⟩ := drop_cons h
    have ih := isPart_l0 ns hn xs hb ys (j + 1) h3
    have ep : rd xs (((j + 1 : Nat) : Int) - 1) = y := by rw [show ((j + 1 : Nat) : Int) - 1 = (j : Int) by omega]; exact rd_drop h
    rw [if_neg (by omega), ep] at ih
    refine ev_succ ?_
    simp only [impl_isPart.l0]
    simp only [if_pos (show (j : Int) < (xs.length : Int) by omega), if_pos (show (0 : Int) ≤ (j : Int) by omega), rd_drop h, wrap_succ (show j < 9223372036854775807 by omega)]
    refine Ev.bind (has_ev ns y hn) ?_
    rw [pt_cons]
    by_cases e : y ∈ ns
    · simp only [decide_eq_true e, if_true]
      by_cases hj : j = 0
      · subst hj
        simp only [if_neg (show ¬ (((0 : Nat) : Int) > 0) by omega)]
        simpa using ih
      · simp only [if_pos (show (j : Int) > 0 by omega), wrap_in (show -9223372036854775808 ≤ (j : Int) - 1 by omega) (show (j : Int) - 1 < 9223372036854775808 by omega), if_pos (show 0 ≤ (j : Int) - 1 by omega), if_pos (show (j : Int) - 1 < (xs.length : Int) by omega), if_neg hj]
        by_cases hk : rd xs ((j : Int) - 1) ≥ y
        · simp only [if_pos hk]
          exact ev_now (by simp; intro h; omega)
        · simp only [if_neg hk]
          simpa [show rd xs ((j : Int) - 1) < y by omega] using ih
    · simp only [decide_eq_false e, Bool.false_eq_true, if_false]
      exact ev_now (by simp)
theorem isPart_ev (xs ns : List Int) (hb : xs.length < 9223372036854775807) (hn : ns.length < 9223372036854775807) : Ev (fun k => impl_isPart.f k xs ns) (pt ns none xs) := isPart_l0 ns hn xs hb xs 0 rfl
theorem l3Sub_l0 (ns : List Int) (hn : ns.length < 9223372036854775807) (zs : List Int) (hz : zs.length < 9223372036854775807) (xs : List Int) (hb : xs.length < 9223372036854775807) : ∀ (ys : List Int) (j : Nat), xs.drop j = ys →
    Ev (fun k => spec_l3Sub.l0 k ns zs xs (xs.length : Int) (j : Int)) ((ys.all fun x => decide (x ∈ ns)) && rs 0 20 none zs)
  | [], j, h => by
    have h1 := drop_nil h
    refine ev_succ ?_
    simp only [spec_l3Sub.l0]
    simp only [if_neg (show ¬ ((j : Int) < (xs.length : Int)) by omega)]
    exact Ev.bind (l1Rising_ev zs 0 20 hz) (ev_now (by simp))
  | y :: ys, j, h => by
    obtain ⟨h1, h2, h3⟩ := drop_cons h
    have ih := l3Sub_l0 ns hn zs hz xs hb ys (j + 1) h3
    refine ev_succ ?_
    simp only [spec_l3Sub.l0]
    simp only [if_pos (show (j : Int) < (xs.length : Int) by omega), if_pos (show (0 : Int) ≤ (j : Int) by omega), rd_drop h, wrap_succ (show j < 9223372036854775807 by omega)]
    refine Ev.bind (at_ev ns y hn) ?_
    by_cases e : y ∈ ns
    · have := (ix_in e).1
      simp only [if_neg (show ¬ ix ns y < 0 by omega)]
      simpa [e] using ih
    · rw [ix_out e]
      simp only [if_pos (show (-1 : Int) < 0 by omega)]
      exact ev_now (by simp [e])
theorem l3Sub_ev (ns xs : List Int) (hn : ns.length < 9223372036854775807) (hb : xs.length < 9223372036854775807) : Ev (fun k => spec_l3Sub.f k ns xs) ((xs.all fun x => decide (x ∈ ns)) && rs 0 20 none xs) := l3Sub_l0 ns hn xs hb xs hb xs 0 rfl
/-- The numbers of a tuple under some names. -/
def pk (ns t some_ : List Int) : List Int := some_.map fun n => rd t (ix ns n)
theorem pick_l0 (ns t : List Int) (hn : ns.length < 9223372036854775807) (ht : t.length = ns.length) (xs : List Int) (hb : xs.length ≤ 1048576) (hx : ∀ x ∈ xs, x ∈ ns) : ∀ (ys : List Int) (j : Nat) (out : List Int), xs.drop j = ys → out.length = j →
    Ev (fun k => spec_l3Pick.l0 k ns t out xs (xs.length : Int) (j : Int)) (out ++ pk ns t ys)
  | [], j, out, h, ho => by
    have h1 := drop_nil h
    refine ev_succ ?_
    simp only [spec_l3Pick.l0]
    simp only [if_neg (show ¬ ((j : Int) < (xs.length : Int)) by omega)]
    exact ev_now (by simp [pk])
  | y :: ys, j, out, h, ho => by
    obtain ⟨h1, h2, h3⟩ := drop_cons h
    have hi := ix_in (hx y (List.mem_of_getElem? h2))
    refine ev_succ ?_
    simp only [spec_l3Pick.l0]
    simp only [if_pos (show (j : Int) < (xs.length : Int) by omega), if_pos (show (0 : Int) ≤ (j : Int) by omega), rd_drop h, wrap_succ (show j < 9223372036854775807 by omega)]
    refine Ev.bind (at_ev ns y hn) ?_
    simp only [if_pos hi.1, if_pos (show ix ns y < (t.length : Int) by omega), if_pos (show out.length < 17592186044416 by omega)]
    have := pick_l0 ns t hn ht xs hb hx ys (j + 1) (out ++ [rd t (ix ns y)]) h3 (by simp [ho])
    simpa [pk] using this
theorem pick_ev (ns t xs : List Int) (hn : ns.length < 9223372036854775807) (ht : t.length = ns.length) (hb : xs.length ≤ 1048576) (hx : ∀ x ∈ xs, x ∈ ns) : Ev (fun k => spec_l3Pick.f k ns t xs) (pk ns t xs) := by
  have := pick_l0 ns t hn ht xs hb hx xs 0 [] rfl rfl
  simpa [spec_l3Pick.f] using this
theorem under_l0 (ns t : List Int) (hn : ns.length < 9223372036854775807) (ht : t.length = ns.length) (xs : List Int) (hb : xs.length ≤ 1048576) (hx : ∀ x ∈ xs, x ∈ ns) : ∀ (ys : List Int) (j : Nat) (out : List Int), xs.drop j = ys → out.length = j →
    Ev (fun k => impl_under.l0 k ns t out xs (xs.length : Int) (j : Int)) (out ++ pk ns t ys)
  | [], j, out, h, ho => by
    have h1 := drop_nil h
    refine ev_succ ?_
    simp only [impl_under.l0]
    simp only [if_neg (show ¬ ((j : Int) < (xs.length : Int)) by omega)]
    exact ev_now (by simp [pk])
  | y :: ys, j, out, h, ho => by
    obtain ⟨h1, h2, h3⟩ := drop_cons h
    have hi := ix_in (hx y (List.mem_of_getElem? h2))
    refine ev_succ ?_
    simp only [impl_under.l0]
    simp only [if_pos (show (j : Int) < (xs.length : Int) by omega), if_pos (show (0 : Int) ≤ (j : Int) by omega), rd_drop h, wrap_succ (show j < 9223372036854775807 by omega)]
    refine Ev.bind (index_ev ns y hn) ?_
    simp only [if_pos hi.1, if_pos (show ix ns y < (t.length : Int) by omega), if_pos (show out.length < 17592186044416 by omega)]
    have := under_l0 ns t hn ht xs hb hx ys (j + 1) (out ++ [rd t (ix ns y)]) h3 (by simp [ho])
    simpa [pk] using this
theorem under_ev (ns t xs : List Int) (hn : ns.length < 9223372036854775807) (ht : t.length = ns.length) (hb : xs.length ≤ 1048576) (hx : ∀ x ∈ xs, x ∈ ns) : Ev (fun k => impl_under.f k ns t xs) (pk ns t xs) := by
  have := under_l0 ns t hn ht xs hb hx xs 0 [] rfl rfl
  simpa [impl_under.f] using this
theorem tp_len {n : Nat} : ∀ {ts : List (List Int)} {p : Option (List Int)}, tp n p ts = true → ∀ t ∈ ts, t.length = n
  | [], p, h, t, ht => by simp at ht
  | y :: ys, p, h, t, ht => by
    rw [tp_cons] at h
    simp only [Bool.and_eq_true, decide_eq_true_eq] at h
    rcases List.mem_cons.1 ht with rfl | ht
    · exact h.1.1.1
    · exact tp_len h.2 t ht
theorem rs_win {lo hi : Int} : ∀ {l : List Int} {p : Option Int}, rs lo hi p l = true → ∀ x ∈ l, win x lo hi = true
  | [], p, h, x, hx => by simp at hx
  | y :: ys, p, h, x, hx => by
    rw [rs_cons] at h
    simp only [Bool.and_eq_true] at h
    rcases List.mem_cons.1 hx with rfl | hx
    · exact h.1.1
    · exact rs_win h.2 x hx
end Go.Proofs.Ytimmjgpagpkioaa.Ax
