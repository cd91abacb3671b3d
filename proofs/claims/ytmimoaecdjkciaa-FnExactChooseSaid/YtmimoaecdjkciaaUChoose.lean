/- The law FnExactChoose over numbers and lists alone. No condition. -/
import Derived.Test.YtmimoaecdjkciaaPr1
import Derived.Test.YtmimoaecdjkciaaPr3
import Derived.Test.YtmimoaecdjkciaaPr4
import Derived.Test.YtmimoaecdjkciaaOps
import Derived.Test.YtmimoaecdjkciaaMerge1
import Derived.Test.YtmimoaecdjkciaaMerge0
namespace Go.Proofs.Ytmimoaecdjkciaa.Pu
open Go.RowKit Go.Proofs.Ytmimoaecdjkciaa.Pr Go.Proofs.Ytmimoaecdjkciaa.Pl Go.Proofs.Ytmimoaecdjkciaa.Ax Go.Proofs.Ytmimoaecdjkciaa.Ops Go.Proofs.YtmimoaecdjkciaaW.PrintWords Go.Proofs.YtmimoaecdjkciaaW.PrintLast Go.Proofs.YtmimoaecdjkciaaW.PrintMore
set_option linter.unusedVariables false
set_option linter.unusedSimpArgs false
theorem isSmall_eq (a : Int) : impl_isSmall.f a = some (win a (-1000) 1000) := by
  unfold impl_isSmall.f
  rw [within_eq]
  rfl
theorem ix_lt (ns : List Int) (n : Int) : ix ns n < ns.length := by
  by_cases h : n ∈ ns
  · exact (ix_in h).2
  · rw [ix_out h]; omega
/-- Is the tuple's number so? -/
def chP (kind n at_ : Int) (t : List Int) : Bool := decide (cmN kind (rd t at_) n = 2)
def chV (ns : List Int) (ts : List (List Int)) (name kind n : Int) : List Int × List (List Int) × Bool :=
  if gr ns ts then (if ix ns name < 0 then ([], [], false) else if win kind 0 2 && win n (-1000) 1000 then tell ns (risen ltL (ts.filter (chP kind n (ix ns name)))) else ([], [], false)) else ([], [], false)
theorem chooseS_l0 (ns : List Int) (hn : ns.length < 1000000) (ts : List (List Int)) (ht : ∀ t ∈ ts, t.length = ns.length) (hb : ts.length < 1000000) (kind n at_ : Int) (h0 : 0 ≤ at_) (h1 : at_ < ns.length) : ∀ (ys : List (List Int)) (j : Nat) (out : List (List Int)), ts.drop j = ys → out.length ≤ j → j ≤ ts.length → (∀ t ∈ out, t.length = ns.length) →
    Ev (fun k => spec_Choose.l0 k kind n at_ out ts (ts.length : Int) (j : Int) ns ts) (tell ns (risen ltL (out ++ ys.filter (chP kind n at_))))
  | [], j, out, h, ho, hj, hl => by
    have h2 := drop_nil h
    refine ev_succ ?_
    simp only [spec_Choose.l0]
    simp only [if_neg (show ¬ ((j : Int) < (ts.length : Int)) by omega)]
    refine Ev.bind (l3Tell_ev ns hn ns.length hn out hl (by omega)) (ev_now ?_)
    rw [List.filter_nil, List.append_nil]
  | y :: ys, j, out, h, ho, hj, hl => by
    obtain ⟨i1, i2, i3⟩ := drop_cons h
    have hy := ht y (List.mem_of_getElem? i2)
    refine ev_succ ?_
    simp only [spec_Choose.l0]
    simp only [if_pos (show (j : Int) < (ts.length : Int) by omega), if_pos (show (0 : Int) ≤ (j : Int) by omega), rdL1_drop h, wrap_succ (show j < 9223372036854775807 by omega), if_pos h0, if_pos (show at_ < (y.length : Int) by omega), if_pos (show out.length < 5864062014805 by omega)]
    refine Ev.bind (l1Compare_ev kind (rd y at_) n) ?_
    by_cases c : cmN kind (rd y at_) n = 2
    · simp only [if_pos c]
      have ih := chooseS_l0 ns hn ts ht hb kind n at_ h0 h1 ys (j + 1) (out ++ [y]) i3 (by simp; omega) i1 (fun t h => by
        rcases List.mem_append.1 h with h | h
        · exact hl t h
        · rw [List.mem_singleton.1 h]; exact hy)
      have e : chP kind n at_ y = true := by simp [chP, c]
      rw [List.filter_cons, if_pos e]
      simpa using ih
    · simp only [if_neg c]
      have ih := chooseS_l0 ns hn ts ht hb kind n at_ h0 h1 ys (j + 1) out i3 (by omega) i1 hl
      have e : ¬ chP kind n at_ y = true := by simp [chP, c]
      rw [List.filter_cons, if_neg e]
      exact ih
theorem chooseS_ev (ns : List Int) (ts : List (List Int)) (hN : LnS ns) (hT : LnSS ts) (name kind n : Int) : Ev (fun k => spec_Choose.f k ns ts name kind n) (chV ns ts name kind n) := by
  have no : ∀ at_ : Int, Ev (fun k => spec_Choose.j0 k kind n at_ true ns ts) ([], [], false) := fun at_ => by
    refine ev_succ ?_
    simp only [spec_Choose.j0, if_true]
    exact ev_now rfl
  simp only [spec_Choose.f]
  refine Ev.bind (at_ev ns name hN.1) (Ev.bind (sGR_ev ns ts hN hT) ?_)
  unfold chV
  cases hg : gr ns ts
  · simp only [Bool.false_eq_true, if_false]
    exact no _
  · simp only [if_true]
    by_cases ha : ix ns name < 0
    · simp only [if_pos ha]
      exact no _
    · simp only [if_neg ha, l1In_eq, Option.bind_some]
      cases hk : win kind 0 2
      · simp only [Bool.false_eq_true, if_false, Bool.false_and]
        exact no _
      · simp only [if_true, Bool.true_and]
        cases hw : win n (-1000) 1000
        · simp only [Bool.not_false, Bool.false_eq_true, if_false]
          exact no _
        · simp only [Bool.not_true, if_true]
          refine ev_succ ?_
          simp only [spec_Choose.j0, Bool.false_eq_true, if_false]
          have hl := gr_len hg
          have hx := ix_lt ns name
          have := chooseS_l0 ns (by omega) ts (gr_names hg).2 (by omega) kind n (ix ns name) (by omega) hx ts 0 [] rfl (Nat.le_refl _) (Nat.zero_le _) (by simp)
          simpa using this
theorem chooseI_l0 (ns : List Int) (hn : ns.length < 1000000) (ts : List (List Int)) (ht : ∀ t ∈ ts, t.length = ns.length) (hb : ts.length < 1000000) (kind n at_ : Int) (h0 : 0 ≤ at_) (h1 : at_ < ns.length) : ∀ (ys : List (List Int)) (j : Nat) (out : List (List Int)), ts.drop j = ys → out.length ≤ j → j ≤ ts.length → (∀ t ∈ out, t.length = ns.length) →
    Ev (fun k => impl_Choose.l0 k kind n at_ out ts (ts.length : Int) (j : Int) ns ts) (tell ns (risen ltL (out ++ ys.filter (chP kind n at_))))
  | [], j, out, h, ho, hj, hl => by
    have h2 := drop_nil h
    refine ev_succ ?_
    simp only [impl_Choose.l0]
    simp only [if_neg (show ¬ ((j : Int) < (ts.length : Int)) by omega)]
    simp only [related_eq ns hn ns.length hn out hl (by omega), Option.bind_some]
    refine ev_now ?_
    rw [List.filter_nil, List.append_nil]
  | y :: ys, j, out, h, ho, hj, hl => by
    obtain ⟨i1, i2, i3⟩ := drop_cons h
    have hy := ht y (List.mem_of_getElem? i2)
    refine ev_succ ?_
    simp only [impl_Choose.l0]
    simp only [if_pos (show (j : Int) < (ts.length : Int) by omega), if_pos (show (0 : Int) ≤ (j : Int) by omega), rdL1_drop h, wrap_succ (show j < 9223372036854775807 by omega), if_pos h0, if_pos (show at_ < (y.length : Int) by omega), if_pos (show out.length < 5864062014805 by omega)]
    refine Ev.bind (compareI_ev kind (rd y at_) n) ?_
    by_cases c : cmN kind (rd y at_) n = 2
    · simp only [if_pos c]
      have ih := chooseI_l0 ns hn ts ht hb kind n at_ h0 h1 ys (j + 1) (out ++ [y]) i3 (by simp; omega) i1 (fun t h => by
        rcases List.mem_append.1 h with h | h
        · exact hl t h
        · rw [List.mem_singleton.1 h]; exact hy)
      have e : chP kind n at_ y = true := by simp [chP, c]
      rw [List.filter_cons, if_pos e]
      simpa using ih
    · simp only [if_neg c]
      have ih := chooseI_l0 ns hn ts ht hb kind n at_ h0 h1 ys (j + 1) out i3 (by omega) i1 hl
      have e : ¬ chP kind n at_ y = true := by simp [chP, c]
      rw [List.filter_cons, if_neg e]
      exact ih
theorem chooseI_ev (ns : List Int) (ts : List (List Int)) (hN : LnS ns) (hT : LnSS ts) (name kind n : Int) : Ev (fun k => impl_Choose.f k ns ts name kind n) (chV ns ts name kind n) := by
  have no : ∀ at_ : Int, Ev (fun k => impl_Choose.j0 k kind n at_ true ns ts) ([], [], false) := fun at_ => by
    refine ev_succ ?_
    simp only [impl_Choose.j0, if_true]
    exact ev_now rfl
  simp only [impl_Choose.f]
  refine Ev.bind (index_ev ns name hN.1) (Ev.bind (iGR_ev ns ts hN hT) ?_)
  unfold chV
  cases hg : gr ns ts
  · simp only [Bool.false_eq_true, if_false]
    exact no _
  · simp only [if_true]
    by_cases ha : ix ns name < 0
    · simp only [if_pos ha]
      exact no _
    · simp only [if_neg ha, isKind_eq, isSmall_eq, Option.bind_some]
      cases hk : win kind 0 2
      · simp only [Bool.false_eq_true, if_false, Bool.false_and]
        exact no _
      · simp only [if_true, Bool.true_and]
        cases hw : win n (-1000) 1000
        · simp only [Bool.not_false, Bool.false_eq_true, if_false]
          exact no _
        · simp only [Bool.not_true, if_true]
          refine ev_succ ?_
          simp only [impl_Choose.j0, Bool.false_eq_true, if_false]
          have hl := gr_len hg
          have hx := ix_lt ns name
          have := chooseI_l0 ns (by omega) ts (gr_names hg).2 (by omega) kind n (ix ns name) (by omega) hx ts 0 [] rfl (Nat.le_refl _) (Nat.zero_le _) (by simp)
          simpa using this
theorem chV_bd (ns : List Int) (ts : List (List Int)) (name kind n : Int) : BdIntS (chV ns ts name kind n).1 ∧ BdIntSS (chV ns ts name kind n).2.1 := by
  unfold chV
  cases hg : gr ns ts
  · exact bd_nil
  · simp only [if_true]
    split
    · exact bd_nil
    · split
      · refine tell_BdS _ _ (fun x hx => ?_)
        rw [mem_risen] at hx
        have h1 := (gr_names hg).2 x (List.mem_filter.1 hx).1
        have h2 := (gr_len hg).1
        omega
      · exact bd_nil
theorem Choose_both (ns : List Int) (ts : List (List Int)) (a1 a2 a3 : Int) (h0 : BdIntS ns) (h1 : BdIntSS ts) : ∃ (y0 : List Int) (y1 : List (List Int)) (b : Bool), Ev (fun k => spec_Choose.f k ns ts a1 a2 a3) (y0, y1, b) ∧ Ev (fun k => impl_Choose.f k ns ts a1 a2 a3) (y0, y1, b) ∧ BdIntS y0 ∧ BdIntSS y1 :=
  ⟨(chV ns ts a1 a2 a3).1, (chV ns ts a1 a2 a3).2.1, (chV ns ts a1 a2 a3).2.2, chooseS_ev ns ts (ok_IntS h0) (ok_IntSS h1) a1 a2 a3, chooseI_ev ns ts (ok_IntS h0) (ok_IntSS h1) a1 a2 a3, (chV_bd ns ts a1 a2 a3).1, (chV_bd ns ts a1 a2 a3).2⟩
end Go.Proofs.Ytmimoaecdjkciaa.Pu
