/- The law FnExactOneByOne over numbers and lists alone. No condition. -/
import Derived.Test.YtpnlkmpoaboncaaPr0
import Derived.Test.YtpnlkmpoaboncaaPr1
import Derived.Test.YtpnlkmpoaboncaaPr3
import Derived.Test.YtpnlkmpoaboncaaOps
import Derived.Test.YtpnlkmpoaboncaaA7
import Derived.Test.YtpnlkmpoaboncaaAhs
import Derived.Test.YtpnlkmpoaboncaaAmm
import Derived.Test.YtpnlkmpoaboncaaEIsOrder
import Derived.Test.YtpnlkmpoaboncaaPr3
namespace Go.Proofs.Ytpnlkmpoaboncaa.Pu
open Go.RowKit Go.Proofs.Ytpnlkmpoaboncaa.Pr Go.Proofs.Ytpnlkmpoaboncaa.Pl Go.Proofs.Ytpnlkmpoaboncaa.Ax Go.Proofs.Ytpnlkmpoaboncaa.Ops Go.Proofs.YtpnlkmpoaboncaaW.PrintWords Go.Proofs.YtpnlkmpoaboncaaW.PrintLast Go.Proofs.YtpnlkmpoaboncaaW.PrintMore
set_option linter.unusedVariables false
set_option linter.unusedSimpArgs false
theorem l1All_l0 (lo hi : Int) (xs : List Int) (hb : xs.length < 9223372036854775807) : ∀ (ys : List Int) (j : Nat), xs.drop j = ys →
    Ev (fun k => spec_l1All.l0 k lo hi xs (xs.length : Int) (j : Int)) (ys.all fun n => win n lo hi)
  | [], j, h => by
    have h1 := drop_nil h
    refine ev_succ ?_
    simp only [spec_l1All.l0]
    simp only [if_neg (show ¬ ((j : Int) < (xs.length : Int)) by omega)]
    exact ev_now rfl
  | y :: ys, j, h => by
    obtain ⟨h1, h2, h3⟩ := drop_cons h
    refine ev_succ ?_
    simp only [spec_l1All.l0]
    simp only [if_pos (show (j : Int) < (xs.length : Int) by omega), if_pos (show (0 : Int) ≤ (j : Int) by omega), rd_drop h, l1In_eq, Option.bind_some, wrap_succ (show j < 9223372036854775807 by omega)]
    cases e : win y lo hi
    · simp only [Bool.false_eq_true, if_false]
      exact ev_now (by simp [e])
    · simp only [if_true]
      have := l1All_l0 lo hi xs hb ys (j + 1) h3
      simpa [e] using this
theorem l1All_ev (lo hi : Int) (xs : List Int) (hb : xs.length < 9223372036854775807) : Ev (fun k => spec_l1All.f k xs lo hi) (xs.all fun n => win n lo hi) := l1All_l0 lo hi xs hb xs 0 rfl
def DD (l : List S44) (w : Int) : List S44 := l.filter fun x => x.f0 == w
theorem DD_le (l : List S44) (w : Int) : (DD l w).length ≤ l.length := List.length_filter_le _ _
theorem of_l0 (xs : List S44) (w : Int) (hb : xs.length < 5864062014805) : ∀ (ys : List S44) (j : Nat) (out : List S44), xs.drop j = ys → out.length ≤ j → j ≤ xs.length →
    Ev (fun k => spec_l7Of.l0 k w out xs (xs.length : Int) (j : Int)) (out ++ DD ys w)
  | [], j, out, h, ho, hj => by
    have h1 := drop_nil h
    refine ev_succ ?_
    simp only [spec_l7Of.l0]
    simp only [if_neg (show ¬ ((j : Int) < (xs.length : Int)) by omega)]
    exact ev_now (by simp [DD])
  | y :: ys, j, out, h, ho, hj => by
    obtain ⟨h1, h2, h3⟩ := drop_cons h
    refine ev_succ ?_
    simp only [spec_l7Of.l0]
    simp only [if_pos (show (j : Int) < (xs.length : Int) by omega), if_pos (show (0 : Int) ≤ (j : Int) by omega), rd_T44_drop h, wrap_succ (show j < 9223372036854775807 by omega)]
    by_cases e : y.f0 = w
    · simp only [if_pos e, if_pos (show out.length < 5864062014805 by omega)]
      have := of_l0 xs w hb ys (j + 1) (out ++ [y]) h3 (by simp; omega) h1
      change Ev (fun k => spec_l7Of.l0 k w (out ++ [y]) xs (xs.length : Int) ((j + 1 : Nat) : Int)) (out ++ DD (y :: ys) w)
      simpa [DD, e] using this
    · simp only [if_neg e]
      have := of_l0 xs w hb ys (j + 1) out h3 (by omega) h1
      simpa [DD, e] using this
theorem of_ev (xs : List S44) (w : Int) (hb : xs.length < 5864062014805) : Ev (fun k => spec_l7Of.f k xs w) (DD xs w) := by
  simp only [spec_l7Of.f]
  simpa using of_l0 xs w hb xs 0 [] rfl (Nat.zero_le _) (Nat.zero_le _)
theorem actsOf_eq (l : List S44) (w : Int) (hb : l.length ≤ 16) : impl_actsOf.f l w = some (DD l w) := by
  unfold impl_actsOf.f
  rw [if_pos (by omega)]
  rfl
def has (l : List Int) : Nat → Nat → Bool
  | 0, _ => true
  | d + 1, j => decide ((j : Int) ∈ l) && has l d (j + 1)
def ordB (l : List Int) : Bool := decide (l.length = 4) && ((l.all fun n => win n 0 3) && has l 4 0)
theorem order_l0 (l : List Int) (hb : l.length < 9223372036854775807) : ∀ (d j : Nat), j + d = 4 → Ev (fun k => spec_l7Order.l0 k l (j : Int)) (has l d j)
  | 0, j, h => by
    refine ev_succ ?_
    simp only [spec_l7Order.l0]
    simp only [if_neg (show ¬ ((j : Int) < 4) by omega)]
    exact ev_now rfl
  | d + 1, j, h => by
    refine ev_succ ?_
    simp only [spec_l7Order.l0]
    simp only [if_pos (show (j : Int) < 4 by omega), wrap_succ (show j < 9223372036854775807 by omega)]
    refine Ev.bind (l1Has_ev l (j : Int) (by omega)) ?_
    rw [show l.contains (j : Int) = decide ((j : Int) ∈ l) by simp]
    by_cases e : (j : Int) ∈ l
    · have := order_l0 l hb d (j + 1) (by omega)
      simpa [has, e] using this
    · simp only [e, decide_false, Bool.false_eq_true, if_false]
      exact ev_now (by simp [has, e])
theorem order_ev (l : List Int) (hb : l.length < 9223372036854775807) : Ev (fun k => spec_l7Order.f k l) (ordB l) := by
  simp only [spec_l7Order.f]
  by_cases hl : l.length = 4
  · simp only [if_pos (show (l.length : Int) = 4 by omega)]
    refine Ev.bind (l1All_ev 0 3 l hb) ?_
    refine ev_succ ?_
    simp only [spec_l7Order.j0]
    cases e : l.all fun n => win n 0 3
    · simp only [Bool.not_false, if_true]
      exact ev_now (by simp [ordB, e])
    · simp only [Bool.not_true, Bool.false_eq_true, if_false]
      have := order_l0 l hb 4 0 rfl
      simpa [ordB, e, hl] using this
  · simp only [if_neg (show ¬ (l.length : Int) = 4 by omega)]
    refine ev_succ ?_
    simp only [spec_l7Order.j0, if_true]
    exact ev_now (by simp [ordB, hl])
theorem ord_sort (l : List Int) : decide (sortI l = [0, 1, 2, 3]) = ordB l := by
  rw [Bool.eq_iff_iff]
  simp only [ordB, has, decide_eq_true_eq, Bool.and_eq_true, Nat.zero_add, and_true, List.all_eq_true, win_iff]
  have hp : (sortI l).Perm l := List.mergeSort_perm l _
  constructor
  · intro h
    rw [h] at hp
    refine ⟨by simpa using hp.length_eq.symm, fun x hx => ?_, hp.mem_iff.1 (by simp), hp.mem_iff.1 (by simp), hp.mem_iff.1 (by simp), hp.mem_iff.1 (by simp)⟩
    have := hp.mem_iff.2 hx
    simp at this
    omega
  · rintro ⟨hl, hw, h0, h1, h2, h3⟩
    have hs : (sortI l).Pairwise (· ≤ ·) := by
      have h := List.pairwise_mergeSort (le := fun x y : Int => decide (x ≤ y)) (fun a b c h1 h2 => by simp at *; omega) (fun a b => by simp; omega) l
      exact h.imp (fun hh => by simpa using hh)
    have hl2 := hp.length_eq
    replace h0 := hp.mem_iff.2 h0
    replace h1 := hp.mem_iff.2 h1
    replace h2 := hp.mem_iff.2 h2
    replace h3 := hp.mem_iff.2 h3
    generalize sortI l = s at *
    match s, hl2.trans hl, hs, h0, h1, h2, h3 with
    | [a, b, c, d], _, hs, h0, h1, h2, h3 =>
      simp at hs h0 h1 h2 h3
      obtain ⟨⟨q1, q2, q3⟩, ⟨q4, q5⟩, q6⟩ := hs
      have e0 : a = 0 := by omega
      have e1 : b = 1 := by omega
      have e2 : c = 2 := by omega
      have e3 : d = 3 := by omega
      rw [e0, e1, e2, e3]
def outs (l : List S44) : List Int → List S44
  | [] => []
  | w :: ws => DD l w ++ outs l ws
theorem outs_len (l : List S44) : ∀ ws : List Int, (outs l ws).length ≤ ws.length * l.length
  | [] => by simp [outs]
  | w :: ws => by
    have := outs_len l ws
    have := DD_le l w
    simp [outs, Nat.add_mul]
    omega
theorem sOne_l0 (l : List S44) (hl : l.length ≤ 16) (o : List Int) (hb : o.length ≤ 4) : ∀ (ys : List Int) (j : Nat) (out : List S44), o.drop j = ys → out.length ≤ 16 * j → j ≤ o.length →
    Ev (fun k => spec_OneByOne.l0 k l out o (o.length : Int) (j : Int)) (out ++ outs l ys, true)
  | [], j, out, h, ho, hj => by
    have h1 := drop_nil h
    refine ev_succ ?_
    simp only [spec_OneByOne.l0]
    simp only [if_neg (show ¬ ((j : Int) < (o.length : Int)) by omega)]
    exact ev_now (by simp [outs])
  | y :: ys, j, out, h, ho, hj => by
    obtain ⟨h1, h2, h3⟩ := drop_cons h
    have hd := DD_le l y
    refine ev_succ ?_
    simp only [spec_OneByOne.l0]
    simp only [if_pos (show (j : Int) < (o.length : Int) by omega), if_pos (show (0 : Int) ≤ (j : Int) by omega), rd_drop h, wrap_succ (show j < 9223372036854775807 by omega)]
    refine Ev.bind (of_ev l y (by omega)) ?_
    simp only [if_pos (show out.length + (DD l y).length < 5864062014805 by omega)]
    have := sOne_l0 l hl o hb ys (j + 1) (out ++ DD l y) h3 (by simp; omega) h1
    simpa [outs] using this
theorem iOne_l0 (l : List S44) (hl : l.length ≤ 16) (o : List Int) (hb : o.length ≤ 4) : ∀ (ys : List Int) (j : Nat) (out : List S44), o.drop j = ys → out.length ≤ 16 * j → j ≤ o.length →
    Ev (fun k => impl_OneByOne.l0 k l out o (o.length : Int) (j : Int)) (out ++ outs l ys, true)
  | [], j, out, h, ho, hj => by
    have h1 := drop_nil h
    refine ev_succ ?_
    simp only [impl_OneByOne.l0]
    simp only [if_neg (show ¬ ((j : Int) < (o.length : Int)) by omega)]
    exact ev_now (by simp [outs])
  | y :: ys, j, out, h, ho, hj => by
    obtain ⟨h1, h2, h3⟩ := drop_cons h
    have hd := DD_le l y
    refine ev_succ ?_
    simp only [impl_OneByOne.l0]
    simp only [if_pos (show (j : Int) < (o.length : Int) by omega), if_pos (show (0 : Int) ≤ (j : Int) by omega), rd_drop h, wrap_succ (show j < 9223372036854775807 by omega), actsOf_eq l y hl, Option.bind_some]
    simp only [if_pos (show out.length + (DD l y).length < 5864062014805 by omega)]
    have := iOne_l0 l hl o hb ys (j + 1) (out ++ DD l y) h3 (by simp; omega) h1
    simpa [outs] using this
theorem isOrder_eq (o : List Int) (hb : o.length ≤ 1048576) : impl_isOrder.f o = some (ordB o) := by
  unfold impl_isOrder.f
  rw [if_pos (by omega), ord_sort]
theorem ord_len {o : List Int} (h : ordB o = true) : o.length = 4 := by
  simp only [ordB, Bool.and_eq_true, decide_eq_true_eq] at h
  exact h.1
theorem OneByOne_both (l : List S44) (o : List Int) (hb : l.length < 9223372036854775807) (ho : o.length ≤ 1048576) : ∃ out ok, Ev (fun k => spec_OneByOne.f k l o) (out, ok) ∧ Ev (fun k => impl_OneByOne.f k l o) (out, ok) ∧ out.length ≤ 64 := by
  simp only [spec_OneByOne.f, impl_OneByOne.f]
  cases e : gp l
  · refine ⟨[], false, Ev.bind (sGoodPlay_ev l hb) ?_, Ev.bind (iGoodPlay_ev l) ?_, by simp⟩
    · simp only [e, Bool.false_eq_true, if_false]
      refine ev_succ ?_
      simp only [spec_OneByOne.j0, if_true]
      exact ev_now rfl
    · simp only [e, Bool.false_eq_true, if_false]
      refine ev_succ ?_
      simp only [impl_OneByOne.j0, if_true]
      exact ev_now rfl
  · cases e2 : ordB o
    · refine ⟨[], false, Ev.bind (sGoodPlay_ev l hb) ?_, Ev.bind (iGoodPlay_ev l) ?_, by simp⟩
      · simp only [e, if_true]
        refine Ev.bind (order_ev o (by omega)) ?_
        simp only [e2, Bool.not_false]
        refine ev_succ ?_
        simp only [spec_OneByOne.j0, if_true]
        exact ev_now rfl
      · simp only [e, if_true, isOrder_eq o ho, Option.bind_some]
        simp only [e2, Bool.not_false]
        refine ev_succ ?_
        simp only [impl_OneByOne.j0, if_true]
        exact ev_now rfl
    · have hl := gp_len e
      have h4 := ord_len e2
      refine ⟨outs l o, true, Ev.bind (sGoodPlay_ev l hb) ?_, Ev.bind (iGoodPlay_ev l) ?_, ?_⟩
      · simp only [e, if_true]
        refine Ev.bind (order_ev o (by omega)) ?_
        simp only [e2, Bool.not_true]
        refine ev_succ ?_
        simp only [spec_OneByOne.j0, Bool.false_eq_true, if_false]
        simpa using sOne_l0 l hl o (by omega) o 0 [] rfl (by simp) (Nat.zero_le _)
      · simp only [e, if_true, isOrder_eq o ho, Option.bind_some]
        simp only [e2, Bool.not_true]
        refine ev_succ ?_
        simp only [impl_OneByOne.j0, Bool.false_eq_true, if_false]
        simpa using iOne_l0 l hl o (by omega) o 0 [] rfl (by simp) (Nat.zero_le _)
      · have := outs_len l o
        rw [h4] at this
        omega
theorem OneByOne (y0 : (List S46)) (y1 : List Int) (h0 : FL46 y0) (h1 : FLii64 y1) : ∃ k, laws_FnExactOneByOne.f k y0 y1 = some true := by
  refine Ev.rounds ?_
  simp only [laws_FnExactOneByOne.f]
  by_cases hy : (y1.length : Int) > 1048576
  · simp only [if_pos hy]
    exact ev_now rfl
  simp only [if_neg hy]
  obtain ⟨r, e1, _, b⟩ := szActS_ev y0 1048576 h0 (by omega) (by omega)
  refine Ev.bind e1 ?_
  by_cases hr : r < 0
  · simp only [if_pos hr]
    exact ev_now rfl
  · simp only [if_neg hr]
    have hB := b (by omega)
    have hc := toActS_ev y0 hB
    have hl := hB.1
    have hB1 : BdIntS y1 := ⟨by omega, fun _ _ => trivial⟩
    have hc1 := toIntS_ev y1 hB1
    obtain ⟨out, ok, es, ei, hlo⟩ := OneByOne_both (y0.map cvAct) y1 (by simp; omega) (by omega)
    have ho : OkActS out := ⟨by omega, fun _ _ => trivial⟩
    refine Ev.bind hc (Ev.bind hc1 (Ev.bind es (Ev.bind hc (Ev.bind hc1 (Ev.bind ei (Ev.bind (eqActS_ev out ho) ?_))))))
    simp only [if_true, bne_self_eq_false]
    refine ev_succ ?_
    simp only [laws_FnExactOneByOne.j0, Bool.false_eq_true, if_false]
    refine Ev.bind hc (Ev.bind (eqActS_ev _ (ok_ActS hB)) ?_)
    simp only [if_true]
    refine Ev.bind hc1 (Ev.bind (eqIntS_ev _ (ok_IntS hB1)) ?_)
    simp only [if_true]
    refine Ev.bind (markActS_ev _ 1 (by omega) (by simp; omega)) ?_
    refine Ev.bind (markIntS_ev y1 _ (by simp; omega) (by simp; omega)) ?_
    simp only [if_neg (show ¬ (1 + 3 * ((y0.map cvAct).length : Int) + (y1.length : Int) < 0) by omega)]
    refine Ev.bind (eqActS_ev out ho) ?_
    simp only [if_true, bne_self_eq_false]
    refine ev_succ ?_
    simp only [laws_FnExactOneByOne.j1, Bool.false_eq_true, if_false]
    refine Ev.bind (markActS_ev out 1 (by omega) (by omega)) (Ev.bind (heldActS_ev _ 1 (by omega) (by omega)) ?_)
    simp only [if_neg (show ¬ (1 + 3 * (out.length : Int) < 0) by omega), if_true]
    refine Ev.bind hc (Ev.bind hc1 (Ev.bind ei (Ev.bind (eqActS_ev out ho) ?_)))
    simp only [if_true, bne_self_eq_false]
    refine ev_succ ?_
    simp only [laws_FnExactOneByOne.j2, Bool.false_eq_true, if_false]
    refine Ev.bind (heldActS_ev _ 1 (by omega) (by omega)) ?_
    simp only [if_neg (show ¬ (1 + 3 * (out.length : Int) < 0) by omega), if_true]
    exact ev_now rfl
end Go.Proofs.Ytpnlkmpoaboncaa.Pu
