/- The law FnExactCountWhere over numbers and lists alone. No condition. -/
import Derived.Test.YtdlahceidlemiaaPr0
import Derived.Test.YtdlahceidlemiaaPr1
import Derived.Test.YtdlahceidlemiaaPr2
import Derived.Test.YtdlahceidlemiaaPr3
import Derived.Test.YtdlahceidlemiaaPr5
import Derived.Test.YtdlahceidlemiaaOps
import Derived.Test.YtdlahceidlemiaaA2
import Derived.Test.YtdlahceidlemiaaA1c
import Derived.Test.YtdlahceidlemiaaCv
namespace Go.Proofs.Ytdlahceidlemiaa.Pu
open Go.RowKit Go.Proofs.Ytdlahceidlemiaa.Pr Go.Proofs.Ytdlahceidlemiaa.Pl Go.Proofs.Ytdlahceidlemiaa.Ax Go.Proofs.Ytdlahceidlemiaa.Ops Go.Proofs.YtdlahceidlemiaaW.PrintWords Go.Proofs.YtdlahceidlemiaaW.PrintLast Go.Proofs.YtdlahceidlemiaaW.PrintMore
set_option linter.unusedVariables false
set_option linter.unusedSimpArgs false
/-- How many stand in the relation? -/
def cnt (kind : Int) (b : Bool) (v : Int) (l : List S30) : Nat := l.countP fun x => cm kind x.f0 x.f1 b v == 2
theorem cnt_cons (kind : Int) (b : Bool) (v : Int) (y : S30) (l : List S30) (m : Nat) : m + cnt kind b v (y :: l) = (if cm kind y.f0 y.f1 b v = 2 then m + 1 else m) + cnt kind b v l := by
  unfold cnt
  rw [List.countP_cons]
  by_cases e : cm kind y.f0 y.f1 b v = 2
  · simp [e]; omega
  · simp [e]
theorem l4Values_l0 (zs xs : List S30) (hb : xs.length < 9223372036854775807) : ∀ (ys : List S30) (j : Nat), xs.drop j = ys →
    Ev (fun k => spec_l4Values.l0 k zs xs (xs.length : Int) (j : Int)) (ys.all gvS && decide (zs.length ≤ 40))
  | [], j, h => by
    have h1 := drop_nil h
    refine ev_succ ?_
    simp only [spec_l4Values.l0]
    simp only [if_neg (show ¬ ((j : Int) < (xs.length : Int)) by omega)]
    refine ev_now ?_
    simp
    omega
  | y :: ys, j, h => by
    obtain ⟨h1, h2, h3⟩ := drop_cons h
    refine ev_succ ?_
    simp only [spec_l4Values.l0]
    simp only [if_pos (show (j : Int) < (xs.length : Int) by omega), if_pos (show (0 : Int) ≤ (j : Int) by omega), rd_T30_drop h, sGoodValue_eq, Option.bind_some, wrap_succ (show j < 9223372036854775807 by omega)]
    have ih := l4Values_l0 zs xs hb ys (j + 1) h3
    cases e : gv y.f0 y.f1
    · simp only [Bool.false_eq_true, if_false]
      exact ev_now (by simp [gvS, e])
    · simp only [if_true]
      simpa [gvS, e] using ih
theorem l4Values_ev (l : List S30) (hb : l.length < 9223372036854775807) : Ev (fun k => spec_l4Values.f k l) (l.all gvS && decide (l.length ≤ 40)) := l4Values_l0 l l hb l 0 rfl
theorem l1Compare_ev (kind : Int) (an : Bool) (a : Int) (bn : Bool) (b : Int) : Ev (fun k => spec_l1Compare.f k kind an a bn b) (cm kind an a bn b) := ev_succ (by simp only [l1Compare_eq]; exact ev_now rfl)
theorem compare_ev (kind : Int) (an : Bool) (a : Int) (bn : Bool) (b : Int) : Ev (fun k => impl_compare.f k kind an a bn b) (cm kind an a bn b) := ev_succ (by simp only [compare_eq]; exact ev_now rfl)
theorem sCW_l0 (kind : Int) (b : Bool) (v : Int) (xs : List S30) (hb : xs.length ≤ 40) : ∀ (ys : List S30) (j m : Nat), xs.drop j = ys → m ≤ j →
    Ev (fun k => spec_CountWhere.l0 k kind (m : Int) xs (xs.length : Int) (j : Int) b v) (((m + cnt kind b v ys : Nat) : Int), true)
  | [], j, m, h, hm => by
    have h1 := drop_nil h
    refine ev_succ ?_
    simp only [spec_CountWhere.l0]
    simp only [if_neg (show ¬ ((j : Int) < (xs.length : Int)) by omega)]
    exact ev_now (by simp [cnt])
  | y :: ys, j, m, h, hm => by
    obtain ⟨h1, h2, h3⟩ := drop_cons h
    refine ev_succ ?_
    simp only [spec_CountWhere.l0]
    simp only [if_pos (show (j : Int) < (xs.length : Int) by omega), if_pos (show (0 : Int) ≤ (j : Int) by omega), rd_T30_drop h, wrap_succ (show j < 9223372036854775807 by omega), wrap_succ (show m < 9223372036854775807 by omega)]
    refine Ev.bind (l1Compare_ev kind y.f0 y.f1 b v) ?_
    rw [cnt_cons]
    by_cases e : cm kind y.f0 y.f1 b v = 2
    · simp only [if_pos e]
      exact sCW_l0 kind b v xs hb ys (j + 1) (m + 1) h3 (by omega)
    · simp only [if_neg e]
      exact sCW_l0 kind b v xs hb ys (j + 1) m h3 (by omega)
theorem iCW_l0 (kind : Int) (b : Bool) (v : Int) (xs : List S30) (hb : xs.length ≤ 40) : ∀ (ys : List S30) (j m : Nat), xs.drop j = ys → m ≤ j →
    Ev (fun k => impl_CountWhere.l0 k kind (m : Int) xs (xs.length : Int) (j : Int) b v) (((m + cnt kind b v ys : Nat) : Int), true)
  | [], j, m, h, hm => by
    have h1 := drop_nil h
    refine ev_succ ?_
    simp only [impl_CountWhere.l0]
    simp only [if_neg (show ¬ ((j : Int) < (xs.length : Int)) by omega)]
    exact ev_now (by simp [cnt])
  | y :: ys, j, m, h, hm => by
    obtain ⟨h1, h2, h3⟩ := drop_cons h
    refine ev_succ ?_
    simp only [impl_CountWhere.l0]
    simp only [if_pos (show (j : Int) < (xs.length : Int) by omega), if_pos (show (0 : Int) ≤ (j : Int) by omega), rd_T30_drop h, wrap_succ (show j < 9223372036854775807 by omega), wrap_succ (show m < 9223372036854775807 by omega)]
    refine Ev.bind (compare_ev kind y.f0 y.f1 b v) ?_
    rw [cnt_cons]
    by_cases e : cm kind y.f0 y.f1 b v = 2
    · simp only [if_pos e]
      exact iCW_l0 kind b v xs hb ys (j + 1) (m + 1) h3 (by omega)
    · simp only [if_neg e]
      exact iCW_l0 kind b v xs hb ys (j + 1) m h3 (by omega)
def cwV (l : List S30) (kind : Int) (b : Bool) (v : Int) : Int × Bool := if l.length ≤ 40 ∧ l.all gvS = true ∧ win kind 0 2 = true ∧ gv b v = true then ((cnt kind b v l : Int), true) else (0, false)
theorem sCW_ev (l : List S30) (hb : l.length < 9223372036854775807) (kind : Int) (b : Bool) (v : Int) : Ev (fun k => spec_CountWhere.f k l kind b v) (cwV l kind b v) := by
  simp only [spec_CountWhere.f, l1In_eq, sGoodValue_eq, Option.bind_some]
  refine Ev.bind (l4Values_ev l hb) ?_
  by_cases h4 : l.length ≤ 40
  · cases h1 : l.all gvS
    · simp only [Bool.false_and, Bool.false_eq_true, if_false]
      refine ev_succ ?_
      simp only [spec_CountWhere.j0, if_true]
      exact ev_now (by simp [cwV, h1])
    · simp only [decide_eq_true h4, Bool.and_self, if_true]
      cases h2 : win kind 0 2
      · simp only [Bool.false_eq_true, if_false]
        refine ev_succ ?_
        simp only [spec_CountWhere.j0, if_true]
        exact ev_now (by simp [cwV, h2])
      · simp only [if_true]
        cases h3 : gv b v
        · refine ev_succ ?_
          simp only [spec_CountWhere.j0, Bool.not_false, if_true]
          exact ev_now (by simp [cwV, h3])
        · refine ev_succ ?_
          simp only [spec_CountWhere.j0, Bool.not_true, Bool.false_eq_true, if_false]
          have := sCW_l0 kind b v l h4 l 0 0 rfl (by omega)
          simpa [cwV, h1, h2, h3, h4] using this
  · simp only [decide_eq_false h4, Bool.and_false, Bool.false_eq_true, if_false]
    refine ev_succ ?_
    simp only [spec_CountWhere.j0, if_true]
    exact ev_now (by simp [cwV, h4])
theorem iCW_ev (l : List S30) (hb : l.length < 9223372036854775807) (kind : Int) (b : Bool) (v : Int) : Ev (fun k => impl_CountWhere.f k l kind b v) (cwV l kind b v) := by
  simp only [impl_CountWhere.f, isKind_eq, iGoodValue_eq, Option.bind_some]
  by_cases h4 : l.length ≤ 40
  · simp only [if_neg (show ¬ ((l.length : Int) > 40) by omega)]
    refine Ev.bind (areValues_ev l hb) ?_
    cases h1 : l.all gvS
    · simp only [Bool.false_eq_true, if_false]
      refine ev_succ ?_
      simp only [impl_CountWhere.j0, if_true]
      exact ev_now (by simp [cwV, h1])
    · simp only [if_true]
      cases h2 : win kind 0 2
      · simp only [Bool.false_eq_true, if_false]
        refine ev_succ ?_
        simp only [impl_CountWhere.j0, if_true]
        exact ev_now (by simp [cwV, h2])
      · simp only [if_true]
        cases h3 : gv b v
        · refine ev_succ ?_
          simp only [impl_CountWhere.j0, Bool.not_false, if_true]
          exact ev_now (by simp [cwV, h3])
        · refine ev_succ ?_
          simp only [impl_CountWhere.j0, Bool.not_true, Bool.false_eq_true, if_false]
          have := iCW_l0 kind b v l h4 l 0 0 rfl (by omega)
          simpa [cwV, h1, h2, h3, h4] using this
  · simp only [if_pos (show (l.length : Int) > 40 by omega)]
    refine ev_succ ?_
    simp only [impl_CountWhere.j0, if_true]
    exact ev_now (by simp [cwV, h4])
theorem CountWhere (y0 : (List S24)) (a1 : Int) (y2 : S24) (h0 : FL24 y0) (h1 : Fii64 a1) (h2 : F24 y2) : ∃ k, laws_FnExactCountWhere.f k y0 a1 y2.f0 y2.f1 = some true := by
  refine Ev.rounds ?_
  simp only [laws_FnExactCountWhere.f, laws_toValue.f, Option.bind_some]
  obtain ⟨r, e1, _, b⟩ := szValueS_ev y0 1048576 h0 (by omega) (by omega)
  refine Ev.bind e1 ?_
  by_cases hr : r < 0
  · simp only [if_pos hr]
    exact ev_now rfl
  · simp only [if_neg hr]
    have hB := b (by omega)
    have hc := toValueS_ev y0 hB
    have hl := hB.1
    refine Ev.bind hc (Ev.bind (sCW_ev _ (by simp; omega) a1 y2.f0 y2.f1) (Ev.bind hc (Ev.bind (iCW_ev _ (by simp; omega) a1 y2.f0 y2.f1) ?_)))
    simp only [if_true, bne_self_eq_false]
    refine ev_succ ?_
    simp only [laws_FnExactCountWhere.j0, Bool.false_eq_true, if_false]
    refine Ev.bind hc (Ev.bind (eqValueS_ev _ (ok_ValueS hB)) ?_)
    simp only [if_true]
    exact ev_now rfl
end Go.Proofs.Ytdlahceidlemiaa.Pu
