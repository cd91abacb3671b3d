/- The law FnExactSumOf over numbers and lists alone. No condition. -/
import Derived.Test.YtfafegglmmkmbaaPr0
import Derived.Test.YtfafegglmmkmbaaPr1
import Derived.Test.YtfafegglmmkmbaaPr2
import Derived.Test.YtfafegglmmkmbaaOps
import Derived.Test.YtfafegglmmkmbaaA2
namespace Go.Proofs.Ytfafegglmmkmbaa.Pu
open Go.RowKit Go.Proofs.Ytfafegglmmkmbaa.Pr Go.Proofs.Ytfafegglmmkmbaa.Pl Go.Proofs.Ytfafegglmmkmbaa.Ax Go.Proofs.Ytfafegglmmkmbaa.Ops Go.Proofs.YtfafegglmmkmbaaW.PrintWords Go.Proofs.YtfafegglmmkmbaaW.PrintLast Go.Proofs.YtfafegglmmkmbaaW.PrintMore
set_option linter.unusedVariables false
set_option linter.unusedSimpArgs false
/-- What is told of values, one after another. -/
def sumF : List S25 → Int → Int → Bool → Int → Bool → Int → Int × Int × Bool × Int × Bool × Int
  | [], k, t, a, lo, b, hi => (k, t, a, lo, b, hi)
  | y :: ys, k, t, a, lo, b, hi => if y.f0 = true then sumF ys k t a lo b hi else if k = 0 then sumF ys (k + 1) (t + y.f1) y.f0 (mn y.f1 y.f1) y.f0 (mx y.f1 y.f1) else sumF ys (k + 1) (t + y.f1) a (mn lo y.f1) b (mx hi y.f1)
theorem mn_self (x : Int) : mn x x = x := by unfold mn; split <;> rfl
theorem mx_self (x : Int) : mx x x = x := by unfold mx; split <;> rfl
theorem add_ev (r k t lo hi : Int) (a b : Bool) (y : S25) (hr : 0 ≤ r ∧ r ≤ 1000) (hk : 0 ≤ k ∧ k ≤ 1000) (ht : -1000000 ≤ t ∧ t ≤ 1000000) (hy : y.f0 = true ∨ (-1000 ≤ y.f1 ∧ y.f1 ≤ 1000)) (hab : k ≠ 0 → a = false ∧ b = false) :
    Ev (fun n => spec_l4Add.f n r k t a lo b hi y.f0 y.f1) (if y.f0 = true then (r + 1, k, t, a, lo, b, hi) else if k = 0 then (r + 1, k + 1, t + y.f1, y.f0, mn y.f1 y.f1, y.f0, mx y.f1 y.f1) else (r + 1, k + 1, t + y.f1, a, mn lo y.f1, b, mx hi y.f1)) := by
  simp only [spec_l4Add.f, wrap_in (x := r + 1) (by omega) (by omega), wrap_in (x := k + 1) (by omega) (by omega)]
  cases h0 : y.f0
  · have hv : -1000 ≤ y.f1 ∧ y.f1 ≤ 1000 := by
      rcases hy with h | h
      · rw [h0] at h
        cases h
      · exact h
    simp only [Bool.false_eq_true, if_false, wrap_in (x := t + y.f1) (by omega) (by omega)]
    by_cases hk0 : k = 0
    · subst hk0
      simp only [Int.zero_add, if_true]
      refine ev_succ ?_
      simp only [spec_l4Add.j0, if_true]
      exact ev_now (by rw [mn_self, mx_self])
    · simp only [if_neg hk0, if_neg (show ¬ (k + 1 = 1) by omega)]
      obtain ⟨rfl, rfl⟩ := hab hk0
      refine ev_succ ?_
      simp only [spec_l4Add.j0]
      have hm : mn lo y.f1 = if y.f1 < lo then y.f1 else lo := by unfold mn; split <;> first | rfl | (split <;> omega)
      have hM : mx hi y.f1 = if y.f1 > hi then y.f1 else hi := by unfold mx; split <;> first | rfl | (split <;> omega)
      rw [hm, hM]
      by_cases e1 : y.f1 < lo <;> by_cases e2 : y.f1 > hi <;> simp only [e1, e2, decide_true, decide_false, Bool.false_eq_true, if_true, if_false, if_neg (show ¬ (k + 1 = 1) by omega)] <;> exact ev_now rfl
  · simp only [if_pos rfl, if_true]
    exact ev_now rfl
def res7 (n : Int) (F : Int × Int × Bool × Int × Bool × Int) : Int × Int × Int × Bool × Int × Bool × Int := (n, F.1, F.2.1, F.2.2.1, F.2.2.2.1, F.2.2.2.2.1, F.2.2.2.2.2)
def res8 (n : Int) (F : Int × Int × Bool × Int × Bool × Int) (ok : Bool) : Int × Int × Int × Bool × Int × Bool × Int × Bool := (n, F.1, F.2.1, F.2.2.1, F.2.2.2.1, F.2.2.2.2.1, F.2.2.2.2.2, ok)
theorem gv_or {y : S25} (h : gvS y = true) : y.f0 = true ∨ (-1000 ≤ y.f1 ∧ y.f1 ≤ 1000) := by
  unfold gvS gv at h
  split at h
  · rename_i h2
    exact Or.inl h2
  · simp only [win, decide_eq_true_eq] at h
    exact Or.inr h
theorem sSum_l0 (xs : List S25) (hb : xs.length ≤ 40) (hx : xs.all gvS = true) : ∀ (ys : List S25) (j : Nat) (k t lo hi : Int) (a b : Bool), xs.drop j = ys → j ≤ xs.length → 0 ≤ k ∧ k ≤ j → -1000 * (j : Int) ≤ t ∧ t ≤ 1000 * (j : Int) → (k ≠ 0 → a = false ∧ b = false) →
    Ev (fun n => spec_SumOf.l0 n xs (xs.length : Int) (j : Int) (j : Int) k t a lo b hi) (res8 (xs.length : Int) (sumF ys k t a lo b hi) true)
  | [], j, k, t, lo, hi, a, b, h, hj, hk, ht, hab => by
    have h1 := drop_nil h
    have e : j = xs.length := by omega
    subst e
    refine ev_succ ?_
    simp only [spec_SumOf.l0]
    simp only [if_neg (show ¬ ((xs.length : Int) < (xs.length : Int)) by omega)]
    exact ev_now rfl
  | y :: ys, j, k, t, lo, hi, a, b, h, hj, hk, ht, hab => by
    obtain ⟨h1, h2, h3⟩ := drop_cons h
    have hy := gv_or (List.all_eq_true.1 hx y (List.mem_of_getElem? h2))
    refine ev_succ ?_
    simp only [spec_SumOf.l0]
    simp only [if_pos (show (j : Int) < (xs.length : Int) by omega), if_pos (show (0 : Int) ≤ (j : Int) by omega), rd_T25_drop h, wrap_succ (show j < 9223372036854775807 by omega)]
    refine Ev.bind (add_ev (j : Int) k t lo hi a b y (by omega) (by omega) (by omega) hy hab) ?_
    rw [sumF]
    by_cases h0 : y.f0 = true
    · simp only [if_pos h0]
      exact sSum_l0 xs hb hx ys (j + 1) k t lo hi a b h3 h1 (by omega) (by omega) hab
    · have hf : y.f0 = false := by simpa using h0
      have hv : -1000 ≤ y.f1 ∧ y.f1 ≤ 1000 := by
        rcases hy with h | h
        · exact absurd h h0
        · exact h
      simp only [if_neg h0]
      by_cases hk0 : k = 0
      · simp only [if_pos hk0]
        exact sSum_l0 xs hb hx ys (j + 1) (k + 1) (t + y.f1) _ _ y.f0 y.f0 h3 h1 (by omega) (by omega) (fun _ => ⟨hf, hf⟩)
      · simp only [if_neg hk0]
        exact sSum_l0 xs hb hx ys (j + 1) (k + 1) (t + y.f1) _ _ a b h3 h1 (by omega) (by omega) (fun _ => hab hk0)
theorem iSum_l0 (xs : List S25) (hb : xs.length ≤ 40) (hx : xs.all gvS = true) (R : Int) : ∀ (ys : List S25) (j : Nat) (k t lo hi : Int) (a b : Bool), xs.drop j = ys → j ≤ xs.length → 0 ≤ k ∧ k ≤ j → -1000 * (j : Int) ≤ t ∧ t ≤ 1000 * (j : Int) →
    Ev (fun n => impl_sumOf.l0 n xs (xs.length : Int) (j : Int) R k t a lo b hi) (res7 R (sumF ys k t a lo b hi))
  | [], j, k, t, lo, hi, a, b, h, hj, hk, ht => by
    have h1 := drop_nil h
    refine ev_succ ?_
    simp only [impl_sumOf.l0]
    simp only [if_neg (show ¬ ((j : Int) < (xs.length : Int)) by omega)]
    exact ev_now rfl
  | y :: ys, j, k, t, lo, hi, a, b, h, hj, hk, ht => by
    obtain ⟨h1, h2, h3⟩ := drop_cons h
    have hy := gv_or (List.all_eq_true.1 hx y (List.mem_of_getElem? h2))
    refine ev_succ ?_
    simp only [impl_sumOf.l0]
    simp only [if_pos (show (j : Int) < (xs.length : Int) by omega), if_pos (show (0 : Int) ≤ (j : Int) by omega), rd_T25_drop h, wrap_succ (show j < 9223372036854775807 by omega)]
    rw [sumF]
    by_cases h0 : y.f0 = true
    · simp only [if_pos h0]
      exact iSum_l0 xs hb hx R ys (j + 1) k t lo hi a b h3 h1 (by omega) (by omega)
    · have hv : -1000 ≤ y.f1 ∧ y.f1 ≤ 1000 := by
        rcases hy with h | h
        · exact absurd h h0
        · exact h
      simp only [if_neg h0, wrap_in (x := k + 1) (by omega) (by omega), wrap_in (x := t + y.f1) (by omega) (by omega)]
      by_cases hk0 : k = 0
      · simp only [if_pos hk0]
        exact iSum_l0 xs hb hx R ys (j + 1) (k + 1) (t + y.f1) _ _ y.f0 y.f0 h3 h1 (by omega) (by omega)
      · simp only [if_neg hk0]
        exact iSum_l0 xs hb hx R ys (j + 1) (k + 1) (t + y.f1) _ _ a b h3 h1 (by omega) (by omega)
theorem l4Values_l0 (zs xs : List S25) (hb : xs.length < 9223372036854775807) : ∀ (ys : List S25) (j : Nat), xs.drop j = ys →
    Ev (fun k => spec_l4Values.l0 k zs xs (xs.length : Int) (j : Int)) (ys.all gvS && decide ((zs.length : Int) ≤ 40))
  | [], j, h => by
    have h1 := drop_nil h
    refine ev_succ ?_
    simp only [spec_l4Values.l0]
    simp only [if_neg (show ¬ ((j : Int) < (xs.length : Int)) by omega)]
    exact ev_now (by simp)
  | y :: ys, j, h => by
    obtain ⟨h1, h2, h3⟩ := drop_cons h
    refine ev_succ ?_
    simp only [spec_l4Values.l0]
    simp only [if_pos (show (j : Int) < (xs.length : Int) by omega), if_pos (show (0 : Int) ≤ (j : Int) by omega), rd_T25_drop h, sGoodValue_eq, Option.bind_some, wrap_succ (show j < 9223372036854775807 by omega)]
    cases e : gv y.f0 y.f1
    · simp only [Bool.false_eq_true, if_false]
      exact ev_now (by simp [gvS, e])
    · simp only [if_true]
      have := l4Values_l0 zs xs hb ys (j + 1) h3
      simpa [gvS, e] using this
theorem SumOf_both (l : List S25) (hb : l.length < 9223372036854775807) : ∃ r, Ev (fun k => spec_SumOf.f k l) r ∧ Ev (fun k => impl_SumOf.f k l) r := by
  have sv : Ev (fun k => spec_l4Values.f k l) (l.all gvS && decide ((l.length : Int) ≤ 40)) := by
    simp only [spec_l4Values.f]
    exact l4Values_l0 l l hb l 0 rfl
  simp only [spec_SumOf.f, impl_SumOf.f, spec_l4None.f, Option.bind_some, impl_sumOf.f]
  by_cases hl : (l.length : Int) > 40
  · refine ⟨(0, 0, 0, false, 0, false, 0, false), Ev.bind sv ?_, ?_⟩
    · simp only [show decide ((l.length : Int) ≤ 40) = false by simp; omega, Bool.and_false, Bool.false_eq_true, if_false]
      exact ev_now rfl
    · simp only [if_pos hl]
      exact ev_now rfl
  · cases e : l.all gvS
    · refine ⟨(0, 0, 0, false, 0, false, 0, false), Ev.bind sv ?_, ?_⟩
      · simp only [e, Bool.false_and, Bool.false_eq_true, if_false]
        exact ev_now rfl
      · simp only [if_neg hl]
        refine Ev.bind (areValues_ev l hb) ?_
        simp only [e, Bool.false_eq_true, if_false]
        exact ev_now rfl
    · refine ⟨res8 (l.length : Int) (sumF l 0 0 true 0 true 0) true, Ev.bind sv ?_, ?_⟩
      · simp only [e, show decide ((l.length : Int) ≤ 40) = true by simp; omega, Bool.and_true, if_true]
        exact sSum_l0 l (by omega) e l 0 0 0 0 0 true true rfl (Nat.zero_le _) (by omega) (by omega) (fun h => absurd rfl h)
      · simp only [if_neg hl]
        refine Ev.bind (areValues_ev l hb) ?_
        simp only [e, if_true]
        exact Ev.bind (iSum_l0 l (by omega) e (l.length : Int) l 0 0 0 0 0 true true rfl (Nat.zero_le _) (by omega) (by omega)) (ev_now rfl)
theorem SumOf (y0 : (List S57)) (h0 : FL57 y0) : ∃ k, laws_FnExactSumOf.f k y0 = some true := by
  refine Ev.rounds ?_
  simp only [laws_FnExactSumOf.f]
  obtain ⟨r, e1, _, b⟩ := szValueS_ev y0 1048576 h0 (by omega) (by omega)
  refine Ev.bind e1 ?_
  by_cases hr : r < 0
  · simp only [if_pos hr]
    exact ev_now rfl
  · simp only [if_neg hr]
    have hB := b (by omega)
    have hc := toValueS_ev y0 hB
    have hl := hB.1
    obtain ⟨out, es, ei⟩ := SumOf_both (y0.map cvValue) (by simp; omega)
    refine Ev.bind hc (Ev.bind es (Ev.bind hc (Ev.bind ei ?_)))
    have hE : laws_eqSum.f out.1 out.2.1 out.2.2.1 out.2.2.2.1 out.2.2.2.2.1 out.2.2.2.2.2.1 out.2.2.2.2.2.2.1 out.1 out.2.1 out.2.2.1 out.2.2.2.1 out.2.2.2.2.1 out.2.2.2.2.2.1 out.2.2.2.2.2.2.1 = some true := by simp [laws_eqSum.f, laws_eqValue.f]
    refine Ev.bind (ev_eq hE) ?_
    simp only [if_true, bne_self_eq_false]
    refine ev_succ ?_
    simp only [laws_FnExactSumOf.j0, Bool.false_eq_true, if_false]
    refine Ev.bind hc (Ev.bind (eqValueS_ev _ (ok_ValueS hB)) ?_)
    simp only [if_true]
    exact ev_now rfl
end Go.Proofs.Ytfafegglmmkmbaa.Pu
