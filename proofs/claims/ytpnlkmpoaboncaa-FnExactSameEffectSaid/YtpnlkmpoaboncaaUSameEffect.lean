/- The law FnExactSameEffect over numbers and lists alone. No condition. -/
import Derived.Test.YtpnlkmpoaboncaaPr0
import Derived.Test.YtpnlkmpoaboncaaPr3
import Derived.Test.YtpnlkmpoaboncaaPr6
import Derived.Test.YtpnlkmpoaboncaaOps
import Derived.Test.YtpnlkmpoaboncaaA7sw
namespace Go.Proofs.Ytpnlkmpoaboncaa.Pu
open Go.RowKit Go.Proofs.Ytpnlkmpoaboncaa.Pr Go.Proofs.Ytpnlkmpoaboncaa.Pl Go.Proofs.Ytpnlkmpoaboncaa.Ax Go.Proofs.Ytpnlkmpoaboncaa.Ops Go.Proofs.YtpnlkmpoaboncaaW.PrintWords Go.Proofs.YtpnlkmpoaboncaaW.PrintLast Go.Proofs.YtpnlkmpoaboncaaW.PrintMore
set_option linter.unusedVariables false
set_option linter.unusedSimpArgs false
def sD (l1 l2 : List S44) : Nat → Nat → Bool
  | 0, _ => true
  | d + 1, j => decide (DD l1 (j : Int) = DD l2 (j : Int)) && sD l1 l2 d (j + 1)
def iA (l1 l2 : List S44) : Nat → Nat → Bool
  | 0, _ => true
  | d + 1, j => decide (DD l1 (j : Int) = DD l2 (j : Int)) && (decide (ogW l1 (j : Int) = ogW l2 (j : Int)) && iA l1 l2 d (j + 1))
def iL (l1 l2 : List S44) : Nat → Nat → Bool
  | 0, _ => true
  | d + 1, j => decide (ogN l1 (lw l1 (j : Int)) = ogN l2 (lw l2 (j : Int))) && iL l1 l2 d (j + 1)
theorem ans_eq {l1 l2 : List S44} (h1 : okL l1) (h2 : okL l2) : (sD l1 l2 4 0 && decide (efL l1 = efL l2)) = (iA l1 l2 4 0 && iL l1 l2 4 0) := by
  rw [Bool.eq_iff_iff]
  simp only [sD, iA, iL, Bool.and_eq_true, decide_eq_true_eq, Nat.zero_add, and_true, show ((0 : Nat) : Int) = 0 from rfl, show ((1 : Nat) : Int) = 1 from rfl, show ((1 + 1 : Nat) : Int) = 2 from rfl, show ((1 + 1 + 1 : Nat) : Int) = 3 from rfl]
  have key : (DD l1 0 = DD l2 0 ∧ DD l1 1 = DD l2 1 ∧ DD l1 2 = DD l2 2 ∧ DD l1 3 = DD l2 3) → eqD l1 l2 := by
    rintro ⟨a, b, c, d⟩ w h0 h3
    have : w = 0 ∨ w = 1 ∨ w = 2 ∨ w = 3 := by omega
    rcases this with rfl | rfl | rfl | rfl <;> assumption
  constructor
  · rintro ⟨hd, he⟩
    have := (efL_iff h1 h2 (key hd)).1 he
    obtain ⟨⟨a, b, c, d⟩, e⟩ := this
    exact ⟨⟨hd.1, a, hd.2.1, b, hd.2.2.1, c, hd.2.2.2, d⟩, e⟩
  · rintro ⟨⟨d0, a, d1, b, d2, c, d3, d⟩, e⟩
    exact ⟨⟨d0, d1, d2, d3⟩, (efL_iff h1 h2 (key ⟨d0, d1, d2, d3⟩)).2 ⟨⟨a, b, c, d⟩, e⟩⟩
theorem DD_le (l : List S44) (w : Int) : (DD l w).length ≤ l.length := List.length_filter_le _ _
mutual
theorem sE_l0 {l1 l2 : List S44} (h1 : okL l1) (h2 : okL l2) : ∀ (d j : Nat), j + d = 4 → Ev (fun k => spec_SameEffect.l0 k l1 l2 (j : Int)) (sD l1 l2 d j && decide (efL l1 = efL l2), true)
  | 0, j, h => by
    refine ev_succ ?_
    simp only [spec_SameEffect.l0]
    simp only [if_neg (show ¬ ((j : Int) < 4) by omega)]
    refine Ev.bind (ef_ev h1) (Ev.bind (ef_ev h2) (Ev.bind (sm_ev _ _ ?_) (ev_now (by simp [sD]))))
    have a := fun w => Nat.le_trans (PW_len l1 w l1 0) h1.1
    have := a 0; have := a 1; have := a 2; have := a 3
    simp [efL, efW, lasts_length]
    omega
  | d + 1, j, h => by
    have b1 := DD_le l1 (j : Int)
    have b2 := DD_le l2 (j : Int)
    have c1 := h1.1
    have c2 := h2.1
    refine ev_succ ?_
    simp only [spec_SameEffect.l0]
    simp only [if_pos (show (j : Int) < 4 by omega)]
    refine Ev.bind (of_ev l1 _ (by omega)) (Ev.bind (of_ev l2 _ (by omega)) ?_)
    by_cases e : (DD l1 (j : Int)).length = (DD l2 (j : Int)).length
    · simp only [if_pos (show ((DD l1 (j : Int)).length : Int) = ((DD l2 (j : Int)).length : Int) by omega)]
      exact sE_l1 h1 h2 d j h (DD l1 (j : Int)) (DD l2 (j : Int)) e (by omega) (DD l1 (j : Int)) (DD l2 (j : Int)) 0 rfl rfl
    · simp only [if_neg (show ¬ ((DD l1 (j : Int)).length : Int) = ((DD l2 (j : Int)).length : Int) by omega)]
      have : DD l1 (j : Int) ≠ DD l2 (j : Int) := fun q => e (by rw [q])
      exact ev_now (by simp [sD, this])
theorem sE_l1 {l1 l2 : List S44} (h1 : okL l1) (h2 : okL l2) : ∀ (d w : Nat), w + (d + 1) = 4 → ∀ (xs zs : List S44), xs.length = zs.length → xs.length ≤ 16 → ∀ (ys us : List S44) (j : Nat), xs.drop j = ys → zs.drop j = us →
    Ev (fun k => spec_SameEffect.l1 k l1 l2 (w : Int) xs zs (xs.length : Int) (j : Int)) ((decide (ys = us) && sD l1 l2 d (w + 1)) && decide (efL l1 = efL l2), true)
  | d, w, hw, xs, zs, hl, hb, [], us, j, h, hu => by
    have g1 := drop_nil h
    have g2 : us = [] := by rw [← hu]; exact List.drop_of_length_le (by omega)
    refine ev_succ ?_
    simp only [spec_SameEffect.l1]
    simp only [if_neg (show ¬ ((j : Int) < (xs.length : Int)) by omega), wrap_succ (show w < 9223372036854775807 by omega)]
    have := sE_l0 h1 h2 d (w + 1) (by omega)
    simpa [g2] using this
  | d, w, hw, xs, zs, hl, hb, y :: ys, [], j, h, hu => by
    have g1 := drop_nil hu
    have := (drop_cons h).1
    omega
  | d, w, hw, xs, zs, hl, hb, y :: ys, u :: us, j, h, hu => by
    obtain ⟨g1, g2, g3⟩ := drop_cons h
    obtain ⟨q1, q2, q3⟩ := drop_cons hu
    refine ev_succ ?_
    simp only [spec_SameEffect.l1]
    simp only [if_pos (show (j : Int) < (xs.length : Int) by omega), if_pos (show (j : Int) < (zs.length : Int) by omega), if_pos (show (0 : Int) ≤ (j : Int) by omega), rd_T44_drop h, rd_T44_drop hu, wrap_succ (show j < 9223372036854775807 by omega), neA]
    by_cases e : y = u
    · have := sE_l1 h1 h2 d w hw xs zs hl hb ys us (j + 1) g3 q3
      simpa [e] using this
    · simp only [e, decide_false, Bool.not_false, if_true]
      exact ev_now (by simp [e])
end
theorem nePair (p q : Int × Int) : (!(p.1 == q.1) || (!(p.2 == q.2))) = !decide (p = q) := by
  rcases p with ⟨a, b⟩
  rcases q with ⟨c, d⟩
  by_cases e1 : a = c <;> by_cases e2 : b = d <;> simp [e1, e2]
theorem iE_l1 {l1 l2 : List S44} (h1 : okL l1) (h2 : okL l2) : ∀ (d j : Nat), j + d = 4 → Ev (fun k => impl_SameEffect.l1 k l1 l2 (j : Int)) (iL l1 l2 d j, true)
  | 0, j, h => by
    refine ev_succ ?_
    simp only [impl_SameEffect.l1]
    simp only [if_neg (show ¬ ((j : Int) < 4) by omega)]
    exact ev_now rfl
  | d + 1, j, h => by
    have c1 := h1.1
    have c2 := h2.1
    refine ev_succ ?_
    simp only [impl_SameEffect.l1]
    simp only [if_pos (show (j : Int) < 4 by omega), lastWrite_eq _ _ (show l1.length < 9223372036854775807 by omega), lastWrite_eq _ _ (show l2.length < 9223372036854775807 by omega), Option.bind_some, wrap_succ (show j < 9223372036854775807 by omega)]
    refine Ev.bind (og_ev h1 _ (isPos_in (lw_pos l1 _))) (Ev.bind (og_ev h2 _ (isPos_in (lw_pos l2 _))) ?_)
    simp only [nePair]
    by_cases e : ogN l1 (lw l1 (j : Int)) = ogN l2 (lw l2 (j : Int))
    · have := iE_l1 h1 h2 d (j + 1) (by omega)
      simpa [iL, e] using this
    · simp only [e, decide_false, Bool.not_false, if_true]
      exact ev_now (by simp [iL, e])
theorem iE_l0 {l1 l2 : List S44} (h1 : okL l1) (h2 : okL l2) : ∀ (d j : Nat), j + d = 4 → Ev (fun k => impl_SameEffect.l0 k l1 l2 (j : Int)) (iA l1 l2 d j && iL l1 l2 4 0, true)
  | 0, j, h => by
    refine ev_succ ?_
    simp only [impl_SameEffect.l0]
    simp only [if_neg (show ¬ ((j : Int) < 4) by omega)]
    simpa [iA] using iE_l1 h1 h2 4 0 rfl
  | d + 1, j, h => by
    have c1 := h1.1
    have c2 := h2.1
    have b1 := DD_le l1 (j : Int)
    refine ev_succ ?_
    simp only [impl_SameEffect.l0]
    simp only [if_pos (show (j : Int) < 4 by omega), actsOf_eq _ _ h1.1, actsOf_eq _ _ h2.1, Option.bind_some, wrap_succ (show j < 9223372036854775807 by omega)]
    refine Ev.bind (eqA_ev _ _ (by omega)) ?_
    by_cases e : DD l1 (j : Int) = DD l2 (j : Int)
    · simp only [e, decide_true, if_true]
      have b2 := ogW_len l1 (j : Int)
      refine Ev.bind (os_ev h1 _) (Ev.bind (os_ev h2 _) (Ev.bind (eqO_ev _ _ (by omega)) ?_))
      by_cases e2 : ogW l1 (j : Int) = ogW l2 (j : Int)
      · simp only [e2, decide_true, if_true]
        have := iE_l0 h1 h2 d (j + 1) (by omega)
        simpa [iA, e, e2] using this
      · simp only [e2, decide_false, Bool.false_eq_true, if_false]
        exact ev_now (by simp [iA, e2])
    · simp only [e, decide_false, Bool.false_eq_true, if_false]
      exact ev_now (by simp [iA, e])
theorem gp_okL {l : List S44} (h : gp l = true) : okL l := ⟨gp_len h, fun x hx => (gp_all h x hx).1⟩
theorem SameEffect_both (l1 l2 : List S44) (hb1 : l1.length < 9223372036854775807) (hb2 : l2.length < 9223372036854775807) : ∃ r, Ev (fun k => spec_SameEffect.f k l1 l2) r ∧ Ev (fun k => impl_SameEffect.f k l1 l2) r := by
  simp only [spec_SameEffect.f, impl_SameEffect.f]
  cases e1 : gp l1
  · refine ⟨(false, false), Ev.bind (sGoodPlay_ev l1 hb1) ?_, Ev.bind (iGoodPlay_ev l1) ?_⟩
    · simp only [e1, Bool.false_eq_true, if_false]
      refine ev_succ ?_
      simp only [spec_SameEffect.j0, if_true]
      exact ev_now rfl
    · simp only [e1, Bool.false_eq_true, if_false]
      refine ev_succ ?_
      simp only [impl_SameEffect.j0, if_true]
      exact ev_now rfl
  · cases e2 : gp l2
    · refine ⟨(false, false), Ev.bind (sGoodPlay_ev l1 hb1) ?_, Ev.bind (iGoodPlay_ev l1) ?_⟩
      · simp only [e1, if_true]
        refine Ev.bind (sGoodPlay_ev l2 hb2) ?_
        simp only [e2, Bool.not_false]
        refine ev_succ ?_
        simp only [spec_SameEffect.j0, if_true]
        exact ev_now rfl
      · simp only [e1, if_true]
        refine Ev.bind (iGoodPlay_ev l2) ?_
        simp only [e2, Bool.not_false]
        refine ev_succ ?_
        simp only [impl_SameEffect.j0, if_true]
        exact ev_now rfl
    · have h1 := gp_okL e1
      have h2 := gp_okL e2
      refine ⟨(iA l1 l2 4 0 && iL l1 l2 4 0, true), Ev.bind (sGoodPlay_ev l1 hb1) ?_, Ev.bind (iGoodPlay_ev l1) ?_⟩
      · simp only [e1, if_true]
        refine Ev.bind (sGoodPlay_ev l2 hb2) ?_
        simp only [e2, Bool.not_true]
        refine ev_succ ?_
        simp only [spec_SameEffect.j0, Bool.false_eq_true, if_false]
        rw [← ans_eq h1 h2]
        exact sE_l0 h1 h2 4 0 rfl
      · simp only [e1, if_true]
        refine Ev.bind (iGoodPlay_ev l2) ?_
        simp only [e2, Bool.not_true]
        refine ev_succ ?_
        simp only [impl_SameEffect.j0, Bool.false_eq_true, if_false]
        exact iE_l0 h1 h2 4 0 rfl
theorem SameEffect (y0 y1 : (List S46)) (h0 : FL46 y0) (h1 : FL46 y1) : ∃ k, laws_FnExactSameEffect.f k y0 y1 = some true := by
  refine Ev.rounds ?_
  simp only [laws_FnExactSameEffect.f]
  obtain ⟨r, e1, _, b⟩ := szActS_ev y0 1048576 h0 (by omega) (by omega)
  refine Ev.bind e1 ?_
  by_cases hr : r < 0
  · simp only [if_pos hr]
    exact ev_now rfl
  · simp only [if_neg hr]
    have hB := b (by omega)
    have hc := toActS_ev y0 hB
    have hl := hB.1
    obtain ⟨r2, e2, _, b2⟩ := szActS_ev y1 r h1 (by omega) (by omega)
    refine Ev.bind e2 ?_
    by_cases hr2 : r2 < 0
    · simp only [if_pos hr2]
      exact ev_now rfl
    · simp only [if_neg hr2]
      have hB2 := b2 (by omega)
      have hc2 := toActS_ev y1 hB2
      have hl2 := hB2.1
      obtain ⟨⟨u, v⟩, es, ei⟩ := SameEffect_both (y0.map cvAct) (y1.map cvAct) (by simp; omega) (by simp; omega)
      refine Ev.bind hc (Ev.bind hc2 (Ev.bind es (Ev.bind hc (Ev.bind hc2 (Ev.bind ei ?_)))))
      simp only [bne_self_eq_false, Bool.false_eq_true, if_false]
      refine ev_succ ?_
      simp only [laws_FnExactSameEffect.j0, Bool.false_eq_true, if_false]
      refine Ev.bind hc (Ev.bind (eqActS_ev _ (ok_ActS hB)) ?_)
      simp only [if_true]
      refine Ev.bind hc2 (Ev.bind (eqActS_ev _ (ok_ActS hB2)) ?_)
      simp only [if_true]
      exact ev_now rfl
end Go.Proofs.Ytpnlkmpoaboncaa.Pu
