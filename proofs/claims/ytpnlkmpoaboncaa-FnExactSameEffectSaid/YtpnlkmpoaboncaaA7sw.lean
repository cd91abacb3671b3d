/- spec.SameEffect and impl.SameEffect, step by step: what each helper comes to. Conditions: at most 16 acts. -/
import Derived.Test.YtpnlkmpoaboncaaPr0
import Derived.Test.YtpnlkmpoaboncaaPr3
import Derived.Test.YtpnlkmpoaboncaaPr5
import Derived.Test.YtpnlkmpoaboncaaPr6
import Derived.Test.YtpnlkmpoaboncaaA7s
namespace Go.Proofs.Ytpnlkmpoaboncaa.Ax
open Go.RowKit Go.Proofs.Ytpnlkmpoaboncaa.Pr Go.Proofs.Ytpnlkmpoaboncaa.Pl Go.Proofs.Ytpnlkmpoaboncaa.Ax Go.Proofs.YtpnlkmpoaboncaaW.PrintWords Go.Proofs.YtpnlkmpoaboncaaW.PrintLast Go.Proofs.YtpnlkmpoaboncaaW.PrintMore
set_option linter.unusedVariables false
set_option linter.unusedSimpArgs false
theorem sm_l0 (xs zs : List Int) (hl : xs.length = zs.length) (hb : xs.length ≤ 9223372036854775807) : ∀ (ys us : List Int) (j : Nat), xs.drop j = ys → zs.drop j = us →
    Ev (fun k => spec_l1Same.l0 k xs zs (xs.length : Int) (j : Int)) (decide (ys = us))
  | [], us, j, h, hu => by
    have h1 := drop_nil h
    have h2 : us = [] := by rw [← hu]; exact List.drop_of_length_le (by omega)
    refine ev_succ ?_
    simp only [spec_l1Same.l0]
    simp only [if_neg (show ¬ ((j : Int) < (xs.length : Int)) by omega)]
    exact ev_now (by simp [h2])
  | y :: ys, [], j, h, hu => by
    have h1 := drop_nil hu
    have := (drop_cons h).1
    omega
  | y :: ys, u :: us, j, h, hu => by
    obtain ⟨h1, h2, h3⟩ := drop_cons h
    obtain ⟨g1, g2, g3⟩ := drop_cons hu
    refine ev_succ ?_
    simp only [spec_l1Same.l0]
    simp only [if_pos (show (j : Int) < (xs.length : Int) by omega), if_pos (show (j : Int) < (zs.length : Int) by omega), if_pos (show (0 : Int) ≤ (j : Int) by omega), rd_drop h, rd_drop hu, wrap_succ (show j < 9223372036854775807 by omega)]
    by_cases e : y = u
    · simp only [if_pos e]
      have := sm_l0 xs zs hl hb ys us (j + 1) h3 g3
      simpa [e] using this
    · simp only [if_neg e]
      exact ev_now (by simp [e])
theorem sm_ev (xs zs : List Int) (hb : xs.length ≤ 9223372036854775807) : Ev (fun k => spec_l1Same.f k xs zs) (decide (xs = zs)) := by
  simp only [spec_l1Same.f]
  by_cases hl : xs.length = zs.length
  · simp only [if_pos (show (xs.length : Int) = (zs.length : Int) by omega)]
    exact sm_l0 xs zs hl hb xs zs 0 rfl rfl
  · simp only [if_neg (show ¬ (xs.length : Int) = (zs.length : Int) by omega)]
    exact ev_now (by rw [eq_comm, decide_eq_false_iff_not]; exact fun e => hl (by rw [e]))
theorem neA (y u : S44) : (!(y.f0 == u.f0) || (!(y.f1 == u.f1) || (!(y.f2 == u.f2)))) = !decide (y = u) := by
  have h : decide (y = u) = sameA y u := by
    rw [eq_comm, Bool.eq_iff_iff, decide_eq_true_eq]
    exact sameA_iff
  rw [h, sameA]
  cases y.f0 == u.f0 <;> cases y.f1 == u.f1 <;> cases y.f2 == u.f2 <;> rfl
theorem neO (y u : S52) : (!(y.f0 == u.f0) || (!(y.f1 == u.f1))) = !decide (y = u) := by
  have h : decide (y = u) = sameO y u := by
    rw [eq_comm, Bool.eq_iff_iff, decide_eq_true_eq]
    exact sameO_iff
  rw [h, sameO]
  cases y.f0 == u.f0 <;> cases y.f1 == u.f1 <;> rfl
theorem eqA_l0 (xs zs : List S44) (hl : xs.length = zs.length) (hb : xs.length < 9223372036854775807) : ∀ (ys us : List S44) (j : Nat), xs.drop j = ys → zs.drop j = us →
    Ev (fun k => impl_Act_34.l0 k xs zs (xs.length : Int) (j : Int)) (decide (ys = us))
  | [], us, j, h, hu => by
    have h1 := drop_nil h
    have h2 : us = [] := by rw [← hu]; exact List.drop_of_length_le (by omega)
    refine ev_succ ?_
    simp only [impl_Act_34.l0]
    simp only [if_neg (show ¬ ((j : Int) < (xs.length : Int)) by omega)]
    exact ev_now (by simp [h2])
  | y :: ys, [], j, h, hu => by
    have h1 := drop_nil hu
    have := (drop_cons h).1
    omega
  | y :: ys, u :: us, j, h, hu => by
    obtain ⟨h1, h2, h3⟩ := drop_cons h
    obtain ⟨g1, g2, g3⟩ := drop_cons hu
    refine ev_succ ?_
    simp only [impl_Act_34.l0]
    simp only [if_pos (show (j : Int) < (xs.length : Int) by omega), if_pos (show (j : Int) < (zs.length : Int) by omega), if_pos (show (0 : Int) ≤ (j : Int) by omega), rd_T44_drop h, rd_T44_drop hu, wrap_succ (show j < 9223372036854775807 by omega), neA]
    by_cases e : y = u
    · have := eqA_l0 xs zs hl hb ys us (j + 1) h3 g3
      simpa [e] using this
    · simp only [e, decide_false, Bool.not_false, if_true]
      exact ev_now (by simp [e])
theorem eqA_ev (xs zs : List S44) (hb : xs.length < 9223372036854775807) : Ev (fun k => impl_Act_34.f k xs zs) (decide (xs = zs)) := by
  simp only [impl_Act_34.f]
  by_cases hl : xs.length = zs.length
  · simp only [if_pos (show (xs.length : Int) = (zs.length : Int) by omega)]
    exact eqA_l0 xs zs hl hb xs zs 0 rfl rfl
  · simp only [if_neg (show ¬ (xs.length : Int) = (zs.length : Int) by omega)]
    exact ev_now (by rw [eq_comm, decide_eq_false_iff_not]; exact fun e => hl (by rw [e]))
theorem eqO_l0 (xs zs : List S52) (hl : xs.length = zs.length) (hb : xs.length < 9223372036854775807) : ∀ (ys us : List S52) (j : Nat), xs.drop j = ys → zs.drop j = us →
    Ev (fun k => impl_origin.l0 k xs zs (xs.length : Int) (j : Int)) (decide (ys = us))
  | [], us, j, h, hu => by
    have h1 := drop_nil h
    have h2 : us = [] := by rw [← hu]; exact List.drop_of_length_le (by omega)
    refine ev_succ ?_
    simp only [impl_origin.l0]
    simp only [if_neg (show ¬ ((j : Int) < (xs.length : Int)) by omega)]
    exact ev_now (by simp [h2])
  | y :: ys, [], j, h, hu => by
    have h1 := drop_nil hu
    have := (drop_cons h).1
    omega
  | y :: ys, u :: us, j, h, hu => by
    obtain ⟨h1, h2, h3⟩ := drop_cons h
    obtain ⟨g1, g2, g3⟩ := drop_cons hu
    refine ev_succ ?_
    simp only [impl_origin.l0]
    simp only [if_pos (show (j : Int) < (xs.length : Int) by omega), if_pos (show (j : Int) < (zs.length : Int) by omega), if_pos (show (0 : Int) ≤ (j : Int) by omega), rd_T52_drop h, rd_T52_drop hu, wrap_succ (show j < 9223372036854775807 by omega), neO]
    by_cases e : y = u
    · have := eqO_l0 xs zs hl hb ys us (j + 1) h3 g3
      simpa [e] using this
    · simp only [e, decide_false, Bool.not_false, if_true]
      exact ev_now (by simp [e])
theorem eqO_ev (xs zs : List S52) (hb : xs.length < 9223372036854775807) : Ev (fun k => impl_origin.f k xs zs) (decide (xs = zs)) := by
  simp only [impl_origin.f]
  by_cases hl : xs.length = zs.length
  · simp only [if_pos (show (xs.length : Int) = (zs.length : Int) by omega)]
    exact eqO_l0 xs zs hl hb xs zs 0 rfl rfl
  · simp only [if_neg (show ¬ (xs.length : Int) = (zs.length : Int) by omega)]
    exact ev_now (by rw [eq_comm, decide_eq_false_iff_not]; exact fun e => hl (by rw [e]))
theorem of_l0 (xs : List S44) (w : Int) (hb : xs.length < 5864062014805) : ∀ (ys : List S44) (j : Nat) (out : List S44), xs.drop j = ys → out.length ≤ j → j ≤ xs.length →
    Ev (fun k => spec_l7Of.l0 k w out xs (xs.length : Int) (j : Int)) (out ++ DD ys w)
  | [], j, out, h, ho, hj => by
    have h1 := drop_nil h
    refine ev_succ ?_
    simp only [spec_l7Of.l0]
    simp only [if_neg (show ¬ ((j : Int) < (xs.length : Int)) by omega)]
    exact ev_now (by simp [DD])
  | y :: ys, j, out, h, ho, hj => by
    obtain ⟨h1, h2, h3⟩ := drop_cons h
    refine ev_succ ?_
    simp only [spec_l7Of.l0]
    simp only [if_pos (show (j : Int) < (xs.length : Int) by omega), if_pos (show (0 : Int) ≤ (j : Int) by omega), rd_T44_drop h, wrap_succ (show j < 9223372036854775807 by omega)]
    by_cases e : y.f0 = w
    · simp only [if_pos e, if_pos (show out.length < 5864062014805 by omega)]
      have := of_l0 xs w hb ys (j + 1) (out ++ [y]) h3 (by simp; omega) h1
      change Ev (fun k => spec_l7Of.l0 k w (out ++ [y]) xs (xs.length : Int) ((j + 1 : Nat) : Int)) (out ++ DD (y :: ys) w)
      simpa [DD, e] using this
    · simp only [if_neg e]
      have := of_l0 xs w hb ys (j + 1) out h3 (by omega) h1
      simpa [DD, e] using this
theorem of_ev (xs : List S44) (w : Int) (hb : xs.length < 5864062014805) : Ev (fun k => spec_l7Of.f k xs w) (DD xs w) := by
  simp only [spec_l7Of.f]
  simpa using of_l0 xs w hb xs 0 [] rfl (Nat.zero_le _) (Nat.zero_le _)
theorem name_ev {l : List S44} (hl : okL l) (a : Int) (h : a < 0 ∨ ∃ j : Nat, a = (j : Int) ∧ j < l.length) : Ev (fun k => spec_l7Name.f k l a) (nmN l a) := by
  have hb := hl.1
  simp only [spec_l7Name.f]
  rcases h with h | ⟨j, rfl, h⟩
  · simp only [if_pos h]
    exact ev_now (by simp [nmN, h])
  · have ho := rdA_ok hl h
    simp only [if_neg (show ¬ ((j : Int) < 0) by omega), if_pos (show (0 : Int) ≤ (j : Int) by omega), if_pos (show (j : Int) < (l.length : Int) by omega), if_pos (show (j : Int) ≤ (l.length : Int) by omega), Int.toNat_natCast]
    refine Ev.bind (of_ev _ _ (by rw [List.length_take]; omega)) (ev_now ?_)
    have hd := DD_len l (rd_T44 l (j : Int)).f0 j
    rw [wrap_in (x := 100 * (rd_T44 l (j : Int)).f0) (by omega) (by omega), wrap_in (by omega) (by omega)]
    simp [nmN, show ¬ ((j : Int) < 0) by omega]
theorem isPos_in {l : List S44} {it k : Int} (h : isPos l it k) : k < 0 ∨ ∃ j : Nat, k = (j : Int) ∧ j < l.length := by
  rcases h with rfl | ⟨j, rfl, h, -⟩
  · exact Or.inl (by omega)
  · exact Or.inr ⟨j, rfl, h⟩
theorem rdF_at (l : List S44) : ∀ (ys : List S44) (j i : Nat) (y : S44), ys[i]? = some y → (rdF l ys j)[i]? = some (if y.f2 then -2 else lw (l.take (j + i)) y.f1)
  | [], _, _, _, h => by simp at h
  | z :: ys, j, 0, y, h => by
    simp at h
    subst h
    simp [rdF]
  | z :: ys, j, i + 1, y, h => by
    have := rdF_at l ys (j + 1) i y (by simpa using h)
    rw [rdF]
    rw [List.getElem?_cons_succ, this, show j + 1 + i = j + (i + 1) by omega]
def efR (l : List S44) : Nat → Nat → List Int
  | 0, _ => (lasts l 0 4).map (nmN l)
  | d + 1, j => efW l (j : Int) ++ efR l d (j + 1)
theorem efR_eq (l : List S44) : efR l 4 0 = efL l := by simp [efR, efL]
theorem ef_l2 {l : List S44} (hl : okL l) (L : List Int) (hL : ∀ k ∈ L, k < 0 ∨ ∃ j : Nat, k = (j : Int) ∧ j < l.length) (hb : L.length ≤ 4) : ∀ (ys : List Int) (j : Nat) (out : List Int), L.drop j = ys → out.length ≤ 100 + j → j ≤ L.length →
    Ev (fun k => spec_l7Effect.l2 k l out L (L.length : Int) (j : Int)) (out ++ ys.map (nmN l))
  | [], j, out, h, ho, hj => by
    have h1 := drop_nil h
    refine ev_succ ?_
    simp only [spec_l7Effect.l2]
    simp only [if_neg (show ¬ ((j : Int) < (L.length : Int)) by omega)]
    exact ev_now (by simp)
  | y :: ys, j, out, h, ho, hj => by
    obtain ⟨h1, h2, h3⟩ := drop_cons h
    refine ev_succ ?_
    simp only [spec_l7Effect.l2]
    simp only [if_pos (show (j : Int) < (L.length : Int) by omega), if_pos (show (0 : Int) ≤ (j : Int) by omega), rd_drop h, wrap_succ (show j < 9223372036854775807 by omega)]
    refine Ev.bind (name_ev hl y (hL y (List.mem_of_getElem? h2))) ?_
    simp only [if_pos (show out.length < 17592186044416 by omega)]
    have := ef_l2 hl L hL hb ys (j + 1) (out ++ [nmN l y]) h3 (by simp; omega) h1
    simpa using this
theorem lasts_in (l : List S44) : ∀ k ∈ lasts l 0 4, k < 0 ∨ ∃ j : Nat, k = (j : Int) ∧ j < l.length := by
  intro k hk
  simp only [lasts, List.mem_map] at hk
  obtain ⟨i, -, rfl⟩ := hk
  exact isPos_in (lw_pos l _)
mutual
theorem ef_l0 {l : List S44} (hl : okL l) (hg : ∀ x ∈ l, 0 ≤ x.f0) : ∀ (d j : Nat) (out : List Int), j + d = 4 → out.length ≤ 16 * j → Ev (fun k => spec_l7Effect.l0 k l out (rdF l l 0) (j : Int)) (out ++ efR l d j)
  | 0, j, out, h, ho => by
    refine ev_succ ?_
    simp only [spec_l7Effect.l0]
    simp only [if_neg (show ¬ ((j : Int) < 4) by omega)]
    refine Ev.bind (lasts_ev l (by have := hl.1; omega)) ?_
    have := ef_l2 hl (lasts l 0 4) (lasts_in l) (by rw [lasts_length]; omega) _ 0 out rfl (by omega) (Nat.zero_le _)
    simpa [efR] using this
  | d + 1, j, out, h, ho => by
    refine ev_succ ?_
    simp only [spec_l7Effect.l0]
    simp only [if_pos (show (j : Int) < 4 by omega)]
    have := ef_l1 hl hg d j h l 0 out rfl (by omega) (Nat.zero_le _)
    simpa [efR, efW] using this
theorem ef_l1 {l : List S44} (hl : okL l) (hg : ∀ x ∈ l, 0 ≤ x.f0) : ∀ (d w : Nat), w + (d + 1) = 4 → ∀ (ys : List S44) (j : Nat) (out : List Int), l.drop j = ys → out.length ≤ 16 * w + j → j ≤ l.length →
    Ev (fun k => spec_l7Effect.l1 k l out (rdF l l 0) (w : Int) l (l.length : Int) (j : Int)) (out ++ ((PW l (w : Int) ys j).map (eN l) ++ efR l d (w + 1)))
  | d, w, hw, [], j, out, h, ho, hj => by
    have h1 := drop_nil h
    have hb := hl.1
    refine ev_succ ?_
    simp only [spec_l7Effect.l1]
    simp only [if_neg (show ¬ ((j : Int) < (l.length : Int)) by omega), wrap_succ (show w < 9223372036854775807 by omega)]
    have := ef_l0 hl hg d (w + 1) out (by omega) (by omega)
    simpa [PW] using this
  | d, w, hw, y :: ys, j, out, h, ho, hj => by
    obtain ⟨h1, h2, h3⟩ := drop_cons h
    have hb := hl.1
    refine ev_succ ?_
    simp only [spec_l7Effect.l1]
    simp only [if_pos (show (j : Int) < (l.length : Int) by omega), if_pos (show (0 : Int) ≤ (j : Int) by omega), rd_T44_drop h, wrap_succ (show j < 9223372036854775807 by omega), rdF_length]
    by_cases e : y.f0 = (w : Int)
    · have hr : rd (rdF l l 0) (j : Int) = if y.f2 then -2 else lw (l.take j) y.f1 := by
        have := rdF_at l l 0 j y h2
        simp only [Nat.zero_add] at this
        simp [rd, List.getD_eq_getElem?_getD, this]
      simp only [if_pos e, hr]
      refine Ev.bind (name_ev hl _ ?_) ?_
      · cases y.f2
        · exact isPos_in (lw_take_pos l y.f1 j)
        · exact Or.inl (by simp)
      · simp only [if_pos (show out.length < 17592186044416 by omega)]
        have := ef_l1 hl hg d w hw ys (j + 1) (out ++ [nmN l (if y.f2 then -2 else lw (l.take j) y.f1)]) h3 (by simp; omega) h1
        have e2 : eN l (y, lw (l.take j) y.f1) = nmN l (if y.f2 then -2 else lw (l.take j) y.f1) := by
          unfold eN
          cases y.f2
          · simp
          · simp [nmN]
        simpa [PW, e, e2] using this
    · simp only [if_neg e]
      have := ef_l1 hl hg d w hw ys (j + 1) out h3 (by omega) h1
      simpa [PW, e] using this
end
theorem ef_ev {l : List S44} (hl : okL l) : Ev (fun k => spec_l7Effect.f k l) (efL l) := by
  have hb := hl.1
  simp only [spec_l7Effect.f]
  refine Ev.bind (reads_ev l (by omega)) ?_
  rw [← efR_eq]
  simpa using ef_l0 hl (fun x hx => (hl.2 x hx).1) 4 0 [] rfl (by simp)
theorem actsOf_eq (l : List S44) (w : Int) (hb : l.length ≤ 16) : impl_actsOf.f l w = some (DD l w) := by
  unfold impl_actsOf.f
  rw [if_pos (by omega)]
  rfl
theorem og_l0 {l : List S44} (hl : okL l) {k0 : Nat} (hk : k0 < l.length) (P : List S44) (hP : P.length ≤ 16) : ∀ (ys : List S44) (j c : Nat), P.drop j = ys → c ≤ j → j ≤ P.length →
    Ev (fun k => impl_originOf.l0 k l (k0 : Int) (c : Int) P (P.length : Int) (j : Int)) ((rd_T44 l (k0 : Int)).f0, ((c + cnt ys (rd_T44 l (k0 : Int)) : Nat) : Int))
  | [], j, c, h, hc, hj => by
    have h1 := drop_nil h
    refine ev_succ ?_
    simp only [impl_originOf.l0]
    simp only [if_neg (show ¬ ((j : Int) < (P.length : Int)) by omega), if_pos (show (0 : Int) ≤ (k0 : Int) by omega), if_pos (show (k0 : Int) < (l.length : Int) by omega)]
    exact ev_now (by simp [cnt])
  | y :: ys, j, c, h, hc, hj => by
    obtain ⟨h1, h2, h3⟩ := drop_cons h
    refine ev_succ ?_
    simp only [impl_originOf.l0]
    simp only [if_pos (show (j : Int) < (P.length : Int) by omega), if_pos (show (0 : Int) ≤ (j : Int) by omega), if_pos (show (0 : Int) ≤ (k0 : Int) by omega), if_pos (show (k0 : Int) < (l.length : Int) by omega), rd_T44_drop h, wrap_succ (show j < 9223372036854775807 by omega), wrap_succ (show c < 9223372036854775807 by omega)]
    have e : (y.f0 == (rd_T44 l (k0 : Int)).f0 && (y.f1 == (rd_T44 l (k0 : Int)).f1 && y.f2 == (rd_T44 l (k0 : Int)).f2)) = sameA y (rd_T44 l (k0 : Int)) := rfl
    simp only [e]
    cases e1 : sameA y (rd_T44 l (k0 : Int))
    · simp only [Bool.false_eq_true, if_false]
      have := og_l0 hl hk P hP ys (j + 1) c h3 (by omega) h1
      rwa [show c + cnt (y :: ys) (rd_T44 l (k0 : Int)) = c + cnt ys (rd_T44 l (k0 : Int)) by simp [cnt, List.countP_cons, e1]]
    · simp only [if_true]
      have := og_l0 hl hk P hP ys (j + 1) (c + 1) h3 (by omega) h1
      rwa [show c + cnt (y :: ys) (rd_T44 l (k0 : Int)) = c + 1 + cnt ys (rd_T44 l (k0 : Int)) by simp [cnt, List.countP_cons, e1]; omega]
theorem og_ev {l : List S44} (hl : okL l) (a : Int) (h : a < 0 ∨ ∃ j : Nat, a = (j : Int) ∧ j < l.length) : Ev (fun k => impl_originOf.f k l a) (ogN l a) := by
  have hb := hl.1
  simp only [impl_originOf.f]
  rcases h with h | ⟨j, rfl, h⟩
  · simp only [if_pos h]
    exact ev_now (by simp [ogN, h])
  · simp only [if_neg (show ¬ ((j : Int) < 0) by omega), if_pos (show (0 : Int) ≤ (j : Int) by omega), if_pos (show (j : Int) ≤ (l.length : Int) by omega), Option.bind_some, Int.toNat_natCast]
    have := og_l0 hl h (l.take j) (by rw [List.length_take]; omega) (l.take j) 0 0 rfl (Nat.le_refl _) (Nat.zero_le _)
    simpa [ogN, show ¬ ((j : Int) < 0) by omega] using this
theorem os_l0 {l : List S44} (hl : okL l) (w : Int) : ∀ (ys : List S44) (j : Nat) (out : List S52), l.drop j = ys → out.length ≤ j → j ≤ l.length →
    Ev (fun k => impl_origins.l0 k l w out l (l.length : Int) (j : Int)) (out ++ eO l (PW l w ys j))
  | [], j, out, h, ho, hj => by
    have h1 := drop_nil h
    refine ev_succ ?_
    simp only [impl_origins.l0]
    simp only [if_neg (show ¬ ((j : Int) < (l.length : Int)) by omega)]
    exact ev_now (by simp [PW, eO])
  | y :: ys, j, out, h, ho, hj => by
    obtain ⟨h1, h2, h3⟩ := drop_cons h
    have hb := hl.1
    refine ev_succ ?_
    simp only [impl_origins.l0]
    simp only [if_pos (show (j : Int) < (l.length : Int) by omega), if_pos (show (0 : Int) ≤ (j : Int) by omega), rd_T44_drop h]
    by_cases e : y.f0 = w
    · simp only [if_pos e]
      refine ev_succ ?_
      simp only [impl_origins.j1]
      cases e2 : y.f2
      · simp only [Bool.not_false, if_true, if_pos (show (0 : Int) ≤ (j : Int) by omega), if_pos (show (j : Int) ≤ (l.length : Int) by omega), Int.toNat_natCast, lastWrite_eq _ _ (show (l.take j).length < 9223372036854775807 by rw [List.length_take]; omega), Option.bind_some, wrap_succ (show j < 9223372036854775807 by omega)]
        refine Ev.bind (og_ev hl _ (isPos_in (lw_take_pos l y.f1 j))) ?_
        simp only [if_pos (show out.length < 8796093022208 by omega)]
        have := os_l0 hl w ys (j + 1) (out ++ [oN l (lw (l.take j) y.f1)]) h3 (by simp; omega) h1
        have e3 : eO l ((y, lw (l.take j) y.f1) :: PW l w ys (j + 1)) = oN l (lw (l.take j) y.f1) :: eO l (PW l w ys (j + 1)) := by simp [eO, e2]
        rw [PW, if_pos e, e3]
        simpa [oN] using this
      · simp only [Bool.not_true, Bool.false_eq_true, if_false, wrap_succ (show j < 9223372036854775807 by omega)]
        have := os_l0 hl w ys (j + 1) out h3 (by omega) h1
        have e3 : eO l ((y, lw (l.take j) y.f1) :: PW l w ys (j + 1)) = eO l (PW l w ys (j + 1)) := by simp [eO, e2]
        rw [PW, if_pos e, e3]
        exact this
    · simp only [if_neg e]
      refine ev_succ ?_
      simp only [impl_origins.j1]
      simp only [Bool.false_eq_true, if_false, wrap_succ (show j < 9223372036854775807 by omega)]
      have := os_l0 hl w ys (j + 1) out h3 (by omega) h1
      rw [PW, if_neg e]
      exact this
theorem os_ev {l : List S44} (hl : okL l) (w : Int) : Ev (fun k => impl_origins.f k l w) (ogW l w) := by
  simp only [impl_origins.f]
  simpa [ogW] using os_l0 hl w l 0 [] rfl (Nat.zero_le _) (Nat.zero_le _)
theorem ogW_len (l : List S44) (w : Int) : (ogW l w).length ≤ l.length := by
  simp only [ogW, eO, List.length_map]
  exact Nat.le_trans (List.length_filter_le _ _) (PW_len l w l 0)
end Go.Proofs.Ytpnlkmpoaboncaa.Ax
