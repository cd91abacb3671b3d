/- What good locks tell, on both sides. Conditions: lengths that Go can hold. -/
import Derived.Test.YtlknbopddalinaaPr3
import Derived.Test.YtlknbopddalinaaPr4
import Derived.Test.YtlknbopddalinaaPr5
import Derived.Test.YtlknbopddalinaaPr6
import Derived.Test.YtlknbopddalinaaAr
import Derived.Test.YtlknbopddalinaaAl
import Derived.Test.YtlknbopddalinaaAq
import Derived.Test.YtlknbopddalinaaAh
import Derived.Test.YtlknbopddalinaaAhs
import Derived.Test.YtlknbopddalinaaCv
import Derived.Test.YtlknbopddalinaaEBoth
namespace Go.Proofs.Ytlknbopddalinaa.Pu
open Go.RowKit Go.Proofs.Ytlknbopddalinaa.Pr Go.Proofs.Ytlknbopddalinaa.Pl Go.Proofs.Ytlknbopddalinaa.Ax Go.Proofs.Ytlknbopddalinaa.Ops Go.Proofs.YtlknbopddalinaaW.PrintWords Go.Proofs.YtlknbopddalinaaW.PrintLast Go.Proofs.YtlknbopddalinaaW.PrintMore
set_option linter.unusedVariables false
set_option linter.unusedSimpArgs false
/-- Does somebody hold a lock? -/
def hd (who : Int) : List (List Int) → List Int → Bool
  | r :: rs, w :: ws => (w == who || r.contains who) || hd who rs ws
  | _, _ => false
def okI (w : Int) (r : List Int) : Bool := !decide (w ≥ 0) || r.isEmpty || decide (r = [w])
def itm : List (List Int) → List Int → Bool
  | r :: R, w :: W => (rs 0 3 none r && okI w r) && itm R W
  | _, _ => true
def nt (O : List Int) : List (List Int) → List Int → Bool
  | r :: R, w :: W => (!O.contains w && decide ((r.filter fun x => O.contains x).length = 0)) && nt O R W
  | _, _ => true
def iti (O : List Int) : List (List Int) → List Int → Bool
  | r :: R, w :: W => (rs 0 3 none r && win w (-1) 3 && okI w r && !O.contains w && decide ((r.filter fun x => O.contains x).length = 0)) && iti O R W
  | _, _ => true
theorem iti_eq (O : List Int) : ∀ (R : List (List Int)) (W : List Int), R.length = W.length → iti O R W = (itm R W && (W.all fun w => win w (-1) 3) && nt O R W)
  | [], [], h => rfl
  | r :: R, [], h => by simp at h
  | [], w :: W, h => by simp at h
  | r :: R, w :: W, h => by
    rw [iti, itm, nt, List.all_cons, iti_eq O R W (by simpa using h)]
    cases rs 0 3 none r <;> cases win w (-1) 3 <;> cases okI w r <;> cases O.contains w <;> cases decide ((r.filter fun x => O.contains x).length = 0) <;> cases itm R W <;> cases (W.all fun w => win w (-1) 3) <;> rfl
theorem all_ne (O : List Int) (w : Int) : (O.all fun who => !(w == who)) = !O.contains w := by
  rw [Bool.eq_iff_iff]
  simp only [List.all_eq_true, Bool.not_eq_true', beq_eq_false_iff_ne, List.contains_eq_mem, decide_eq_false_iff_not]
  exact ⟨fun h hm => h w hm rfl, fun h x hx e => h (e ▸ hx)⟩
theorem all_out (O r : List Int) : (O.all fun who => !r.contains who) = decide ((r.filter fun x => O.contains x).length = 0) := by
  rw [Bool.eq_iff_iff]
  simp only [List.all_eq_true, Bool.not_eq_true', List.contains_eq_mem, decide_eq_false_iff_not, decide_eq_true_eq, List.length_eq_zero_iff, List.filter_eq_nil_iff]
  exact ⟨fun h x hx ho => h x ho hx, fun h x hx hr => h x hr hx⟩
theorem all_and {α : Type} (l : List α) (p q : α → Bool) : (l.all fun x => p x && q x) = (l.all p && l.all q) := by
  induction l with
  | nil => rfl
  | cons x l ih =>
    rw [List.all_cons, List.all_cons, List.all_cons, ih]
    cases p x <;> cases q x <;> simp
theorem hd_nt (O : List Int) : ∀ (R : List (List Int)) (W : List Int), R.length = W.length → (O.all fun who => !hd who R W) = nt O R W
  | [], [], h => by simp [hd, nt]
  | r :: R, [], h => by simp at h
  | [], w :: W, h => by simp at h
  | r :: R, w :: W, h => by
    rw [nt, ← hd_nt O R W (by simpa using h), ← all_ne, ← all_out, ← all_and, ← all_and]
    congr 1
    funext who
    rw [hd]
    cases (w == who) <;> cases r.contains who <;> rfl
def dst (O : List Int) : Nat → List Int → Bool
  | _, [] => true
  | j, y :: ys => !(O.take j).contains y && dst O (j + 1) ys
def sL (O : List Int) (R : List (List Int)) (W : List Int) : Nat → List Int → Bool
  | _, [] => true
  | j, y :: ys => !(O.take j).contains y && !hd y R W && sL O R W (j + 1) ys
theorem sL_eq (O : List Int) (R : List (List Int)) (W : List Int) : ∀ (ys : List Int) (j : Nat), sL O R W j ys = (dst O j ys && ys.all fun who => !hd who R W)
  | [], j => rfl
  | y :: ys, j => by
    rw [sL, dst, List.all_cons, sL_eq O R W ys (j + 1)]
    cases (O.take j).contains y <;> cases hd y R W <;> cases dst O (j + 1) ys <;> rfl
def iL (O : List Int) : Nat → List Int → Bool
  | _, [] => true
  | j, y :: ys => win y 0 3 && !(O.take j).contains y && iL O (j + 1) ys
theorem iL_eq (O : List Int) : ∀ (ys : List Int) (j : Nat), iL O j ys = ((ys.all fun y => win y 0 3) && dst O j ys)
  | [], j => rfl
  | y :: ys, j => by
    rw [iL, dst, List.all_cons, iL_eq O ys (j + 1)]
    cases (O.take j).contains y <;> cases win y 0 3 <;> cases (ys.all fun y => win y 0 3) <;> rfl
theorem held_l0 (who : Int) (R : List (List Int)) (W O : List Int) (hR : R.length = 4) (hW : W.length = 4) (hO : ∀ r ∈ R, r.length < 9223372036854775807) : ∀ (d j : Nat) (out : List Int), j + d = 4 → out.length ≤ j →
    ∃ r, Ev (fun k => spec_l8Held.l0 k who out (W.length : Int) (j : Int) R W O) r ∧ decide ((r.length : Int) > 0) = (decide ((out.length : Int) > 0) || hd who (R.drop j) (W.drop j))
  | 0, j, out, hj, ho => by
    refine ⟨out, ev_succ ?_, ?_⟩
    · simp only [spec_l8Held.l0]
      simp only [if_neg (show ¬ ((j : Int) < (W.length : Int)) by omega)]
      exact ev_now rfl
    · rw [List.drop_of_length_le (by omega), List.drop_of_length_le (by omega)]
      simp [hd]
  | d + 1, j, out, hj, ho => by
    obtain ⟨w, W', hw⟩ : ∃ w W', W.drop j = w :: W' := ⟨W[j], _, List.drop_eq_getElem_cons (by omega)⟩
    obtain ⟨r, R', hr⟩ : ∃ r R', R.drop j = r :: R' := ⟨R[j], _, List.drop_eq_getElem_cons (by omega)⟩
    obtain ⟨h1, h2, h3⟩ := drop_cons hw
    obtain ⟨g1, g2, g3⟩ := drop_cons hr
    have hrl := hO r (List.mem_of_getElem? g2)
    rw [hw, hr, hd]
    by_cases e1 : w = who
    · obtain ⟨res, e2, e3⟩ := held_l0 who R W O hR hW hO d (j + 1) (out ++ [(j : Int)]) (by omega) (by simp; omega)
      refine ⟨res, ev_succ ?_, ?_⟩
      · simp only [spec_l8Held.l0]
        simp only [if_pos (show (j : Int) < (W.length : Int) by omega), if_pos (show (0 : Int) ≤ (j : Int) by omega), rd_drop hw, if_pos e1, if_pos (show out.length < 17592186044416 by omega), wrap_succ (show j < 9223372036854775807 by omega)]
        exact e2
      · rw [e3, e1]
        have : ((out ++ [(j : Int)]).length : Int) > 0 := by first | (simp; done) | (simp; omega)
        simp [this]
    · cases e4 : r.contains who
      · obtain ⟨res, e2, e3⟩ := held_l0 who R W O hR hW hO d (j + 1) out (by omega) (by omega)
        refine ⟨res, ev_succ ?_, ?_⟩
        · simp only [spec_l8Held.l0]
          simp only [if_pos (show (j : Int) < (W.length : Int) by omega), if_pos (show (j : Int) < (R.length : Int) by omega), if_pos (show (0 : Int) ≤ (j : Int) by omega), rd_drop hw, rd_L1_drop hr, if_neg e1, wrap_succ (show j < 9223372036854775807 by omega)]
          refine Ev.bind (l1Has_ev r who (by omega)) ?_
          simp only [e4, Bool.false_eq_true, if_false]
          exact e2
        · rw [e3, h3, g3, show (w == who) = false from beq_eq_false_iff_ne.2 e1]
          simp
      · obtain ⟨res, e2, e3⟩ := held_l0 who R W O hR hW hO d (j + 1) (out ++ [(j : Int)]) (by omega) (by simp; omega)
        refine ⟨res, ev_succ ?_, ?_⟩
        · simp only [spec_l8Held.l0]
          simp only [if_pos (show (j : Int) < (W.length : Int) by omega), if_pos (show (j : Int) < (R.length : Int) by omega), if_pos (show (0 : Int) ≤ (j : Int) by omega), rd_drop hw, rd_L1_drop hr, if_neg e1, wrap_succ (show j < 9223372036854775807 by omega)]
          refine Ev.bind (l1Has_ev r who (by omega)) ?_
          simp only [e4, if_true, if_pos (show out.length < 17592186044416 by omega)]
          exact e2
        · rw [e3]
          have : ((out ++ [(j : Int)]).length : Int) > 0 := by first | (simp; done) | (simp; omega)
          simp [this]
theorem sGL_l1 (R : List (List Int)) (W O : List Int) (hR : R.length = 4) (hW : W.length = 4) (hO : ∀ r ∈ R, r.length < 9223372036854775807) (hb : O.length < 9223372036854775807) : ∀ (ys : List Int) (j : Nat), O.drop j = ys →
    Ev (fun k => spec_GoodLocks.l1 k O (O.length : Int) (j : Int) R W O) (sL O R W j ys)
  | [], j, h => by
    have h1 := drop_nil h
    refine ev_succ ?_
    simp only [spec_GoodLocks.l1]
    simp only [if_neg (show ¬ ((j : Int) < (O.length : Int)) by omega)]
    exact ev_now rfl
  | y :: ys, j, h => by
    obtain ⟨h1, h2, h3⟩ := drop_cons h
    obtain ⟨res, e2, e3⟩ := held_l0 y R W O hR hW hO 4 0 [] rfl (by simp)
    refine ev_succ ?_
    simp only [spec_GoodLocks.l1, spec_l8Held.f]
    simp only [if_pos (show (j : Int) < (O.length : Int) by omega), if_pos (show (0 : Int) ≤ (j : Int) by omega), if_pos (show (j : Int) ≤ (O.length : Int) by omega), rd_drop h, wrap_succ (show j < 9223372036854775807 by omega), Int.toNat_natCast]
    refine Ev.bind (l1Has_ev _ y (by simp; omega)) ?_
    rw [sL]
    cases e : (O.take j).contains y
    · simp only [Bool.false_eq_true, if_false]
      refine Ev.bind e2 ?_
      simp only [List.drop_zero, List.length_nil] at e3
      by_cases hl : (res.length : Int) > 0
      · simp only [if_pos hl]
        rw [decide_eq_true hl] at e3
        have : hd y R W = true := by simpa using e3.symm
        exact ev_now (by simp [this])
      · simp only [if_neg hl]
        rw [decide_eq_false hl] at e3
        have : hd y R W = false := by simpa using e3.symm
        have ih := sGL_l1 R W O hR hW hO hb ys (j + 1) h3
        simpa [this] using ih
    · simp only [if_true]
      exact ev_now (by simp)
theorem sGL_l0 (R : List (List Int)) (W O : List Int) (hR : R.length = 4) (hW : W.length = 4) (hO : ∀ r ∈ R, r.length < 9223372036854775807) (hb : O.length < 9223372036854775807) : ∀ (d j : Nat), j + d = 4 →
    Ev (fun k => spec_GoodLocks.l0 k R (R.length : Int) (j : Int) R W O) (itm (R.drop j) (W.drop j) && sL O R W 0 O)
  | 0, j, hj => by
    refine ev_succ ?_
    simp only [spec_GoodLocks.l0]
    simp only [if_neg (show ¬ ((j : Int) < (R.length : Int)) by omega)]
    rw [List.drop_of_length_le (show R.length ≤ j by omega), List.drop_of_length_le (show W.length ≤ j by omega)]
    have := sGL_l1 R W O hR hW hO hb O 0 rfl
    simpa [itm] using this
  | d + 1, j, hj => by
    obtain ⟨w, W', hw⟩ : ∃ w W', W.drop j = w :: W' := ⟨W[j], _, List.drop_eq_getElem_cons (by omega)⟩
    obtain ⟨r, R', hr⟩ : ∃ r R', R.drop j = r :: R' := ⟨R[j], _, List.drop_eq_getElem_cons (by omega)⟩
    obtain ⟨h1, h2, h3⟩ := drop_cons hw
    obtain ⟨g1, g2, g3⟩ := drop_cons hr
    have hrl := hO r (List.mem_of_getElem? g2)
    have ih := sGL_l0 R W O hR hW hO hb d (j + 1) (by omega)
    rw [h3, g3] at ih
    refine ev_succ ?_
    simp only [spec_GoodLocks.l0]
    simp only [if_pos (show (j : Int) < (R.length : Int) by omega), if_pos (show (j : Int) < (W.length : Int) by omega), if_pos (show (0 : Int) ≤ (j : Int) by omega), rd_drop hw, rd_L1_drop hr, wrap_succ (show j < 9223372036854775807 by omega)]
    refine Ev.bind (l1Rising_ev r 0 3 hrl) ?_
    rw [hw, hr, itm]
    cases e : rs 0 3 none r
    · simp only [Bool.false_eq_true, if_false]
      exact ev_now (by simp)
    · simp only [if_true]
      by_cases hw0 : w ≥ 0
      · simp only [if_pos hw0]
        match r, hrl with
        | [], _ =>
          simp only [List.length_nil, if_neg (show ¬ (((0 : Nat) : Int) > 1) by omega), if_neg (show ¬ (((0 : Nat) : Int) = 1) by omega)]
          simpa [okI] using ih
        | [a], _ =>
          simp only [List.length_cons, List.length_nil, Nat.zero_add, if_neg (show ¬ (((1 : Nat) : Int) > 1) by omega), if_pos (show (((1 : Nat) : Int) = 1) by omega), if_pos (show (0 : Int) < ((1 : Nat) : Int) by omega), show rd [a] 0 = a from rfl]
          by_cases ea : a = w
          · simp only [if_pos ea]
            simpa [okI, ea] using ih
          · simp only [if_neg ea]
            exact ev_now (by simp [okI, hw0, ea])
        | a :: b :: l, _ =>
          simp only [if_pos (show (((a :: b :: l).length : Nat) : Int) > 1 by simp; omega)]
          exact ev_now (by simp [okI, hw0])
      · simp only [if_neg hw0]
        simpa [okI, hw0] using ih
def glV (R : List (List Int)) (W O : List Int) : Bool := decide (R.length = 4) && (decide (W.length = 4) && ((W.all fun w => win w (-1) 3) && ((O.all fun w => win w 0 3) && (itm R W && sL O R W 0 O))))
theorem sGL_ev (R : List (List Int)) (W O : List Int) (h1 : OkIntSS R) (h2 : OkIntS W) (h3 : OkIntS O) : Ev (fun k => spec_GoodLocks.f k R W O) (glV R W O) := by
  simp only [spec_GoodLocks.f, glV]
  have no : ∀ b : Bool, b = true → Ev (fun k => spec_GoodLocks.j0 k b R W O) false := fun b hb => ev_succ (by simp only [spec_GoodLocks.j0, hb, if_true]; exact ev_now rfl)
  by_cases hR : R.length = 4
  · by_cases hW : W.length = 4
    · simp only [if_pos (show (R.length : Int) = 4 by omega), if_pos (show (W.length : Int) = 4 by omega)]
      refine Ev.bind (l1All_ev W _ _ h2.1) ?_
      cases e1 : W.all fun n => win n (-1) 3
      · simpa [hR, hW] using no true rfl
      · simp only [if_true]
        refine Ev.bind (l1All_ev O _ _ h3.1) ?_
        cases e2 : O.all fun n => win n 0 3
        · simpa [hR, hW] using no true rfl
        · refine ev_succ ?_
          simp only [spec_GoodLocks.j0, Bool.not_true, Bool.false_eq_true, if_false]
          have := sGL_l0 R W O hR hW (fun r hr => (h1.2 r hr).1) h3.1 4 0 rfl
          simpa [hR, hW] using this
    · simp only [if_pos (show (R.length : Int) = 4 by omega), if_neg (show ¬ (W.length : Int) = 4 by omega)]
      simpa [hR, hW] using no true rfl
  · simp only [if_neg (show ¬ (R.length : Int) = 4 by omega)]
    simpa [hR] using no true rfl
theorem iGL_l1 (R : List (List Int)) (W O : List Int) (hR : R.length = 4) (hW : W.length = 4) (hO : ∀ r ∈ R, r.length ≤ 1048576) (hb : O.length < 9223372036854775807) : ∀ (d j : Nat), j + d = 4 →
    Ev (fun k => impl_GoodLocks.l1 k R (R.length : Int) (j : Int) R W O) (iti O (R.drop j) (W.drop j))
  | 0, j, hj => by
    refine ev_succ ?_
    simp only [impl_GoodLocks.l1]
    simp only [if_neg (show ¬ ((j : Int) < (R.length : Int)) by omega)]
    rw [List.drop_of_length_le (show R.length ≤ j by omega), List.drop_of_length_le (show W.length ≤ j by omega)]
    exact ev_now rfl
  | d + 1, j, hj => by
    obtain ⟨w, W', hw⟩ : ∃ w W', W.drop j = w :: W' := ⟨W[j], _, List.drop_eq_getElem_cons (by omega)⟩
    obtain ⟨r, R', hr⟩ : ∃ r R', R.drop j = r :: R' := ⟨R[j], _, List.drop_eq_getElem_cons (by omega)⟩
    obtain ⟨h1, h2, h3⟩ := drop_cons hw
    obtain ⟨g1, g2, g3⟩ := drop_cons hr
    have hrl := hO r (List.mem_of_getElem? g2)
    have ih := iGL_l1 R W O hR hW hO hb d (j + 1) (by omega)
    rw [h3, g3] at ih
    have no : Ev (fun k => impl_GoodLocks.j3 k r w R (R.length : Int) (j : Int) true R W O) false := ev_succ (by simp only [impl_GoodLocks.j3, if_true]; exact ev_now rfl)
    have go : rs 0 3 none r = true → win w (-1) 3 = true → ∀ bb : Bool, okI w r = !bb → Ev (fun k => impl_GoodLocks.j3 k r w R (R.length : Int) (j : Int) bb R W O) (iti O (r :: R') (w :: W')) := by
      intro e1 e2 bb e3
      refine ev_succ ?_
      simp only [impl_GoodLocks.j3]
      rw [iti, e1, e2, e3]
      cases bb
      · simp only [Bool.false_eq_true, if_false]
        refine Ev.bind (contains_ev O w (by omega)) ?_
        cases e4 : O.contains w
        · simp only [Bool.false_eq_true, if_false, impl_both.f, if_pos (show r.length * 8 ≤ 140737488355328 by omega), Option.bind_some]
          by_cases e5 : (r.filter fun x => O.contains x).length = 0
          · simp only [if_neg (show ¬ (((r.filter fun x => O.contains x).length : Int) > 0) by omega), wrap_succ (show j < 9223372036854775807 by omega), decide_eq_true e5]
            simpa using ih
          · simp only [if_pos (show (((r.filter fun x => O.contains x).length : Int) > 0) by omega), decide_eq_false e5]
            exact ev_now (by simp)
        · simp only [if_true]
          exact ev_now (by simp)
      · simp only [if_true]
        exact ev_now (by simp)
    refine ev_succ ?_
    simp only [impl_GoodLocks.l1]
    simp only [if_pos (show (j : Int) < (R.length : Int) by omega), if_pos (show (j : Int) < (W.length : Int) by omega), if_pos (show (0 : Int) ≤ (j : Int) by omega), rd_drop hw, rd_L1_drop hr, within_eq, Option.bind_some]
    refine Ev.bind (isRising_ev r 0 3 (by omega)) ?_
    rw [hw, hr]
    cases e1 : rs 0 3 none r
    · simp only [Bool.false_eq_true, if_false]
      simpa [iti, e1] using no
    · simp only [if_true]
      cases e2 : win w (-1) 3
      · simp only [Bool.false_eq_true, if_false]
        simpa [iti, e2] using no
      · simp only [if_true]
        by_cases hw0 : w ≥ 0
        · simp only [if_pos hw0]
          by_cases hr0 : (r.length : Int) > 0
          · simp only [if_pos hr0]
            refine Ev.bind (equal_ev r [w] (by omega)) ?_
            refine go e1 e2 _ ?_
            have : r.isEmpty = false := by cases r; simp at hr0; rfl
            simp [okI, hw0, this]
          · simp only [if_neg hr0]
            refine go e1 e2 false ?_
            have : r.isEmpty = true := by cases r; rfl; simp at hr0
            simp [okI, this]
        · simp only [if_neg hw0]
          exact go e1 e2 false (by simp [okI, hw0])
theorem iGL_l0 (R : List (List Int)) (W O : List Int) (hR : R.length = 4) (hW : W.length = 4) (hO : ∀ r ∈ R, r.length ≤ 1048576) (hb : O.length < 9223372036854775807) : ∀ (ys : List Int) (j : Nat), O.drop j = ys →
    Ev (fun k => impl_GoodLocks.l0 k O (O.length : Int) (j : Int) R W O) (iL O j ys && iti O R W)
  | [], j, h => by
    have h1 := drop_nil h
    refine ev_succ ?_
    simp only [impl_GoodLocks.l0]
    simp only [if_neg (show ¬ ((j : Int) < (O.length : Int)) by omega)]
    have := iGL_l1 R W O hR hW hO hb 4 0 rfl
    simpa [iL] using this
  | y :: ys, j, h => by
    obtain ⟨h1, h2, h3⟩ := drop_cons h
    have ih := iGL_l0 R W O hR hW hO hb ys (j + 1) h3
    refine ev_succ ?_
    simp only [impl_GoodLocks.l0, impl_isDealer.f, within_eq, Option.bind_some]
    simp only [if_pos (show (j : Int) < (O.length : Int) by omega), if_pos (show (0 : Int) ≤ (j : Int) by omega), if_pos (show (j : Int) ≤ (O.length : Int) by omega), rd_drop h, wrap_succ (show j < 9223372036854775807 by omega), Int.toNat_natCast]
    rw [iL]
    cases e : win y 0 3
    · simp only [Bool.false_eq_true, if_false]
      exact ev_now (by simp)
    · simp only [if_true]
      refine Ev.bind (contains_ev _ y (by simp; omega)) ?_
      cases e2 : (O.take j).contains y
      · simp only [Bool.false_eq_true, if_false]
        simpa using ih
      · simp only [if_true]
        exact ev_now (by simp)
theorem glV_eq (R : List (List Int)) (W O : List Int) (hR : R.length = 4) (hW : W.length = 4) : glV R W O = (iL O 0 O && iti O R W) := by
  rw [iL_eq, iti_eq O R W (by omega), ← hd_nt O R W (by omega)]
  unfold glV
  rw [sL_eq, decide_eq_true hR, decide_eq_true hW]
  cases (W.all fun w => win w (-1) 3) <;> cases (O.all fun w => win w 0 3) <;> cases itm R W <;> cases dst O 0 O <;> simp
theorem iGL_ev (R : List (List Int)) (W O : List Int) (h1 : BdIntSS R) (h2 : OkIntS W) (h3 : OkIntS O) : Ev (fun k => impl_GoodLocks.f k R W O) (glV R W O) := by
  simp only [impl_GoodLocks.f]
  have no : ∀ b : Bool, b = true → Ev (fun k => impl_GoodLocks.j0 k b R W O) false := fun b hb => ev_succ (by simp only [impl_GoodLocks.j0, hb, if_true]; exact ev_now rfl)
  by_cases hR : R.length = 4
  · simp only [if_pos (show (R.length : Int) = 4 by omega)]
    by_cases hW : W.length = 4
    · rw [glV_eq R W O hR hW, show ((W.length : Int) != 4) = false by first | (simp; done) | (simp; omega)]
      refine ev_succ ?_
      simp only [impl_GoodLocks.j0, Bool.false_eq_true, if_false]
      exact iGL_l0 R W O hR hW (fun r hr => (h1.2 r hr).1) h3.1 O 0 rfl
    · rw [show ((W.length : Int) != 4) = true by first | (simp; done) | (simp; omega)]
      simpa [glV, hW] using no true rfl
  · simp only [if_neg (show ¬ (R.length : Int) = 4 by omega)]
    simpa [glV, hR] using no true rfl
end Go.Proofs.Ytlknbopddalinaa.Pu
