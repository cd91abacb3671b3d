/- The law FnExactHoldsIn over numbers and lists alone. No condition. -/
import Derived.Test.YtimmjgpagpkioaaPr0
import Derived.Test.YtimmjgpagpkioaaPr11
import Derived.Test.YtimmjgpagpkioaaPr5
import Derived.Test.YtimmjgpagpkioaaPr6
import Derived.Test.YtimmjgpagpkioaaPr9
import Derived.Test.YtimmjgpagpkioaaOps
import Derived.Test.YtimmjgpagpkioaaA3p
import Derived.Test.YtimmjgpagpkioaaAe
import Derived.Test.YtimmjgpagpkioaaCv
namespace Go.Proofs.Ytimmjgpagpkioaa.Pu
open Go.RowKit Go.Proofs.Ytimmjgpagpkioaa.Pr Go.Proofs.Ytimmjgpagpkioaa.Pl Go.Proofs.Ytimmjgpagpkioaa.Ax Go.Proofs.Ytimmjgpagpkioaa.Ops Go.Proofs.YtimmjgpagpkioaaW.PrintWords Go.Proofs.YtimmjgpagpkioaaW.PrintLast Go.Proofs.YtimmjgpagpkioaaW.PrintMore
set_option linter.unusedVariables false
set_option linter.unusedSimpArgs false
/-- Do the tuples before agree with this one? -/
def agr (ns a b t : List Int) (us : List (List Int)) : Bool := us.all fun u => if pk ns t a = pk ns u a then decide (pk ns t b = pk ns u b) else true
def hol (ns a b : List Int) (xs : List (List Int)) : Nat → List (List Int) → Bool
  | _, [] => true
  | j, y :: ys => agr ns a b y (xs.take j) && hol ns a b xs (j + 1) ys
theorem sHol_l1 (ns a b : List Int) (hn : ns.length < 9223372036854775807) (ha : a.length ≤ 1048576) (hb : b.length ≤ 1048576) (hxa : ∀ x ∈ a, x ∈ ns) (hxb : ∀ x ∈ b, x ∈ ns) (t : List Int) (ht : t.length = ns.length) (xs : List (List Int)) (i : Int) (zs : List (List Int)) (hz : zs.length < 9223372036854775807) (hzl : ∀ z ∈ zs, z.length = ns.length) (r : Bool)
    (next : Ev (fun k => spec_l5Holds.l0 k xs (xs.length : Int) (wrap64 (i + 1)) ns xs a b) r) : ∀ (ys : List (List Int)) (j : Nat), zs.drop j = ys →
    Ev (fun k => spec_l5Holds.l1 k t xs (xs.length : Int) i zs (zs.length : Int) (j : Int) ns xs a b) (if agr ns a b t ys = true then r else false)
  | [], j, h => by
    have h1 := drop_nil h
    refine ev_succ ?_
    simp only [spec_l5Holds.l1]
    simp only [if_neg (show ¬ ((j : Int) < (zs.length : Int)) by omega)]
    simpa [agr] using next
  | y :: ys, j, h => by
    obtain ⟨h1, h2, h3⟩ := drop_cons h
    have hy := hzl y (List.mem_of_getElem? h2)
    have ih := sHol_l1 ns a b hn ha hb hxa hxb t ht xs i zs hz hzl r next ys (j + 1) h3
    have e0 : agr ns a b t (y :: ys) = ((if pk ns t a = pk ns y a then decide (pk ns t b = pk ns y b) else true) && agr ns a b t ys) := by simp [agr]
    refine ev_succ ?_
    simp only [spec_l5Holds.l1]
    simp only [if_pos (show (j : Int) < (zs.length : Int) by omega), if_pos (show (0 : Int) ≤ (j : Int) by omega), rd_L1_drop h, wrap_succ (show j < 9223372036854775807 by omega)]
    refine Ev.bind (pick_ev ns t a hn ht ha hxa) (Ev.bind (pick_ev ns y a hn hy ha hxa) (Ev.bind (same_ev _ _ (by simp [pk]; omega)) ?_))
    rw [e0]
    by_cases e1 : pk ns t a = pk ns y a
    · simp only [decide_eq_true e1, if_true, if_pos e1]
      refine Ev.bind (pick_ev ns t b hn ht hb hxb) (Ev.bind (pick_ev ns y b hn hy hb hxb) (Ev.bind (same_ev _ _ (by simp [pk]; omega)) ?_))
      by_cases e2 : pk ns t b = pk ns y b
      · simp only [decide_eq_true e2, if_true, Bool.true_and]
        exact ih
      · simp only [decide_eq_false e2, Bool.false_eq_true, if_false, Bool.false_and]
        exact ev_now rfl
    · simp only [decide_eq_false e1, Bool.false_eq_true, if_false, if_neg e1, Bool.true_and]
      exact ih
theorem sHol_l0 (ns a b : List Int) (hn : ns.length < 9223372036854775807) (ha : a.length ≤ 1048576) (hb : b.length ≤ 1048576) (hxa : ∀ x ∈ a, x ∈ ns) (hxb : ∀ x ∈ b, x ∈ ns) (xs : List (List Int)) (hl : xs.length < 9223372036854775807) (hx : ∀ z ∈ xs, z.length = ns.length) : ∀ (ys : List (List Int)) (j : Nat), xs.drop j = ys →
    Ev (fun k => spec_l5Holds.l0 k xs (xs.length : Int) (j : Int) ns xs a b) (hol ns a b xs j ys)
  | [], j, h => by
    have h1 := drop_nil h
    refine ev_succ ?_
    simp only [spec_l5Holds.l0]
    simp only [if_neg (show ¬ ((j : Int) < (xs.length : Int)) by omega)]
    exact ev_now rfl
  | y :: ys, j, h => by
    obtain ⟨h1, h2, h3⟩ := drop_cons h
    have hy := hx y (List.mem_of_getElem? h2)
    have ih := sHol_l0 ns a b hn ha hb hxa hxb xs hl hx ys (j + 1) h3
    refine ev_succ ?_
    simp only [spec_l5Holds.l0]
    simp only [if_pos (show (j : Int) < (xs.length : Int) by omega), if_pos (show (0 : Int) ≤ (j : Int) by omega), if_pos (show (j : Int) ≤ (xs.length : Int) by omega), rd_L1_drop h, Int.toNat_natCast, Option.bind_some]
    have := sHol_l1 ns a b hn ha hb hxa hxb y hy xs (j : Int) (xs.take j) (by simp; omega) (fun z hz => hx z (List.mem_of_mem_take hz)) _ (by rw [wrap_succ (show j < 9223372036854775807 by omega)]; exact ih) (xs.take j) 0 rfl
    have e : hol ns a b xs j (y :: ys) = (if agr ns a b y (xs.take j) = true then hol ns a b xs (j + 1) ys else false) := by rw [hol]; cases agr ns a b y (xs.take j) <;> simp
    rw [e]
    exact this
theorem iHol_l1 (ns a b : List Int) (hn : ns.length < 9223372036854775807) (ha : a.length ≤ 1048576) (hb : b.length ≤ 1048576) (hxa : ∀ x ∈ a, x ∈ ns) (hxb : ∀ x ∈ b, x ∈ ns) (t : List Int) (ht : t.length = ns.length) (xs : List (List Int)) (i : Int) (zs : List (List Int)) (hz : zs.length < 9223372036854775807) (hzl : ∀ z ∈ zs, z.length = ns.length) (r : Bool)
    (next : Ev (fun k => impl_HoldsIn.l0 k xs (xs.length : Int) (wrap64 (i + 1)) ns xs a b) (r, true)) : ∀ (ys : List (List Int)) (j : Nat), zs.drop j = ys →
    Ev (fun k => impl_HoldsIn.l1 k t xs (xs.length : Int) i zs (zs.length : Int) (j : Int) ns xs a b) (if agr ns a b t ys = true then r else false, true)
  | [], j, h => by
    have h1 := drop_nil h
    refine ev_succ ?_
    simp only [impl_HoldsIn.l1]
    simp only [if_neg (show ¬ ((j : Int) < (zs.length : Int)) by omega)]
    simpa [agr] using next
  | y :: ys, j, h => by
    obtain ⟨h1, h2, h3⟩ := drop_cons h
    have hy := hzl y (List.mem_of_getElem? h2)
    have ih := iHol_l1 ns a b hn ha hb hxa hxb t ht xs i zs hz hzl r next ys (j + 1) h3
    have e0 : agr ns a b t (y :: ys) = ((if pk ns t a = pk ns y a then decide (pk ns t b = pk ns y b) else true) && agr ns a b t ys) := by simp [agr]
    refine ev_succ ?_
    simp only [impl_HoldsIn.l1]
    simp only [if_pos (show (j : Int) < (zs.length : Int) by omega), if_pos (show (0 : Int) ≤ (j : Int) by omega), rd_L1_drop h, wrap_succ (show j < 9223372036854775807 by omega)]
    refine Ev.bind (under_ev ns t a hn ht ha hxa) (Ev.bind (under_ev ns y a hn hy ha hxa) (Ev.bind (equal_ev _ _ (by simp [pk]; omega)) ?_))
    rw [e0]
    by_cases e1 : pk ns t a = pk ns y a
    · simp only [decide_eq_true e1, if_true, if_pos e1]
      refine Ev.bind (under_ev ns t b hn ht hb hxb) (Ev.bind (under_ev ns y b hn hy hb hxb) (Ev.bind (equal_ev _ _ (by simp [pk]; omega)) ?_))
      by_cases e2 : pk ns t b = pk ns y b
      · simp only [decide_eq_true e2, if_true, Bool.true_and]
        exact ih
      · simp only [decide_eq_false e2, Bool.false_eq_true, if_false, Bool.false_and]
        exact ev_now rfl
    · simp only [decide_eq_false e1, Bool.false_eq_true, if_false, if_neg e1, Bool.true_and]
      exact ih
theorem iHol_l0 (ns a b : List Int) (hn : ns.length < 9223372036854775807) (ha : a.length ≤ 1048576) (hb : b.length ≤ 1048576) (hxa : ∀ x ∈ a, x ∈ ns) (hxb : ∀ x ∈ b, x ∈ ns) (xs : List (List Int)) (hl : xs.length < 9223372036854775807) (hx : ∀ z ∈ xs, z.length = ns.length) : ∀ (ys : List (List Int)) (j : Nat), xs.drop j = ys →
    Ev (fun k => impl_HoldsIn.l0 k xs (xs.length : Int) (j : Int) ns xs a b) (hol ns a b xs j ys, true)
  | [], j, h => by
    have h1 := drop_nil h
    refine ev_succ ?_
    simp only [impl_HoldsIn.l0]
    simp only [if_neg (show ¬ ((j : Int) < (xs.length : Int)) by omega)]
    exact ev_now rfl
  | y :: ys, j, h => by
    obtain ⟨h1, h2, h3⟩ := drop_cons h
    have hy := hx y (List.mem_of_getElem? h2)
    have ih := iHol_l0 ns a b hn ha hb hxa hxb xs hl hx ys (j + 1) h3
    refine ev_succ ?_
    simp only [impl_HoldsIn.l0]
    simp only [if_pos (show (j : Int) < (xs.length : Int) by omega), if_pos (show (0 : Int) ≤ (j : Int) by omega), if_pos (show (j : Int) ≤ (xs.length : Int) by omega), rd_L1_drop h, Int.toNat_natCast, Option.bind_some]
    have := iHol_l1 ns a b hn ha hb hxa hxb y hy xs (j : Int) (xs.take j) (by simp; omega) (fun z hz => hx z (List.mem_of_mem_take hz)) _ (by rw [wrap_succ (show j < 9223372036854775807 by omega)]; exact ih) (xs.take j) 0 rfl
    have e : hol ns a b xs j (y :: ys) = (if agr ns a b y (xs.take j) = true then hol ns a b xs (j + 1) ys else false) := by rw [hol]; cases agr ns a b y (xs.take j) <;> simp
    rw [e]
    exact this
def hiV (ns : List Int) (ts : List (List Int)) (a b : List Int) : Bool × Bool := if gr ns ts = true ∧ pt ns none a = true ∧ pt ns none b = true then (hol ns a b ts 0 ts, true) else (false, false)
theorem gr_names {ns : List Int} {ts : List (List Int)} (h : gr ns ts = true) : (∀ n ∈ ns, win n 0 20 = true) ∧ ∀ t ∈ ts, t.length = ns.length := by
  simp only [gr, Bool.and_eq_true] at h
  exact ⟨rs_win h.1.1.2, tp_len h.2⟩
theorem sHI_ev (ns : List Int) (ts : List (List Int)) (a b : List Int) (h1 : OkIntS ns) (h2 : OkIntSS ts) (ha : a.length ≤ 1048576) (hb : b.length ≤ 1048576) : Ev (fun k => spec_HoldsIn.f k ns ts a b) (hiV ns ts a b) := by
  simp only [spec_HoldsIn.f]
  refine Ev.bind (sGR_ev ns ts h1 h2) ?_
  cases e1 : gr ns ts
  · simp only [Bool.false_eq_true, if_false]
    exact ev_now (by simp [hiV, e1])
  · obtain ⟨hw, hl⟩ := gr_names e1
    simp only [if_true]
    refine Ev.bind (l3Sub_ev ns a h1.1 (by omega)) ?_
    rw [← pt_eq hw a none]
    cases e2 : pt ns none a
    · simp only [Bool.false_eq_true, if_false]
      exact ev_now (by simp [hiV, e2])
    · simp only [if_true]
      refine Ev.bind (l3Sub_ev ns b h1.1 (by omega)) ?_
      rw [← pt_eq hw b none]
      cases e3 : pt ns none b
      · simp only [Bool.false_eq_true, if_false]
        exact ev_now (by simp [hiV, e3])
      · simp only [if_true, spec_l5Holds.f]
        refine Ev.bind (sHol_l0 ns a b h1.1 ha hb (pt_mem e2) (pt_mem e3) ts h2.1 hl ts 0 rfl) ?_
        exact ev_now (by simp [hiV, e1, e2, e3])
theorem iHI_ev (ns : List Int) (ts : List (List Int)) (a b : List Int) (h1 : OkIntS ns) (h2 : OkIntSS ts) (ha : a.length ≤ 1048576) (hb : b.length ≤ 1048576) : Ev (fun k => impl_HoldsIn.f k ns ts a b) (hiV ns ts a b) := by
  simp only [impl_HoldsIn.f]
  refine Ev.bind (iGR_ev ns ts h1 h2) ?_
  cases e1 : gr ns ts
  · simp only [Bool.false_eq_true, if_false]
    refine ev_succ ?_
    simp only [impl_HoldsIn.j0, if_true]
    exact ev_now (by simp [hiV, e1])
  · obtain ⟨hw, hl⟩ := gr_names e1
    simp only [if_true]
    refine Ev.bind (isPart_ev a ns (by omega) h1.1) ?_
    cases e2 : pt ns none a
    · simp only [Bool.false_eq_true, if_false]
      refine ev_succ ?_
      simp only [impl_HoldsIn.j0, if_true]
      exact ev_now (by simp [hiV, e2])
    · simp only [if_true]
      refine Ev.bind (isPart_ev b ns (by omega) h1.1) (ev_succ ?_)
      simp only [impl_HoldsIn.j0]
      cases e3 : pt ns none b
      · simp only [Bool.not_false, if_true]
        exact ev_now (by simp [hiV, e3])
      · simp only [Bool.not_true, Bool.false_eq_true, if_false]
        have := iHol_l0 ns a b h1.1 ha hb (pt_mem e2) (pt_mem e3) ts h2.1 hl ts 0 rfl
        simpa [hiV, e1, e2, e3] using this
theorem HoldsIn (y0 : S25) (y1 : S36) (h0 : F25 y0) (h1 : F36 y1) : ∃ k, laws_FnExactHoldsIn.f k y0.f0 y0.f1 y1.f0 y1.f1 = some true := by
  refine Ev.rounds ?_
  simp only [laws_FnExactHoldsIn.f]
  obtain ⟨r, e1, l1, b⟩ := szRelation_ev y0 1048576 h0 (by omega) (by omega)
  refine Ev.bind e1 ?_
  by_cases hr : r < 0
  · simp only [if_pos hr]
    exact ev_now rfl
  · simp only [if_neg hr]
    obtain ⟨r2, e2, _, b2⟩ := szDep_ev y1 r h1 (by omega) l1
    refine Ev.bind e2 ?_
    by_cases hr2 : r2 < 0
    · simp only [if_pos hr2]
      exact ev_now rfl
    · simp only [if_neg hr2]
      have hB := b (by omega)
      have hc := toRelation_ev y0 hB
      have hO := ok_Relation hB
      have hB2 := b2 (by omega)
      have hc2 := toDep_ev y1 hB2
      have hO2 := ok_Dep hB2
      refine Ev.bind hc (Ev.bind hc2 (Ev.bind (sHI_ev _ _ _ _ hO.1 hO.2 hB2.1.1 hB2.2.1) (Ev.bind hc (Ev.bind hc2 (Ev.bind (iHI_ev _ _ _ _ hO.1 hO.2 hB2.1.1 hB2.2.1) ?_)))))
      simp only [bne_self_eq_false, Bool.false_eq_true, if_false]
      refine ev_succ ?_
      simp only [laws_FnExactHoldsIn.j0, Bool.false_eq_true, if_false]
      refine Ev.bind hc (Ev.bind (eqRelation_ev _ hO) ?_)
      simp only [if_true]
      refine Ev.bind hc2 (Ev.bind (eqDep_ev _ hO2) ?_)
      simp only [if_true]
      exact ev_now rfl
end Go.Proofs.Ytimmjgpagpkioaa.Pu
