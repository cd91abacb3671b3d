/- Several small texts together: ADis0, EDistinct. No condition but those they name. -/
import Derived.Test.YtmlbihhaikknnaaPr0
import Derived.Test.YtmlbihhaikknnaaPr2
import Derived.Test.YtmlbihhaikknnaaOrd
import Derived.Test.YtmlbihhaikknnaaMx5
import Derived.Test.YtmlbihhaikknnaaShelf
import Derived.Test.YtmlbihhaikknnaaMx4
import Derived.Test.YtmlbihhaikknnaaESortVal
import Derived.Test.YtmlbihhaikknnaaECompVal
/- The order of impl.distinct's comparer over values. No condition. -/
namespace Go.Proofs.Ytmlbihhaikknnaa.Ax
open Go.RowKit Go.Sort Go.Proofs Go.Proofs.Ytmlbihhaikknnaa.Pr Go.Proofs.Ytmlbihhaikknnaa.Pl Go.Proofs.YtmlbihhaikknnaaW.PrintWords Go.Proofs.YtmlbihhaikknnaaW.PrintLast Go.Proofs.YtmlbihhaikknnaaW.PrintMore
set_option linter.unusedVariables false
set_option linter.unusedSimpArgs false
instance decV : DecidableEq S43 := fun a b => if h : a.f0 = b.f0 ∧ a.f1 = b.f1 then isTrue (by cases a; cases b; simp_all) else isFalse (fun e => h (by rw [e]; exact ⟨rfl, rfl⟩))
def cmpVal (x y : S43) : Int := if (x.f0 == y.f0) = true then (if x.f1 < y.f1 then -1 else if x.f1 > y.f1 then 1 else 0) else if x.f0 = true then -1 else 1
theorem distinct1_eq (x y : S43) : impl_distinct_1.f x.f0 x.f1 y.f0 y.f1 = some (cmpVal x y) := by
  simp only [impl_distinct_1.f, cmp_Compare_int.f, cmp_isNaN_int.f, Option.bind_some, cmpVal, bne_self_eq_false, Bool.false_eq_true, if_false]
  by_cases c : (x.f0 == y.f0) = true
  · simp only [if_pos c]
    split
    · rfl
    · split <;> rfl
  · simp only [if_neg c]
    split <;> rfl
def ltVal (x y : S43) : Bool := decide (cmpVal x y < 0)
theorem cmpVal_irr (x : S43) : cmpVal x x = 0 := by simp [cmpVal]
theorem cmpVal_tr (x y z : S43) (h1 : cmpVal x y < 0) (h2 : cmpVal y z < 0) : cmpVal x z < 0 := by
  rcases x with ⟨a, m⟩; rcases y with ⟨b, n⟩; rcases z with ⟨c, p⟩
  cases a <;> cases b <;> cases c <;> simp [cmpVal] at h1 h2 ⊢ <;> omega
theorem cmpVal_ntr (x y z : S43) (h1 : ¬ cmpVal x y < 0) (h2 : ¬ cmpVal y z < 0) : ¬ cmpVal x z < 0 := by
  rcases x with ⟨a, m⟩; rcases y with ⟨b, n⟩; rcases z with ⟨c, p⟩
  cases a <;> cases b <;> cases c <;> simp [cmpVal] at h1 h2 ⊢ <;> omega
theorem cmpVal_tot (x y : S43) (h1 : ¬ cmpVal x y < 0) (h2 : x ≠ y) : cmpVal y x < 0 := by
  rcases x with ⟨a, m⟩; rcases y with ⟨b, n⟩
  cases a <;> cases b <;> simp [cmpVal] at h1 h2 ⊢ <;> omega
theorem ltVal_ord : IsOrd ltVal := ⟨fun a => by simp [ltVal, cmpVal_irr], fun a b c h1 h2 => by
    simp only [ltVal, decide_eq_true_eq] at h1 h2 ⊢
    exact cmpVal_tr _ _ _ h1 h2, fun a b h1 h2 => by
    simp only [ltVal, decide_eq_true_eq, decide_eq_false_iff_not] at h1 ⊢
    exact cmpVal_tot _ _ h1 h2⟩
theorem cmpVal_swo : SWO (ltOf cmpVal) := by
  refine ⟨fun x => ?_, fun x y z h1 h2 => ?_, fun x y z h1 h2 => ?_⟩
  · simp [ltOf, cmpVal_irr]
  · simp only [ltOf, decide_eq_true_eq] at h1 h2 ⊢
    exact cmpVal_tr _ _ _ h1 h2
  · simp only [ltOf, decide_eq_false_iff_not] at h1 h2 ⊢
    exact cmpVal_ntr _ _ _ h1 h2
theorem eq_parts (x t : S43) : (x.f0 == t.f0 && (x.f1 == t.f1)) = decide (x = t) := by
  rcases x with ⟨a, m⟩; rcases t with ⟨b, n⟩
  by_cases h : a = b ∧ m = n
  · obtain ⟨rfl, rfl⟩ := h
    simp
  · have : ¬ ((⟨a, m⟩ : S43) = ⟨b, n⟩) := fun e => h (by injection e with e1 e2; exact ⟨e1, e2⟩)
    rw [decide_eq_false this]
    cases a <;> cases b <;> simp at h ⊢ <;> omega
end Go.Proofs.Ytmlbihhaikknnaa.Ax

/- impl.distinct: each unlike value once, in order. Condition: a length that Go can make room for. -/
namespace Go.Proofs.Ytmlbihhaikknnaa.Pr
open Go.RowKit Go.Proofs.YtmlbihhaikknnaaW.PrintWords Go.Proofs.YtmlbihhaikknnaaW.PrintLast Go.Proofs.YtmlbihhaikknnaaW.PrintMore
set_option linter.unusedVariables false
set_option linter.unusedSimpArgs false
def impl_distinct.f (l0 : List S43) : Option (List S43) := if l0.length * 16 ≤ 140737488355328 then some (Ax.risen Ax.ltVal l0) else none
theorem eqV_dec (x y : S43) : Sp.eqV x y = decide (x = y) := Ax.eq_parts x y
set_option maxHeartbeats 2000000 in
set_option maxRecDepth 100000 in
theorem impl_distinct.calls (A0 : Option Addr) (c0 : Nat) (l0 : List S43) (r : List S43) (w : World) (hr0 : Kd.C k43 w A0 l0.length l0) (hc0 : l0.length ≤ c0) (h : impl_distinct.f l0 = some r) :
    Calls Try.prog 23 #[.slice A0 l0.length c0] w fun e w' => ∃ v0_ : Value, e = .returned (v0_) ∧ Kd.R k43 43 w' w.heap.size (fun _ => True) v0_ r ∧ Below w.heap.size w w' := by
  unfold impl_distinct.f at h
  by_cases hb : l0.length * 16 ≤ 140737488355328
  · rw [if_pos hb] at h
    obtain rfl := Option.some.inj h
    clear h
    have hcl := impl_CloneV.calls A0 c0 l0 l0 w hr0 hc0 (by unfold impl_CloneV.f; rw [if_pos hb])
    have HB := Aside0.mk hb
    clear hr0 hc0 hb
    go_enter Try.func23, Try.ntmps23
    go_wp2_with (first | (go_at_call 43; refine hcl.mono ?_; rintro e w1 ⟨v1, rfl, ho, hb1⟩; have HO := Aside0.mk ho; have HB1 := Aside0.mk hb1; clear ho hb1))
    go_wp2_with (first | (go_at_call 44; refine (Sp.SortVals w.heap.size _ w1 v1 l0 HO.out (by have := HB.out; omega) Ax.cmpVal Ax.distinct1_eq Ax.cmpVal_swo).mono ?_; rintro e w2 ⟨rfl, l', hp, hs, ho2, hg2⟩; have HP := Aside0.mk hp; have HS := Aside0.mk hs; have HO2 := Aside0.mk ho2; have HB2 := Aside0.mk (HB1.out.grown hg2 HB1.out.size (fun k hk => Kd.R_base HO.out k hk)); clear hp hs ho2 hg2))
    have HD := Aside0.mk (Ax.risen_of_sorted (z := z43) Ax.ltVal_ord HP.out (HS.out.imp (fun h => by simpa [Ax.ltVal] using h)) Sp.eqV eqV_dec)
    obtain ⟨A2, c2, rfl⟩ := Kd.R_slice HO2.out
    rcases Nat.eq_zero_or_pos l'.length with h0 | h0
    · have hl' := List.eq_nil_of_length_eq_zero h0
      subst hl'
      clear h0
      go_wp2_with (first | (go_at_call 47; refine (Sp.CompVal0 w2 A2 c2).mono ?_; rintro e w3 ⟨rfl, rfl⟩))
      go_ret
      refine ⟨_, rfl, ?_, HB2.out⟩
      rw [← HD.out]
      exact HO2.out
    · obtain ⟨g, cap, hv, hg, hgl, _⟩ := Kd.R_form HO2.out h0
      injection hv with hv1 hv2 hv3
      subst hv1; subst hv3
      have HG := Aside0.mk hg
      clear hv2 hg hgl h0
      go_wp2_with (first | (go_at_call 47; refine (Sp.CompVal w.heap.size w2 g c2 l' HO2.out).mono ?_; rintro e w3 ⟨rfl, ho3, hg3⟩; have HO3 := Aside0.mk ho3; have HB3 := Aside0.mk (HB2.out.grown hg3 HB2.out.size (fun k hk => by injection hk with hk; rw [← hk]; exact HG.out)); clear ho3 hg3))
      go_ret
      refine ⟨_, rfl, ?_, HB3.out⟩
      rw [← HD.out]
      exact HO3.out
  · rw [if_neg hb] at h
    cases h
end Go.Proofs.Ytmlbihhaikknnaa.Pr
