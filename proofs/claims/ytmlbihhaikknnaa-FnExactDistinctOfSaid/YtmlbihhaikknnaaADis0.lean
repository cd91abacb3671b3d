/- The order of impl.distinct's comparer over values. No condition. -/
import Derived.Test.YtmlbihhaikknnaaPr0
import Derived.Test.YtmlbihhaikknnaaPr2
import Derived.Test.YtmlbihhaikknnaaOrd
import Derived.Test.YtmlbihhaikknnaaPl
import Derived.Test.YtmlbihhaikknnaaShelf
namespace Go.Proofs.Ytmlbihhaikknnaa.Ax
open Go.RowKit Go.Sort Go.Proofs Go.Proofs.Ytmlbihhaikknnaa.Pr Go.Proofs.Ytmlbihhaikknnaa.Pl Go.Proofs.YtmlbihhaikknnaaW.PrintWords Go.Proofs.YtmlbihhaikknnaaW.PrintLast Go.Proofs.YtmlbihhaikknnaaW.PrintMore
set_option linter.unusedVariables false
set_option linter.unusedSimpArgs false
instance decV : DecidableEq S43 := fun a b => if h : a.f0 = b.f0 ∧ a.f1 = b.f1 then isTrue (by cases a; cases b; simp_all) else isFalse (fun e => h (by rw [e]; exact ⟨rfl, rfl⟩))
def cmpVal (x y : S43) : Int := if (x.f0 == y.f0) = true then (if x.f1 < y.f1 then -1 else if x.f1 > y.f1 then 1 else 0) else if x.f0 = true then -1 else 1
theorem distinct1_eq (x y : S43) : impl_distinct_1.f x.f0 x.f1 y.f0 y.f1 = some (cmpVal x y) := by
  simp only [impl_distinct_1.f, cmp_Compare_int.f, cmp_isNaN_int.f, Option.bind_some, cmpVal, bne_self_eq_false, Bool.false_eq_true, if_false]
  by_cases c : (x.f0 == y.f0) = true
  · simp only [if_pos c]
    split
    · rfl
    · split <;> rfl
  · simp only [if_neg c]
    split <;> rfl
def ltVal (x y : S43) : Bool := decide (cmpVal x y < 0)
theorem cmpVal_irr (x : S43) : cmpVal x x = 0 := by simp [cmpVal]
theorem cmpVal_tr (x y z : S43) (h1 : cmpVal x y < 0) (h2 : cmpVal y z < 0) : cmpVal x z < 0 := by
  rcases x with ⟨a, m⟩; rcases y with ⟨b, n⟩; rcases z with ⟨c, p⟩
  cases a <;> cases b <;> cases c <;> simp [cmpVal] at h1 h2 ⊢ <;> omega
theorem cmpVal_ntr (x y z : S43) (h1 : ¬ cmpVal x y < 0) (h2 : ¬ cmpVal y z < 0) : ¬ cmpVal x z < 0 := by
  rcases x with ⟨a, m⟩; rcases y with ⟨b, n⟩; rcases z with ⟨c, p⟩
  cases a <;> cases b <;> cases c <;> simp [cmpVal] at h1 h2 ⊢ <;> omega
theorem cmpVal_tot (x y : S43) (h1 : ¬ cmpVal x y < 0) (h2 : x ≠ y) : cmpVal y x < 0 := by
  rcases x with ⟨a, m⟩; rcases y with ⟨b, n⟩
  cases a <;> cases b <;> simp [cmpVal] at h1 h2 ⊢ <;> omega
theorem ltVal_ord : IsOrd ltVal := ⟨fun a => by simp [ltVal, cmpVal_irr], fun a b c h1 h2 => by
    simp only [ltVal, decide_eq_true_eq] at h1 h2 ⊢
    exact cmpVal_tr _ _ _ h1 h2, fun a b h1 h2 => by
    simp only [ltVal, decide_eq_true_eq, decide_eq_false_iff_not] at h1 ⊢
    exact cmpVal_tot _ _ h1 h2⟩
theorem cmpVal_swo : SWO (ltOf cmpVal) := by
  refine ⟨fun x => ?_, fun x y z h1 h2 => ?_, fun x y z h1 h2 => ?_⟩
  · simp [ltOf, cmpVal_irr]
  · simp only [ltOf, decide_eq_true_eq] at h1 h2 ⊢
    exact cmpVal_tr _ _ _ h1 h2
  · simp only [ltOf, decide_eq_false_iff_not] at h1 h2 ⊢
    exact cmpVal_ntr _ _ _ h1 h2
theorem eq_parts (x t : S43) : (x.f0 == t.f0 && (x.f1 == t.f1)) = decide (x = t) := by
  rcases x with ⟨a, m⟩; rcases t with ⟨b, n⟩
  by_cases h : a = b ∧ m = n
  · obtain ⟨rfl, rfl⟩ := h
    simp
  · have : ¬ ((⟨a, m⟩ : S43) = ⟨b, n⟩) := fun e => h (by injection e with e1 e2; exact ⟨e1, e2⟩)
    rw [decide_eq_false this]
    cases a <;> cases b <;> simp at h ⊢ <;> omega
end Go.Proofs.Ytmlbihhaikknnaa.Ax
