/- What the laws' own helpers tell: sizes, copies, a comparison of a thing with itself, marks. Written by cv.py. Conditions: lengths that Go can hold. -/
import Derived.Test.YtfafegglmmkmbaaPr0
import Derived.Test.YtfafegglmmkmbaaPr1
import Derived.Test.YtfafegglmmkmbaaPr2
import Derived.Test.YtfafegglmmkmbaaOps
import Derived.Test.YtfafegglmmkmbaaPl
namespace Go.Proofs.Ytfafegglmmkmbaa.Ax
open Go.RowKit Go.Proofs.Ytfafegglmmkmbaa.Pr Go.Proofs.Ytfafegglmmkmbaa.Pl Go.Proofs.Ytfafegglmmkmbaa.Ops Go.Proofs.YtfafegglmmkmbaaW.PrintWords Go.Proofs.YtfafegglmmkmbaaW.PrintLast Go.Proofs.YtfafegglmmkmbaaW.PrintMore
set_option linter.unusedVariables false
set_option linter.unusedSimpArgs false
theorem rd_T57_drop {xs ys : List S57} {j : Nat} {y : S57} (h : xs.drop j = y :: ys) : rd_T57 xs (j : Int) = y := by
  have := (drop_cons h).2.1
  simp [rd_T57, List.getD_eq_getElem?_getD, this]
theorem rd_T57_set {xs : List S57} {j : Nat} {y : S57} (h : j < xs.length) : rd_T57 (xs.set j y) (j : Int) = y := by
  simp [rd_T57, List.getD_eq_getElem?_getD, List.getElem?_set_self h]
theorem rd_T25_drop {xs ys : List S25} {j : Nat} {y : S25} (h : xs.drop j = y :: ys) : rd_T25 xs (j : Int) = y := by
  have := (drop_cons h).2.1
  simp [rd_T25, List.getD_eq_getElem?_getD, this]
theorem rd_T25_set {xs : List S25} {j : Nat} {y : S25} (h : j < xs.length) : rd_T25 (xs.set j y) (j : Int) = y := by
  simp [rd_T25, List.getD_eq_getElem?_getD, List.getElem?_set_self h]
theorem rd_L4_drop {xs ys : List (List S57)} {j : Nat} {y : (List S57)} (h : xs.drop j = y :: ys) : rd_L4 xs (j : Int) = y := by
  have := (drop_cons h).2.1
  simp [rd_L4, List.getD_eq_getElem?_getD, this]
theorem rd_L4_set {xs : List (List S57)} {j : Nat} {y : (List S57)} (h : j < xs.length) : rd_L4 (xs.set j y) (j : Int) = y := by
  simp [rd_L4, List.getD_eq_getElem?_getD, List.getElem?_set_self h]
def BdInt (n : Int) : Prop := True
def BdIntS (l : List Int) : Prop := l.length ≤ 1048576 ∧ ∀ e ∈ l, BdInt e
def BdIntSS (l : List (List Int)) : Prop := l.length ≤ 1048576 ∧ ∀ e ∈ l, BdIntS e
def OkInt (n : Int) : Prop := True
def OkIntS (l : List Int) : Prop := l.length < 9223372036854775807 ∧ ∀ e ∈ l, OkInt e
def OkIntSS (l : List (List Int)) : Prop := l.length < 9223372036854775807 ∧ ∀ e ∈ l, OkIntS e
theorem ok_IntS {l : List Int} (h : BdIntS l) : OkIntS l := ⟨by have := h.1; omega, fun _ _ => trivial⟩
theorem ok_IntSS {l : List (List Int)} (h : BdIntSS l) : OkIntSS l := ⟨by have := h.1; omega, fun e he => ok_IntS (h.2 e he)⟩
def cvValue (x : S57) : S25 := ⟨x.f0, x.f1⟩
def BdValue (x : S57) : Prop := True
def BdValueS (l : List S57) : Prop := l.length ≤ 1048576 ∧ ∀ e ∈ l, BdValue e
def OkValue (x : S25) : Prop := True
def OkValueS (l : List S25) : Prop := l.length < 9223372036854775807 ∧ ∀ e ∈ l, OkValue e
theorem ok_Value {x : S57} (h : BdValue x) : OkValue (cvValue x) := trivial
theorem ok_ValueS {l : List S57} (h : BdValueS l) : OkValueS (l.map cvValue) := ⟨by have := h.1; simp; omega, fun e he => by obtain ⟨x, hx, rfl⟩ := List.mem_map.1 he; exact ok_Value (h.2 x hx)⟩
theorem szValueS_ev (l : (List S57)) (n : Int) (hF : FL57 l) (h0 : 0 ≤ n) (h1 : n ≤ 1048576) : ∃ r, Ev (fun k => laws_szValueS.f l n) r ∧ r ≤ 1048576 ∧ (0 ≤ r → BdValueS l) := by
  have h2 := hF.1
  simp only [laws_szValueS.f]
  rw [wrap_in (by omega) (by omega)]
  by_cases h : n - (l.length : Int) < 0
  · exact ⟨-1, by simp only [if_pos h]; exact ev_now rfl, by omega, fun h => by omega⟩
  · exact ⟨n - l.length, by simp only [if_neg h]; exact ev_now rfl, by omega, fun _ => ⟨by omega, fun _ _ => trivial⟩⟩
theorem toValue_ev (x : S57) (hB : BdValue x) : Ev (fun k => laws_toValue.f x.f0 x.f1) ((cvValue x).f0, (cvValue x).f1) := by
  simp only [laws_toValue.f]
  exact ev_now rfl
theorem toValueS_l0 (xs : (List S57)) (hb : xs.length < 9223372036854775807) : ∀ (ys : (List S57)) (j : Nat) (out : (List S25)), xs.drop j = ys → (∀ e ∈ ys, BdValue e) → j ≤ xs.length → out.length = xs.length → out.take j = (xs.map cvValue).take j →
    Ev (fun k => laws_toValueS.l0 k xs out (j : Int)) (xs.map cvValue)
  | [], j, out, h, hB, hj, ho, hp => by
    have h1 := drop_nil h
    refine ev_succ ?_
    simp only [laws_toValueS.l0]
    simp only [if_neg (show ¬ ((j : Int) < (xs.length : Int)) by omega)]
    refine ev_now ?_
    have e1 : out.take j = out := List.take_of_length_le (by omega)
    have e2 : (xs.map cvValue).take j = xs.map cvValue := List.take_of_length_le (by simp only [List.length_map]; omega)
    rw [← e1, hp, e2]
  | y :: ys, j, out, h, hB, hj, ho, hp => by
    obtain ⟨h1, h2, h3⟩ := drop_cons h
    have hs := set_end (xs := xs.map cvValue) (y := (cvValue y)) (by rw [← List.map_drop, h]; rfl) (by rw [ho, List.length_map]) hp
    refine ev_succ ?_
    simp only [laws_toValueS.l0]
    simp only [if_pos (show (j : Int) < (xs.length : Int) by omega), if_pos (show (0 : Int) ≤ (j : Int) by omega), rd_T57_drop h]
    refine Ev.bind (toValue_ev y (hB y (by simp))) ?_
    simp only [if_pos (show (j : Int) < (out.length : Int) by omega), wrap_succ (show j < 9223372036854775807 by omega), Int.toNat_natCast]
    exact toValueS_l0 xs hb ys (j + 1) (out.set j (cvValue y)) h3 (fun e he => hB e (by simp [he])) (by omega) (by rw [List.length_set]; exact ho) hs.2
theorem toValueS_ev (xs : (List S57)) (hB : BdValueS xs) : Ev (fun k => laws_toValueS.f k xs) (xs.map cvValue) := by
  have h1 := hB.1
  simp only [laws_toValueS.f]
  simp only [if_pos (show (0 : Int) ≤ (xs.length : Int) by omega), Int.toNat_natCast, if_pos (show xs.length ≤ 17592186044416 by omega)]
  exact toValueS_l0 xs (by omega) xs 0 _ rfl hB.2 (by omega) (by simp) (by simp)
theorem eqValue_ev (x : S25) (hO : OkValue x) : Ev (fun k => laws_eqValue.f x.f0 x.f1 x.f0 x.f1) true := by
  simp only [laws_eqValue.f, if_true, bne_self_eq_false, Bool.false_eq_true, if_false]
  exact ev_now rfl
theorem eqValueS_l0 (xs : (List S25)) (hb : xs.length < 9223372036854775807) : ∀ (ys : (List S25)) (j : Nat), xs.drop j = ys → (∀ e ∈ ys, OkValue e) → Ev (fun k => laws_eqValueS.l0 k xs xs (j : Int)) true
  | [], j, h, hO => by
    have h1 := drop_nil h
    refine ev_succ ?_
    simp only [laws_eqValueS.l0]
    simp only [if_neg (show ¬ ((j : Int) < (xs.length : Int)) by omega)]
    exact ev_now rfl
  | y :: ys, j, h, hO => by
    obtain ⟨h1, h2, h3⟩ := drop_cons h
    refine ev_succ ?_
    simp only [laws_eqValueS.l0]
    simp only [if_pos (show (j : Int) < (xs.length : Int) by omega), if_pos (show (0 : Int) ≤ (j : Int) by omega), rd_T25_drop h, wrap_succ (show j < 9223372036854775807 by omega)]
    refine Ev.bind (eqValue_ev y (hO y (by simp))) ?_
    simp only [if_true]
    exact eqValueS_l0 xs hb ys (j + 1) h3 (fun e he => hO e (by simp [he]))
theorem eqValueS_ev (xs : (List S25)) (hO : OkValueS xs) : Ev (fun k => laws_eqValueS.f k xs xs) true := by
  have h1 := hO.1
  simp only [laws_eqValueS.f]
  simp only [if_true]
  exact eqValueS_l0 xs h1 xs 0 rfl hO.2
end Go.Proofs.Ytfafegglmmkmbaa.Ax
