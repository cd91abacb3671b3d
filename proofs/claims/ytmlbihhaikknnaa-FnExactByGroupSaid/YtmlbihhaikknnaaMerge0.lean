/- Several small texts together: A1, Am, Cv, A2, A2t, MkA, MkW, MkBRowS, MkHRowS. No condition but those they name. -/
import Derived.Test.YtmlbihhaikknnaaPr2
import Derived.Test.YtmlbihhaikknnaaPr8
import Derived.Test.YtmlbihhaikknnaaMx5
import Derived.Test.YtmlbihhaikknnaaPr0
import Derived.Test.YtmlbihhaikknnaaPr12
import Derived.Test.YtmlbihhaikknnaaPr13
import Derived.Test.YtmlbihhaikknnaaPr14
import Derived.Test.YtmlbihhaikknnaaPr6
import Derived.Test.YtmlbihhaikknnaaMx3
import Derived.Test.YtmlbihhaikknnaaPr3
import Derived.Test.YtmlbihhaikknnaaPr9
import Derived.Test.YtmlbihhaikknnaaMx6
import Derived.Test.YtmlbihhaikknnaaPr15
/- What the functions of chapter 1 tell, in plain words. No condition. -/
namespace Go.Proofs.Ytmlbihhaikknnaa.Ax
open Go.RowKit Go.Proofs.Ytmlbihhaikknnaa.Pr Go.Proofs.Ytmlbihhaikknnaa.Pl Go.Proofs.YtmlbihhaikknnaaW.PrintWords Go.Proofs.YtmlbihhaikknnaaW.PrintLast Go.Proofs.YtmlbihhaikknnaaW.PrintMore
set_option linter.unusedVariables false
set_option linter.unusedSimpArgs false
def win (n lo hi : Int) : Bool := decide (lo ≤ n ∧ n ≤ hi)
def gv (b : Bool) (n : Int) : Bool := if b = true then n == 0 else win n (-1000) 1000
theorem l1In_eq (a b c : Int) : spec_l1In.f a b c = some (win a b c) := by
  unfold spec_l1In.f win
  split <;> simp <;> omega
theorem within_eq (a b c : Int) : impl_within.f a b c = some (win a b c) := by
  unfold impl_within.f win
  split <;> simp <;> omega
theorem isSmall_eq (a : Int) : impl_isSmall.f a = some (win a (-1000) 1000) := by
  unfold impl_isSmall.f
  rw [within_eq]
  rfl
theorem sGoodValue_eq (b : Bool) (n : Int) : spec_GoodValue.f b n = some (gv b n) := by
  unfold spec_GoodValue.f gv
  rw [l1In_eq]
  simp only [Option.bind_some]
  cases b <;> unfold win <;> (split <;> simp_all) <;> omega
theorem iGoodValue_eq (b : Bool) (n : Int) : impl_GoodValue.f b n = some (gv b n) := by
  unfold impl_GoodValue.f gv
  rw [isSmall_eq]
  cases b
  · simp
  · simp
    split <;> simp_all
end Go.Proofs.Ytmlbihhaikknnaa.Ax

/- Marks in a list of numbers (the plain part of Am, for a law without marks in numbers: fill as Am). Conditions: marks that Go can hold. -/

namespace Go.Proofs.Ytmlbihhaikknnaa.Ax
open Go.RowKit Go.Proofs.Ytmlbihhaikknnaa.Pl Go.Proofs.YtmlbihhaikknnaaW.PrintWords Go.Proofs.YtmlbihhaikknnaaW.PrintLast Go.Proofs.YtmlbihhaikknnaaW.PrintMore
set_option linter.unusedVariables false
set_option linter.unusedSimpArgs false
def mkL : Nat → Int → List Int
  | 0, _ => []
  | n + 1, k => k :: mkL n (k + 1)
theorem mkL_length : ∀ (n : Nat) (k : Int), (mkL n k).length = n
  | 0, _ => rfl
  | n + 1, k => by rw [mkL, List.length_cons, mkL_length n]
end Go.Proofs.Ytmlbihhaikknnaa.Ax

/- What the laws' own helpers tell: sizes, copies, a comparison of a thing with itself, marks. Written by cv.py. Conditions: lengths that Go can hold. -/
namespace Go.Proofs.Ytmlbihhaikknnaa.Ax
open Go.RowKit Go.Proofs.Ytmlbihhaikknnaa.Pr Go.Proofs.Ytmlbihhaikknnaa.Pl Go.Proofs.Ytmlbihhaikknnaa.Ops Go.Proofs.YtmlbihhaikknnaaW.PrintWords Go.Proofs.YtmlbihhaikknnaaW.PrintLast Go.Proofs.YtmlbihhaikknnaaW.PrintMore
set_option linter.unusedVariables false
set_option linter.unusedSimpArgs false
theorem rd_T43_drop {xs ys : List S43} {j : Nat} {y : S43} (h : xs.drop j = y :: ys) : rd_T43 xs (j : Int) = y := by
  have := (drop_cons h).2.1
  simp [rd_T43, List.getD_eq_getElem?_getD, this]
theorem rd_T53_drop {xs ys : List S53} {j : Nat} {y : S53} (h : xs.drop j = y :: ys) : rd_T53 xs (j : Int) = y := by
  have := (drop_cons h).2.1
  simp [rd_T53, List.getD_eq_getElem?_getD, this]
theorem rd_T45_drop {xs ys : List S45} {j : Nat} {y : S45} (h : xs.drop j = y :: ys) : rd_T45 xs (j : Int) = y := by
  have := (drop_cons h).2.1
  simp [rd_T45, List.getD_eq_getElem?_getD, this]
theorem rd_T49_drop {xs ys : List S49} {j : Nat} {y : S49} (h : xs.drop j = y :: ys) : rd_T49 xs (j : Int) = y := by
  have := (drop_cons h).2.1
  simp [rd_T49, List.getD_eq_getElem?_getD, this]
def cvValue (x : S45) : S43 := ⟨x.f0, x.f1⟩
def BdValue (x : S45) : Prop := True
def BdValueS (l : List S45) : Prop := l.length ≤ 1048576 ∧ ∀ e ∈ l, BdValue e
def OkValue (x : S43) : Prop := True
def OkValueS (l : List S43) : Prop := l.length < 9223372036854775807 ∧ ∀ e ∈ l, OkValue e
theorem ok_Value {x : S45} (h : BdValue x) : OkValue (cvValue x) := trivial
theorem ok_ValueS {l : List S45} (h : BdValueS l) : OkValueS (l.map cvValue) := ⟨by have := h.1; simp; omega, fun e he => by obtain ⟨x, hx, rfl⟩ := List.mem_map.1 he; exact ok_Value (h.2 x hx)⟩
def cvRow (x : S49) : S53 := ⟨x.f0, (x.f1.map cvValue)⟩
def BdRow (x : S49) : Prop := BdValueS x.f1
def BdRowS (l : List S49) : Prop := l.length ≤ 1048576 ∧ ∀ e ∈ l, BdRow e
def OkRow (x : S53) : Prop := OkValueS x.f1
def OkRowS (l : List S53) : Prop := l.length < 9223372036854775807 ∧ ∀ e ∈ l, OkRow e
theorem ok_Row {x : S49} (h : BdRow x) : OkRow (cvRow x) := ok_ValueS h
theorem ok_RowS {l : List S49} (h : BdRowS l) : OkRowS (l.map cvRow) := ⟨by have := h.1; simp; omega, fun e he => by obtain ⟨x, hx, rfl⟩ := List.mem_map.1 he; exact ok_Row (h.2 x hx)⟩
theorem szValueS_ev (l : (List S45)) (n : Int) (hF : FL45 l) (h0 : 0 ≤ n) (h1 : n ≤ 1048576) : ∃ r, Ev (fun k => laws_szValueS.f l n) r ∧ r ≤ 1048576 ∧ (0 ≤ r → BdValueS l) := by
  have h2 := hF.1
  simp only [laws_szValueS.f]
  rw [wrap_in (by omega) (by omega)]
  by_cases h : n - (l.length : Int) < 0
  · exact ⟨-1, by simp only [if_pos h]; exact ev_now rfl, by omega, fun h => by omega⟩
  · exact ⟨n - l.length, by simp only [if_neg h]; exact ev_now rfl, by omega, fun _ => ⟨by omega, fun _ _ => trivial⟩⟩
theorem toValue_ev (x : S45) (hB : BdValue x) : Ev (fun k => laws_toValue.f x.f0 x.f1) ((cvValue x).f0, (cvValue x).f1) := by
  simp only [laws_toValue.f]
  exact ev_now rfl
theorem toValueS_l0 (xs : (List S45)) (hb : xs.length < 9223372036854775807) : ∀ (ys : (List S45)) (j : Nat) (out : (List S43)), xs.drop j = ys → (∀ e ∈ ys, BdValue e) → j ≤ xs.length → out.length = xs.length → out.take j = (xs.map cvValue).take j →
    Ev (fun k => laws_toValueS.l0 k xs out (j : Int)) (xs.map cvValue)
  | [], j, out, h, hB, hj, ho, hp => by
    have h1 := drop_nil h
    refine ev_succ ?_
    simp only [laws_toValueS.l0]
    simp only [if_neg (show ¬ ((j : Int) < (xs.length : Int)) by omega)]
    refine ev_now ?_
    have e1 : out.take j = out := List.take_of_length_le (by omega)
    have e2 : (xs.map cvValue).take j = xs.map cvValue := List.take_of_length_le (by simp only [List.length_map]; omega)
    rw [← e1, hp, e2]
  | y :: ys, j, out, h, hB, hj, ho, hp => by
    obtain ⟨h1, h2, h3⟩ := drop_cons h
    have hs := set_end (xs := xs.map cvValue) (y := (cvValue y)) (by rw [← List.map_drop, h]; rfl) (by rw [ho, List.length_map]) hp
    refine ev_succ ?_
    simp only [laws_toValueS.l0]
    simp only [if_pos (show (j : Int) < (xs.length : Int) by omega), if_pos (show (0 : Int) ≤ (j : Int) by omega), rd_T45_drop h]
    refine Ev.bind (toValue_ev y (hB y (by simp))) ?_
    simp only [if_pos (show (j : Int) < (out.length : Int) by omega), wrap_succ (show j < 9223372036854775807 by omega), Int.toNat_natCast]
    exact toValueS_l0 xs hb ys (j + 1) (out.set j (cvValue y)) h3 (fun e he => hB e (by simp [he])) (by omega) (by rw [List.length_set]; exact ho) hs.2
theorem toValueS_ev (xs : (List S45)) (hB : BdValueS xs) : Ev (fun k => laws_toValueS.f k xs) (xs.map cvValue) := by
  have h1 := hB.1
  simp only [laws_toValueS.f]
  simp only [if_pos (show (0 : Int) ≤ (xs.length : Int) by omega), Int.toNat_natCast, if_pos (show xs.length ≤ 17592186044416 by omega)]
  exact toValueS_l0 xs (by omega) xs 0 _ rfl hB.2 (by omega) (by simp) (by simp)
theorem eqValue_ev (x : S43) (hO : OkValue x) : Ev (fun k => laws_eqValue.f x.f0 x.f1 x.f0 x.f1) true := by
  simp only [laws_eqValue.f, if_true, bne_self_eq_false, Bool.false_eq_true, if_false]
  exact ev_now rfl
theorem eqValueS_l0 (xs : (List S43)) (hb : xs.length < 9223372036854775807) : ∀ (ys : (List S43)) (j : Nat), xs.drop j = ys → (∀ e ∈ ys, OkValue e) → Ev (fun k => laws_eqValueS.l0 k xs xs (j : Int)) true
  | [], j, h, hO => by
    have h1 := drop_nil h
    refine ev_succ ?_
    simp only [laws_eqValueS.l0]
    simp only [if_neg (show ¬ ((j : Int) < (xs.length : Int)) by omega)]
    exact ev_now rfl
  | y :: ys, j, h, hO => by
    obtain ⟨h1, h2, h3⟩ := drop_cons h
    refine ev_succ ?_
    simp only [laws_eqValueS.l0]
    simp only [if_pos (show (j : Int) < (xs.length : Int) by omega), if_pos (show (0 : Int) ≤ (j : Int) by omega), rd_T43_drop h, wrap_succ (show j < 9223372036854775807 by omega)]
    refine Ev.bind (eqValue_ev y (hO y (by simp))) ?_
    simp only [if_true]
    exact eqValueS_l0 xs hb ys (j + 1) h3 (fun e he => hO e (by simp [he]))
theorem eqValueS_ev (xs : (List S43)) (hO : OkValueS xs) : Ev (fun k => laws_eqValueS.f k xs xs) true := by
  have h1 := hO.1
  simp only [laws_eqValueS.f]
  simp only [if_true]
  exact eqValueS_l0 xs h1 xs 0 rfl hO.2
def mkValue : Nat → Int → List S43
  | 0, _ => []
  | n + 1, m => ⟨(Int.tmod (m) 3 == 0), m + 1⟩ :: mkValue n (m + 1 + 1)
theorem mkValue_length : ∀ (n : Nat) (m : Int), (mkValue n m).length = n
  | 0, _ => rfl
  | n + 1, m => by rw [mkValue, List.length_cons, mkValue_length n]
theorem markValueS_l0 (n0 : Nat) (hb : n0 < 9223372036854775807) : ∀ (n j : Nat) (m : Int) (pre ys : List S43), 0 ≤ m → m + 2 * n < 9223372036854775807 → ys.length = n → pre.length = j → j + n = n0 →
    Ev (fun k => laws_markValueS.l0 k (pre ++ ys) m (j : Int)) (m + 2 * n, pre ++ mkValue n m)
  | 0, j, m, pre, ys, h0, h1, hy, hj, hn => by
    obtain rfl : ys = [] := List.length_eq_zero_iff.1 hy
    refine ev_succ ?_
    simp only [laws_markValueS.l0]
    simp only [if_neg (show ¬ ((j : Int) < ((pre ++ []).length : Int)) by simp; omega)]
    exact ev_now (by simp [mkValue])
  | n + 1, j, m, pre, ys, h0, h1, hy, hj, hn => by
    obtain ⟨y, ys, rfl⟩ : ∃ y z, ys = y :: z := by cases ys with | nil => simp at hy | cons a b => exact ⟨a, b, rfl⟩
    have hjl : j < (pre ++ y :: ys).length := by simp; omega
    have hset : ∀ v : S43, (pre ++ y :: ys).set j v = pre ++ v :: ys := fun v => by rw [List.set_append_right _ _ (by omega)]; simp [hj]
    have hset2 : ∀ u v : S43, (pre ++ u :: ys).set j v = pre ++ v :: ys := fun u v => by rw [List.set_append_right _ _ (by omega)]; simp [hj]
    have hrd : ∀ v : S43, rd_T43 (pre ++ v :: ys) (j : Int) = v := fun v => rd_T43_drop (ys := ys) (by rw [← hj, List.drop_left])
    refine ev_succ ?_
    simp only [laws_markValueS.l0]
    simp only [if_pos (show (j : Int) < ((pre ++ y :: ys).length : Int) by omega), if_pos (show (0 : Int) ≤ (j : Int) by omega), Int.toNat_natCast, Option.bind_some, hset2, hrd, wrap_succ (show j < 9223372036854775807 by omega), wrap_in (show -9223372036854775808 ≤ m + 1 by omega) (show m + 1 < 9223372036854775808 by omega), wrap_in (show -9223372036854775808 ≤ m + 1 + 1 by omega) (show m + 1 + 1 < 9223372036854775808 by omega)]
    have := markValueS_l0 n0 hb n (j + 1) (m + 1 + 1) (pre ++ [(⟨(Int.tmod (m) 3 == 0), m + 1⟩ : S43)]) ys (by omega) (by omega) (by simpa using hy) (by simp [hj]) (by omega)
    simp only [List.append_assoc, List.singleton_append] at this
    rw [show m + 1 + 1 + 2 * (n : Int) = m + 2 * ((n + 1 : Nat) : Int) by omega] at this
    exact this
theorem markValueS_ev (xs : List S43) (m : Int) (h0 : 0 ≤ m) (h1 : m + 2 * xs.length < 9223372036854775807) : Ev (fun k => laws_markValueS.f k xs m) (m + 2 * xs.length, mkValue xs.length m) := by
  have := markValueS_l0 xs.length (by omega) xs.length 0 m [] xs h0 h1 rfl rfl (by omega)
  simpa [laws_markValueS.f] using this
theorem heldValueS_l0 (xs : List S43) (hb : xs.length < 9223372036854775807) : ∀ (n j : Nat) (m : Int), 0 ≤ m → m + 2 * n < 9223372036854775807 → xs.drop j = mkValue n m → Ev (fun k => laws_heldValueS.l0 k xs m (j : Int)) (m + 2 * n)
  | 0, j, m, h0, h1, h => by
    rw [mkValue] at h
    have h2 := drop_nil h
    refine ev_succ ?_
    simp only [laws_heldValueS.l0]
    simp only [if_neg (show ¬ ((j : Int) < (xs.length : Int)) by omega)]
    exact ev_now (by simp)
  | n + 1, j, m, h0, h1, h => by
    rw [mkValue] at h
    obtain ⟨h2, h3, h4⟩ := drop_cons h
    refine ev_succ ?_
    simp only [laws_heldValueS.l0]
    simp only [if_pos (show (j : Int) < (xs.length : Int) by omega), if_pos (show (0 : Int) ≤ (j : Int) by omega), rd_T43_drop h, wrap_succ (show j < 9223372036854775807 by omega), wrap_in (show -9223372036854775808 ≤ m + 1 by omega) (show m + 1 < 9223372036854775808 by omega), wrap_in (show -9223372036854775808 ≤ m + 1 + 1 by omega) (show m + 1 + 1 < 9223372036854775808 by omega), if_true, bne_self_eq_false, Bool.false_eq_true, if_false]
    have := heldValueS_l0 xs hb n (j + 1) (m + 1 + 1) (by omega) (by omega) h4
    rwa [show m + 1 + 1 + 2 * (n : Int) = m + 2 * ((n + 1 : Nat) : Int) by omega] at this
theorem heldValueS_ev (n : Nat) (m : Int) (h0 : 0 ≤ m) (h1 : m + 2 * n < 9223372036854775807) : Ev (fun k => laws_heldValueS.f k (mkValue n m) m) (m + 2 * n) := by
  have := heldValueS_l0 (mkValue n m) (by rw [mkValue_length]; omega) n 0 m h0 h1 rfl
  simpa [laws_heldValueS.f] using this
theorem szRow_ev (x : S49) (n : Int) (hF : F49 x) (h0 : 0 ≤ n) (h1 : n ≤ 1048576) : ∃ r, Ev (fun k => laws_szRow.f x.f0 x.f1 n) r ∧ r ≤ 1048576 ∧ (0 ≤ r → BdRow x) := by
  simp only [laws_szRow.f]
  obtain ⟨r0, e0, l0, b0⟩ := szValueS_ev x.f1 n hF.2 h0 h1
  by_cases c0 : r0 < 0
  · refine ⟨-1, ?_, by omega, fun h => by omega⟩
    refine Ev.bind e0 ?_
    simp only [if_pos c0]
    exact ev_now rfl
  refine ⟨r0, ?_, l0, fun h => b0 (by omega)⟩
  refine Ev.bind e0 ?_
  simp only [if_neg c0]
  exact ev_now rfl
theorem szRowS_l0 (xs : (List S49)) (hb : xs.length < 9223372036854775807) : ∀ (ys : (List S49)) (j : Nat) (n : Int), xs.drop j = ys → (∀ e ∈ ys, F49 e) → 0 ≤ n → n ≤ 1048576 → ∃ r, Ev (fun k => laws_szRowS.l0 k xs n (j : Int)) r ∧ r ≤ 1048576 ∧ (0 ≤ r → ∀ e ∈ ys, BdRow e)
  | [], j, n, h, hF, h0, h1 => by
    have h2 := drop_nil h
    refine ⟨n, ev_succ ?_, h1, fun _ e he => absurd he (by simp)⟩
    simp only [laws_szRowS.l0]
    simp only [if_neg (show ¬ ((j : Int) < (xs.length : Int)) by omega)]
    exact ev_now rfl
  | y :: ys, j, n, h, hF, h0, h1 => by
    obtain ⟨h2, h3, h4⟩ := drop_cons h
    obtain ⟨r1, e1, l1, b1⟩ := szRow_ev y n (hF y (by simp)) h0 h1
    by_cases hr : r1 < 0
    · refine ⟨-1, ev_succ ?_, by omega, fun h => by omega⟩
      simp only [laws_szRowS.l0]
      simp only [if_pos (show (j : Int) < (xs.length : Int) by omega), if_pos (show (0 : Int) ≤ (j : Int) by omega), rd_T49_drop h]
      refine Ev.bind e1 ?_
      simp only [if_pos hr]
      exact ev_now rfl
    · obtain ⟨r2, e2, l2, b2⟩ := szRowS_l0 xs hb ys (j + 1) r1 h4 (fun e he => hF e (by simp [he])) (by omega) l1
      refine ⟨r2, ev_succ ?_, l2, fun h e he => ?_⟩
      · simp only [laws_szRowS.l0]
        simp only [if_pos (show (j : Int) < (xs.length : Int) by omega), if_pos (show (0 : Int) ≤ (j : Int) by omega), rd_T49_drop h]
        refine Ev.bind e1 ?_
        simp only [if_neg hr, wrap_succ (show j < 9223372036854775807 by omega)]
        exact e2
      · rcases List.mem_cons.1 he with rfl | he
        · exact b1 (by omega)
        · exact b2 h e he
theorem szRowS_ev (l : (List S49)) (n : Int) (hF : FL49 l) (h0 : 0 ≤ n) (h1 : n ≤ 1048576) : ∃ r, Ev (fun k => laws_szRowS.f k l n) r ∧ r ≤ 1048576 ∧ (0 ≤ r → BdRowS l) := by
  have h2 := hF.1
  simp only [laws_szRowS.f]
  rw [wrap_in (by omega) (by omega)]
  by_cases h : n - (l.length : Int) < 0
  · exact ⟨-1, by simp only [if_pos h]; exact ev_now rfl, by omega, fun h => by omega⟩
  · obtain ⟨r, e, l1, b⟩ := szRowS_l0 l (by omega) l 0 (n - l.length) rfl hF.2 (by omega) (by omega)
    exact ⟨r, by simp only [if_neg h]; exact e, l1, fun h => ⟨by omega, b h⟩⟩
theorem toRow_ev (x : S49) (hB : BdRow x) : Ev (fun k => laws_toRow.f k x.f0 x.f1) ((cvRow x).f0, (cvRow x).f1) := by
  simp only [laws_toRow.f]
  refine Ev.bind (toValueS_ev x.f1 hB) ?_
  exact ev_now rfl
theorem toRowS_l0 (xs : (List S49)) (hb : xs.length < 9223372036854775807) : ∀ (ys : (List S49)) (j : Nat) (out : (List S53)), xs.drop j = ys → (∀ e ∈ ys, BdRow e) → j ≤ xs.length → out.length = xs.length → out.take j = (xs.map cvRow).take j →
    Ev (fun k => laws_toRowS.l0 k xs out (j : Int)) (xs.map cvRow)
  | [], j, out, h, hB, hj, ho, hp => by
    have h1 := drop_nil h
    refine ev_succ ?_
    simp only [laws_toRowS.l0]
    simp only [if_neg (show ¬ ((j : Int) < (xs.length : Int)) by omega)]
    refine ev_now ?_
    have e1 : out.take j = out := List.take_of_length_le (by omega)
    have e2 : (xs.map cvRow).take j = xs.map cvRow := List.take_of_length_le (by simp only [List.length_map]; omega)
    rw [← e1, hp, e2]
  | y :: ys, j, out, h, hB, hj, ho, hp => by
    obtain ⟨h1, h2, h3⟩ := drop_cons h
    have hs := set_end (xs := xs.map cvRow) (y := (cvRow y)) (by rw [← List.map_drop, h]; rfl) (by rw [ho, List.length_map]) hp
    refine ev_succ ?_
    simp only [laws_toRowS.l0]
    simp only [if_pos (show (j : Int) < (xs.length : Int) by omega), if_pos (show (0 : Int) ≤ (j : Int) by omega), rd_T49_drop h]
    refine Ev.bind (toRow_ev y (hB y (by simp))) ?_
    simp only [if_pos (show (j : Int) < (out.length : Int) by omega), wrap_succ (show j < 9223372036854775807 by omega), Int.toNat_natCast]
    exact toRowS_l0 xs hb ys (j + 1) (out.set j (cvRow y)) h3 (fun e he => hB e (by simp [he])) (by omega) (by rw [List.length_set]; exact ho) hs.2
theorem toRowS_ev (xs : (List S49)) (hB : BdRowS xs) : Ev (fun k => laws_toRowS.f k xs) (xs.map cvRow) := by
  have h1 := hB.1
  simp only [laws_toRowS.f]
  simp only [if_pos (show (0 : Int) ≤ (xs.length : Int) by omega), Int.toNat_natCast, if_pos (show xs.length ≤ 8796093022208 by omega)]
  exact toRowS_l0 xs (by omega) xs 0 _ rfl hB.2 (by omega) (by simp) (by simp)
theorem eqRow_ev (x : S53) (hO : OkRow x) : Ev (fun k => laws_eqRow.f k x.f0 x.f1 x.f0 x.f1) true := by
  simp only [laws_eqRow.f, if_true, bne_self_eq_false, Bool.false_eq_true, if_false]
  refine Ev.bind (eqValueS_ev x.f1 hO) ?_
  simp only [if_true, bne_self_eq_false, Bool.false_eq_true, if_false]
  exact ev_now rfl
theorem eqRowS_l0 (xs : (List S53)) (hb : xs.length < 9223372036854775807) : ∀ (ys : (List S53)) (j : Nat), xs.drop j = ys → (∀ e ∈ ys, OkRow e) → Ev (fun k => laws_eqRowS.l0 k xs xs (j : Int)) true
  | [], j, h, hO => by
    have h1 := drop_nil h
    refine ev_succ ?_
    simp only [laws_eqRowS.l0]
    simp only [if_neg (show ¬ ((j : Int) < (xs.length : Int)) by omega)]
    exact ev_now rfl
  | y :: ys, j, h, hO => by
    obtain ⟨h1, h2, h3⟩ := drop_cons h
    refine ev_succ ?_
    simp only [laws_eqRowS.l0]
    simp only [if_pos (show (j : Int) < (xs.length : Int) by omega), if_pos (show (0 : Int) ≤ (j : Int) by omega), rd_T53_drop h, wrap_succ (show j < 9223372036854775807 by omega)]
    refine Ev.bind (eqRow_ev y (hO y (by simp))) ?_
    simp only [if_true]
    exact eqRowS_l0 xs hb ys (j + 1) h3 (fun e he => hO e (by simp [he]))
theorem eqRowS_ev (xs : (List S53)) (hO : OkRowS xs) : Ev (fun k => laws_eqRowS.f k xs xs) true := by
  have h1 := hO.1
  simp only [laws_eqRowS.f]
  simp only [if_true]
  exact eqRowS_l0 xs h1 xs 0 rfl hO.2
end Go.Proofs.Ytmlbihhaikknnaa.Ax

/- What the functions over lists of values tell. Conditions: lengths that Go can hold. -/
namespace Go.Proofs.Ytmlbihhaikknnaa.Ax
open Go.RowKit Go.Proofs.Ytmlbihhaikknnaa.Pr Go.Proofs.Ytmlbihhaikknnaa.Pl Go.Proofs.YtmlbihhaikknnaaW.PrintWords Go.Proofs.YtmlbihhaikknnaaW.PrintLast Go.Proofs.YtmlbihhaikknnaaW.PrintMore
set_option linter.unusedVariables false
set_option linter.unusedSimpArgs false
def gvS (x : S43) : Bool := gv x.f0 x.f1
theorem areValues_l0 (xs : List S43) (hb : xs.length < 9223372036854775807) : ∀ (ys : List S43) (j : Nat), xs.drop j = ys →
    Ev (fun k => impl_areValues.l0 k xs (xs.length : Int) (j : Int)) (ys.all gvS)
  | [], j, h => by
    have h1 := drop_nil h
    refine ev_succ ?_
    simp only [impl_areValues.l0]
    simp only [if_neg (show ¬ ((j : Int) < (xs.length : Int)) by omega)]
    exact ev_now rfl
  | y :: ys, j, h => by
    obtain ⟨h1, h2, h3⟩ := drop_cons h
    refine ev_succ ?_
    simp only [impl_areValues.l0]
    simp only [if_pos (show (j : Int) < (xs.length : Int) by omega), if_pos (show (0 : Int) ≤ (j : Int) by omega), rd_T43_drop h, iGoodValue_eq, Option.bind_some, wrap_succ (show j < 9223372036854775807 by omega)]
    have ih := areValues_l0 xs hb ys (j + 1) h3
    cases e : gvS y
    · simp only [gvS] at e
      simp only [e, Bool.false_eq_true, if_false]
      exact ev_now (by simp [gvS, e])
    · simp only [gvS] at e
      simp only [e, if_true]
      simpa [gvS, e] using ih
theorem areValues_ev (xs : List S43) (hb : xs.length < 9223372036854775807) : Ev (fun k => impl_areValues.f k xs) (xs.all gvS) := areValues_l0 xs hb xs 0 rfl
end Go.Proofs.Ytmlbihhaikknnaa.Ax

/- What GoodTable tells. Conditions: lengths that Go can hold. -/
namespace Go.Proofs.Ytmlbihhaikknnaa.Ax
open Go.RowKit Go.Proofs.Ytmlbihhaikknnaa.Pr Go.Proofs.Ytmlbihhaikknnaa.Pl Go.Proofs.YtmlbihhaikknnaaW.PrintWords Go.Proofs.YtmlbihhaikknnaaW.PrintLast Go.Proofs.YtmlbihhaikknnaaW.PrintMore
set_option linter.unusedVariables false
set_option linter.unusedSimpArgs false
def okR (x : S53) : Bool := win x.f0 0 999 && (decide (x.f1.length = 3) && x.f1.all gvS)
theorem l2Row_l0 (a : Int) (zs xs : List S43) (hb : xs.length < 9223372036854775807) : ∀ (ys : List S43) (j : Nat), xs.drop j = ys →
    Ev (fun k => spec_l2Row.l0 k xs (xs.length : Int) (j : Int) a zs) (ys.all gvS && (win a 0 999 && decide (zs.length = 3)))
  | [], j, h => by
    have h1 := drop_nil h
    refine ev_succ ?_
    simp only [spec_l2Row.l0]
    simp only [if_neg (show ¬ ((j : Int) < (xs.length : Int)) by omega), l1In_eq, Option.bind_some]
    cases e : win a 0 999
    · simp only [Bool.false_eq_true, if_false]
      exact ev_now (by simp)
    · simp only [if_true]
      refine ev_now ?_
      by_cases h3 : zs.length = 3
      · simp [h3]
      · have : ¬ (zs.length : Int) = 3 := by omega
        simp [h3, this]
  | y :: ys, j, h => by
    obtain ⟨h1, h2, h3⟩ := drop_cons h
    refine ev_succ ?_
    simp only [spec_l2Row.l0]
    simp only [if_pos (show (j : Int) < (xs.length : Int) by omega), if_pos (show (0 : Int) ≤ (j : Int) by omega), rd_T43_drop h, sGoodValue_eq, Option.bind_some, wrap_succ (show j < 9223372036854775807 by omega)]
    have ih := l2Row_l0 a zs xs hb ys (j + 1) h3
    cases e : gv y.f0 y.f1
    · simp only [Bool.false_eq_true, if_false]
      exact ev_now (by simp [gvS, e])
    · simp only [if_true]
      simpa [gvS, e] using ih
theorem l2Row_ev (x : S53) (hO : OkRow x) : Ev (fun k => spec_l2Row.f k x.f0 x.f1) (okR x) := by
  simp only [spec_l2Row.f]
  have := l2Row_l0 x.f0 x.f1 x.f1 hO.1 x.f1 0 rfl
  have e : okR x = (x.f1.all gvS && (win x.f0 0 999 && decide (x.f1.length = 3))) := by
    unfold okR
    cases x.f1.all gvS <;> cases win x.f0 0 999 <;> simp
  rw [e]
  exact this
theorem isRow_ev (x : S53) (hO : OkRow x) : Ev (fun k => impl_isRow.f k x.f0 x.f1) (okR x) := by
  simp only [impl_isRow.f, impl_isKey.f, within_eq, Option.bind_some, okR]
  cases e : win x.f0 0 999
  · simp only [Bool.false_eq_true, if_false]
    exact ev_now (by simp)
  · simp only [if_true]
    by_cases h3 : x.f1.length = 3
    · simp only [if_pos (show (x.f1.length : Int) = 3 by omega)]
      exact Ev.bind (areValues_ev x.f1 hO.1) (ev_now (by simp [h3]))
    · simp only [if_neg (show ¬ (x.f1.length : Int) = 3 by omega)]
      exact ev_now (by simp [h3])
def gt : Option Int → List S53 → Bool
  | _, [] => true
  | p, x :: xs => okR x && (match p with | none => true | some q => decide (q < x.f0)) && gt (some x.f0) xs
theorem gt_cons (p : Option Int) (x : S53) (xs : List S53) : gt p (x :: xs) = (okR x && (match p with | none => true | some q => decide (q < x.f0)) && gt (some x.f0) xs) := by cases p <;> rfl
theorem gt_nil (p : Option Int) : gt p [] = true := by cases p <;> rfl
theorem sGT_l0 (xs : List S53) (hO : OkRowS xs) : ∀ (ys : List S53) (j : Nat), xs.drop j = ys →
    Ev (fun k => spec_GoodTable.l0 k xs xs (xs.length : Int) (j : Int)) (gt (if j = 0 then none else some (rd_T53 xs ((j : Int) - 1)).f0) ys && decide (xs.length ≤ 20))
  | [], j, h => by
    have h1 := drop_nil h
    refine ev_succ ?_
    simp only [spec_GoodTable.l0]
    simp only [if_neg (show ¬ ((j : Int) < (xs.length : Int)) by omega)]
    refine ev_now ?_
    rw [gt_nil, Bool.true_and]
    by_cases h20 : xs.length ≤ 20
    · simp [h20]; omega
    · simp [h20]; omega
  | y :: ys, j, h => by
    obtain ⟨h1, h2, h3⟩ := drop_cons h
    have hb := hO.1
    have hm : y ∈ xs := List.mem_of_getElem? h2
    have ih := sGT_l0 xs hO ys (j + 1) h3
    have ep : (rd_T53 xs (((j + 1 : Nat) : Int) - 1)) = y := by rw [show ((j + 1 : Nat) : Int) - 1 = (j : Int) by omega]; exact rd_T53_drop h
    rw [if_neg (by omega), ep] at ih
    refine ev_succ ?_
    simp only [spec_GoodTable.l0]
    simp only [if_pos (show (j : Int) < (xs.length : Int) by omega), if_pos (show (0 : Int) ≤ (j : Int) by omega), rd_T53_drop h, wrap_succ (show j < 9223372036854775807 by omega)]
    refine Ev.bind (l2Row_ev y (hO.2 y hm)) ?_
    rw [gt_cons]
    cases e : okR y
    · simp only [Bool.false_eq_true, if_false]
      exact ev_now (by simp)
    · simp only [if_true]
      by_cases hj : j = 0
      · subst hj
        simp only [if_neg (show ¬ (((0 : Nat) : Int) > 0) by omega)]
        simpa using ih
      · simp only [if_pos (show (j : Int) > 0 by omega), wrap_in (show -9223372036854775808 ≤ (j : Int) - 1 by omega) (show (j : Int) - 1 < 9223372036854775808 by omega), if_pos (show 0 ≤ (j : Int) - 1 by omega), if_pos (show (j : Int) - 1 < (xs.length : Int) by omega), if_neg hj]
        by_cases hk : (rd_T53 xs ((j : Int) - 1)).f0 ≥ y.f0
        · simp only [if_pos hk]
          exact ev_now (by simp; intro h; omega)
        · simp only [if_neg hk]
          simpa [show (rd_T53 xs ((j : Int) - 1)).f0 < y.f0 by omega] using ih
theorem iGT_l0 (xs : List S53) (hO : OkRowS xs) : ∀ (ys : List S53) (j : Nat), xs.drop j = ys →
    Ev (fun k => impl_GoodTable.l0 k xs xs (xs.length : Int) (j : Int)) (gt (if j = 0 then none else some (rd_T53 xs ((j : Int) - 1)).f0) ys && decide (xs.length ≤ 20))
  | [], j, h => by
    have h1 := drop_nil h
    refine ev_succ ?_
    simp only [impl_GoodTable.l0]
    simp only [if_neg (show ¬ ((j : Int) < (xs.length : Int)) by omega)]
    refine ev_now ?_
    rw [gt_nil, Bool.true_and]
    by_cases h20 : xs.length ≤ 20
    · simp [h20]; omega
    · simp [h20]; omega
  | y :: ys, j, h => by
    obtain ⟨h1, h2, h3⟩ := drop_cons h
    have hb := hO.1
    have hm : y ∈ xs := List.mem_of_getElem? h2
    have ih := iGT_l0 xs hO ys (j + 1) h3
    have ep : (rd_T53 xs (((j + 1 : Nat) : Int) - 1)) = y := by rw [show ((j + 1 : Nat) : Int) - 1 = (j : Int) by omega]; exact rd_T53_drop h
    rw [if_neg (by omega), ep] at ih
    refine ev_succ ?_
    simp only [impl_GoodTable.l0]
    simp only [if_pos (show (j : Int) < (xs.length : Int) by omega), if_pos (show (0 : Int) ≤ (j : Int) by omega), rd_T53_drop h, wrap_succ (show j < 9223372036854775807 by omega)]
    refine Ev.bind (isRow_ev y (hO.2 y hm)) ?_
    rw [gt_cons]
    cases e : okR y
    · simp only [Bool.false_eq_true, if_false]
      exact ev_now (by simp)
    · simp only [if_true]
      by_cases hj : j = 0
      · subst hj
        simp only [if_neg (show ¬ (((0 : Nat) : Int) > 0) by omega)]
        simpa using ih
      · simp only [if_pos (show (j : Int) > 0 by omega), wrap_in (show -9223372036854775808 ≤ (j : Int) - 1 by omega) (show (j : Int) - 1 < 9223372036854775808 by omega), if_pos (show 0 ≤ (j : Int) - 1 by omega), if_pos (show (j : Int) - 1 < (xs.length : Int) by omega), if_neg hj]
        by_cases hk : (rd_T53 xs ((j : Int) - 1)).f0 ≥ y.f0
        · simp only [if_pos hk]
          exact ev_now (by simp; intro h; omega)
        · simp only [if_neg hk]
          simpa [show (rd_T53 xs ((j : Int) - 1)).f0 < y.f0 by omega] using ih
theorem sGT_ev (xs : List S53) (hO : OkRowS xs) : Ev (fun k => spec_GoodTable.f k xs) (gt none xs && decide (xs.length ≤ 20)) := sGT_l0 xs hO xs 0 rfl
theorem iGT_ev (xs : List S53) (hO : OkRowS xs) : Ev (fun k => impl_GoodTable.f k xs) (gt none xs && decide (xs.length ≤ 20)) := iGT_l0 xs hO xs 0 rfl
end Go.Proofs.Ytmlbihhaikknnaa.Ax

/- What the marks in lists of lists tell: plain words. Conditions: marks that Go can hold. -/

namespace Go.Proofs.Ytmlbihhaikknnaa.Ax
open Go.RowKit Go.Proofs.Ytmlbihhaikknnaa.Pl Go.Proofs.YtmlbihhaikknnaaW.PrintWords Go.Proofs.YtmlbihhaikknnaaW.PrintLast Go.Proofs.YtmlbihhaikknnaaW.PrintMore
set_option linter.unusedVariables false
set_option linter.unusedSimpArgs false
def mkIntS (l : List Int) (m : Int) : List Int := mkL l.length m
theorem mkIntS_length (l : List Int) (m : Int) : (mkIntS l m).length = l.length := mkL_length _ _
def cntOf {α : Type} (c : α → Nat) : List α → Nat
  | [] => 0
  | x :: xs => c x + cntOf c xs
def mkOf {α : Type} (c : α → Nat) (f : α → Int → α) : List α → Int → List α
  | [], _ => []
  | x :: xs, m => f x m :: mkOf c f xs (m + (c x : Nat))
section
variable {α : Type} {c : α → Nat} {f : α → Int → α}
theorem cntOf_snoc : ∀ (xs : List α) (y : α), cntOf c (xs ++ [y]) = cntOf c xs + c y
  | [], y => by simp [cntOf]
  | x :: xs, y => by simp only [List.cons_append, cntOf, cntOf_snoc xs y]; omega
theorem cntOf_append : ∀ (xs ys : List α), cntOf c (xs ++ ys) = cntOf c xs + cntOf c ys
  | [], y => by simp [cntOf]
  | x :: xs, y => by simp only [List.cons_append, cntOf, cntOf_append xs y]; omega
theorem mkOf_length : ∀ (xs : List α) (m : Int), (mkOf c f xs m).length = xs.length
  | [], _ => rfl
  | x :: xs, m => by rw [mkOf, List.length_cons, List.length_cons, mkOf_length xs]
theorem mkOf_snoc : ∀ (xs : List α) (y : α) (m : Int), mkOf c f (xs ++ [y]) m = mkOf c f xs m ++ [f y (m + (cntOf c xs : Nat))]
  | [], y, m => by simp [mkOf, cntOf]
  | x :: xs, y, m => by
    have := mkOf_snoc xs y (m + (c x : Nat))
    simp only [List.cons_append, mkOf, this, cntOf]
    rw [show m + ((c x : Nat) : Int) + ((cntOf c xs : Nat) : Int) = m + ((c x + cntOf c xs : Nat) : Int) by omega]
theorem mkOf_set (pre post : List α) (y : α) (m : Int) : (mkOf c f pre m ++ y :: post).set pre.length (f y (m + (cntOf c pre : Nat))) = mkOf c f (pre ++ [y]) m ++ post := by
  rw [mkOf_snoc, List.set_append_right _ _ (by rw [mkOf_length]; exact Nat.le_refl _), mkOf_length, Nat.sub_self, List.append_assoc]
  rfl
theorem mkOf_at (pre post : List α) (y z : α) (m : Int) : (mkOf c f pre m ++ y :: post).getD pre.length z = y := by
  rw [List.getD_eq_getElem?_getD, List.getElem?_append_right (by rw [mkOf_length]; exact Nat.le_refl _), mkOf_length, Nat.sub_self]
  rfl
end
theorem cnt_le {α : Type} {c : α → Nat} (b : Nat) : ∀ (xs : List α), (∀ x ∈ xs, c x ≤ b) → cntOf c xs ≤ xs.length * b
  | [], _ => by simp [cntOf]
  | x :: xs, h => by
    have h1 := h x (by simp)
    have h2 := cnt_le b xs (fun y hy => h y (by simp [hy]))
    simp only [cntOf, List.length_cons, Nat.succ_mul]
    omega
end Go.Proofs.Ytmlbihhaikknnaa.Ax

/- The marks in a row of table rows of the call's own (a key and a list of values each): contract. Conditions: marks that Go can hold. -/
namespace Go.Proofs.Ytmlbihhaikknnaa.Ax
open Go.Proofs.Ytmlbihhaikknnaa.Pr
set_option linter.unusedVariables false
def cntValueS (l : List S43) : Nat := 2 * l.length
def mkValueS (l : List S43) (m : Int) : List S43 := mkValue l.length m
def cW (r : S53) : Nat := 1 + cntValueS r.f1
def mW (r : S53) (m : Int) : S53 := ⟨m, mkValueS r.f1 (m + 1)⟩
abbrev cntRowS : List S53 → Nat := cntOf cW
abbrev mkRowS : List S53 → Int → List S53 := mkOf cW mW
end Go.Proofs.Ytmlbihhaikknnaa.Ax
namespace Go.Proofs.Ytmlbihhaikknnaa.Mk
open Go.RowKit Go.Proofs.Ytmlbihhaikknnaa Go.Proofs.Ytmlbihhaikknnaa.Pr Go.Proofs.Ytmlbihhaikknnaa.Pl Go.Proofs.YtmlbihhaikknnaaW.PrintWords Go.Proofs.YtmlbihhaikknnaaW.PrintLast Go.Proofs.YtmlbihhaikknnaaW.PrintMore
set_option linter.unusedVariables false
set_option linter.unusedSimpArgs false
set_option maxHeartbeats 1000000 in
theorem markValueS_R (w0 w : World) (base : Nat) (ok : Nat → Prop) (m M : Int) (v : Value) (l : List S43) (hB : Below w0.heap.size w0 w) (hb : w0.heap.size ≤ base)
    (ho : k43.R 43 w base ok v l) (h0 : 0 ≤ m) (h1 : m + (Ax.cntValueS l : Nat) = M ∧ M < 9223372036854775807) :
    Calls Try.prog 10 #[v, .int .i64 m] w fun e w' => e = .returned (.int .i64 M) ∧ k43.R 43 w' base ok v (Ax.mkValueS l m) ∧ Below w0.heap.size w0 w' ∧ Kept w w' (fun k => some k = v.ownBlock) := by
  obtain ⟨rfl, hM⟩ := h1
  have hcv : (Ax.cntValueS l : Int) = 2 * (l.length : Int) := by simp [Ax.cntValueS]
  obtain ⟨k, hk⟩ := Ev.rounds (Ax.markValueS_ev l m h0 (by omega))
  refine (laws_markValueS.calls k (fun k => some k = v.ownBlock) v l m _ _ w0 w hB (Kd.R_lower (Kd.R_tight rfl ho) hb) hk).mono ?_
  rintro e w' ⟨rfl, h2, h3, h4⟩
  refine ⟨by rw [hcv], ?_, h3, h4⟩
  have h5 := Kd.R_reok (ok := ok) rfl h2 (fun k hk => ho.1 k hk)
  exact Kd.R_raise (d := k43) (b := w0.heap.size) (b' := base) (fun _ _ _ _ h_ => h_) h5 (fun k hk => Kd.R_base ho k hk)
set_option maxHeartbeats 4000000 in
set_option maxRecDepth 100000 in
theorem markRowS_S (w0 w : World) (base : Nat) (ok : Nat → Prop) (m M : Int) (v : Value) (l : List S53) (hB : Below w0.heap.size w0 w) (hb : w0.heap.size ≤ base)
    (ho : Kd.S k53 53 w base ok v l) (h0 : 0 ≤ m) (h1 : m + (Ax.cntRowS l : Nat) = M ∧ M < 9223372036854775807) :
    Calls Try.prog 17 #[v, .int .i64 m] w fun e w' => e = .returned (.int .i64 M) ∧ Kd.S k53 53 w' base ok v (Ax.mkRowS l m) ∧ Below w0.heap.size w0 w' ∧ Kept w w' ok := by
  obtain ⟨A, c, rfl⟩ := Kd.S_slice ho
  obtain ⟨rfl, hM⟩ := h1
  have HN := Aside0.mk (Kd.S_reads' ho).2.2.2.1
  have HO := Aside0.mk ho
  have HB := Aside0.mk hB
  have HBB := Aside0.mk hb
  have H0 := Aside0.mk h0
  have HM := Aside0.mk hM
  clear ho hB hb h0 hM
  go_enter Try.func17, Try.ntmps17
  go_wp2
  go_loopg [1, 5] (l.length + 1) (fun gg v1 v5 wr => ∃ (pre post : List S53) (m1 : Int), v1 = .int .i64 m1 ∧ v5 = .int .i64 (pre.length : Nat) ∧ Aside0 (m1 = m + (Ax.cntRowS pre : Nat)) ∧ Aside0 (l = pre ++ post) ∧ Aside0 (post.length + 1 ≤ gg) ∧
    Aside0 (Kd.S k53 53 wr base ok (.slice A l.length c) (Ax.mkRowS pre m ++ post)) ∧ Aside0 (Kept w wr ok) ∧ Aside0 (Below w0.heap.size w0 wr))
  case atStart => exact ⟨[], l, m, rfl, rfl, ⟨by simp [Ax.cntOf]⟩, ⟨rfl⟩, ⟨Nat.le_refl _⟩, HO, ⟨Kept.refl _ _⟩, HB⟩
  case round =>
    clear HO HB
    obtain ⟨pre, post, m1, rfl, rfl, HM1, HL, HG, HO, HK, HB⟩ := hrel
    cases post with
    | nil =>
      have hlen : l.length = pre.length := by rw [HL.out]; simp
      have h1 : ¬ ((pre.length : Nat) : Int) < (l.length : Int) := by omega
      have hE : pre = l := by rw [HL.out]; simp
      have HE := Aside0.mk hE
      clear hE hlen
      go_wp2
      go_ret
      refine ⟨?_, ?_, HB.out, HK.out⟩
      · rw [HM1.out, HE.out]
        rfl
      · have := HO.out
        rwa [HE.out, List.append_nil] at this
    | cons y post =>
      have hlen : l.length = pre.length + (post.length + 1) := by rw [HL.out]; simp
      have h1 : ((pre.length : Nat) : Int) < (l.length : Int) := by omega
      have hml : (Ax.mkRowS pre m ++ y :: post).length = l.length := by rw [List.length_append, Ax.mkOf_length, hlen]; rfl
      obtain ⟨g, cap, hv, hg, hgl, _, _⟩ := Kd.S_form HO.out (by omega)
      injection hv with hv1 hv2 hv3
      subst hv1; subst hv3
      obtain ⟨oki, cs, hcl, hMd, hcc, hfr, hoki, hH⟩ := Kd.S_elem HO.out (z53 : S53) ((pre.length : Nat) : Int) (by omega) (by omega)
      rw [Int.toNat_natCast, Ax.mkOf_at] at hMd
      obtain ⟨v1, rfl, hR1⟩ := k53_openM hMd
      have x0 := hcc 0 _ rfl
      have x1 := hcc 1 _ rfl
      have f0 := hfr 0
      simp only [Int.toNat_natCast, show k53.sz = 2 from rfl, Nat.add_zero] at x0 x1 f0
      have hcnt : Ax.cntRowS l = Ax.cntRowS pre + (Ax.cW y + Ax.cntRowS post) := by rw [HL.out]; exact Ax.cntOf_append pre (y :: post)
      have hcy : Ax.cW y = 1 + Ax.cntValueS y.f1 := rfl
      have hw5 : wrap64 (((pre.length : Nat) : Int) + 1) = ((pre.length + 1 : Nat) : Int) := Pl.wrap_succ (by have := HN.out; omega)
      have hw1 : wrap64 (m1 + 1) = m1 + 1 := Pl.wrap_in (by have := HM1.out; have := H0.out; omega) (by have := HM1.out; have := HM.out; omega)
      have hseg := Kd.H_seg hH (Int.natCast_nonneg _) h1 (seg := [.int .i64 m1]) (j := 0) (show 0 + 1 ≤ 2 by omega) (by simp [Value.oneCell'])
      rw [Int.toNat_natCast, show wr.setCells g (pre.length * k53.sz + 0) [.int .i64 m1] = wr.setCell ⟨g, pre.length * 2, none⟩ (.int .i64 m1) from rfl, show List.take 0 [Value.int .i64 y.f0, v1] ++ [Value.int .i64 m1] ++ List.drop (0 + [Value.int .i64 m1].length) [Value.int .i64 y.f0, v1] = [.int .i64 m1, v1] from rfl] at hseg
      obtain ⟨hH2, hgr⟩ := hseg
      have hgo : ∀ k, oki k → ok k ∧ k ≠ g := hoki
      have hgok : ok g := by
        have := (Kd.S_R HO.out).1 g rfl
        exact this
      have hB1 : Below w0.heap.size w0 (wr.setCell ⟨g, pre.length * 2, none⟩ (.int .i64 m1)) := below_set HB.out (Nat.le_trans HBB.out hg)
      have hK1 : Kept w (wr.setCell ⟨g, pre.length * 2, none⟩ (.int .i64 m1)) ok := Kept.setCell HK.out (.inl hgok) _
      have hR2 : k43.R 43 (wr.setCell ⟨g, pre.length * 2, none⟩ (.int .i64 m1)) base oki v1 y.f1 := Kd.R_far hR1 (fun k hk => (hoki k hk).2) _
      have x1b : (wr.setCell ⟨g, pre.length * 2, none⟩ (.int .i64 m1)).cell? ⟨g, pre.length * 2 + 1, none⟩ = some v1 := (World.cell?_setCell_other _ _ _ _ (by intro h_; injection h_ with _ h_ _; omega)).trans x1
      have hcall := markValueS_R w0 _ base oki (m1 + 1) (m1 + 1 + (Ax.cntValueS y.f1 : Nat)) v1 y.f1 hB1 HBB.out hR2 (by have := HM1.out; have := H0.out; omega) ⟨rfl, by have := HM1.out; have := HM.out; omega⟩
      obtain ⟨Ai, ci, rfl⟩ := Kd.R_slice hR1
      have HW5 := Aside0.mk hw5
      have HH2 := Aside0.mk hH2
      have HOK := Aside0.mk hoki
      have HK1 := Aside0.mk hK1
      have HR1 := Aside0.mk hR1
      have HC := Aside0.mk hcall
      have HCY := Aside0.mk hcy
      clear hw5 hH2 hoki hK1 hR1 hcall hcy hcc hfr hH hgr hgo hgok hB1 hR2 hcnt hml hlen hcl hg hgl hv2 hMd
      go_wp2_with (first | (go_at_call 10; refine HC.out.mono ?_; clear HC; rintro e w2 ⟨rfl, hR3, hB3, hK3⟩; have HR3 := Aside0.mk hR3; have HB3 := Aside0.mk hB3; have HK3 := Aside0.mk hK3; clear hR3 hB3 hK3))
      go_roundg (post.length + 1)
      case measure => have := HG.out; simp at this; omega
      case rel =>
        have hs1 : ∀ k, some k = (Value.slice Ai y.f1.length ci).ownBlock → oki k := fun k hk => HR1.out.1 k hk.symm
        refine ⟨pre ++ [y], post, _, rfl, ?_, ⟨?_⟩, ⟨?_⟩, ⟨Nat.le_refl _⟩, ⟨?_⟩, ⟨?_⟩, HB3⟩
        · rw [HW5.out]; simp
        · rw [HM1.out]; simp only [Ax.cntRowS, Ax.cntOf_snoc, HCY.out]; omega
        · rw [HL.out]; simp
        · have hb2 := Kd.H_back (Kd.H_kept HH2.out HK3.out (fun k hk hn hs => hn (hs1 k hs))) (x' := Ax.mW y m1) (okp := oki) (k53_mkM _ _ _ (Ax.mW y m1) HR3.out) (fun _ h => h)
          rw [Int.toNat_natCast, HM1.out, Ax.mkOf_set] at hb2
          exact hb2
        · exact HK1.out.then_ HK3.out (fun k hk => .inl (HOK.out k (hs1 k hk)).1)
theorem markRowS (w0 w : World) (lo hi : Nat) (m M : Int) (v : Value) (l : List S53) {q : Nat → Prop} (hB : Below w0.heap.size w0 w) (hlo : w0.heap.size ≤ lo) (o : Iv.Ob k53 53 w lo hi q v l) (h0 : 0 ≤ m) (h1 : m + (Ax.cntRowS l : Nat) = M ∧ M < 9223372036854775807) :
    Calls Try.prog 17 #[v, .int .i64 m] w fun e w' => e = .returned (.int .i64 M) ∧ Iv.Ob k53 53 w' lo hi q v (Ax.mkRowS l m) ∧ Below w0.heap.size w0 w' ∧ Kept w w' (fun k => lo ≤ k ∧ k < hi) := by
  refine (markRowS_S w0 w lo _ m M v l hB hlo (Kd.S_bound o.1) h0 h1).mono ?_
  rintro e w' ⟨rfl, h2, h3, h4⟩
  exact ⟨rfl, ⟨Kd.S_mono h2 (fun k hk => hk.1), Nat.le_trans o.2 h4.1⟩, h3, h4.mono (fun k hk => ⟨hk.2.1, hk.1.1⟩)⟩
end Go.Proofs.Ytmlbihhaikknnaa.Mk

/- How many marks a row of table rows takes. No condition. -/
namespace Go.Proofs.Ytmlbihhaikknnaa.Ax
open Go.RowKit Go.Proofs.Ytmlbihhaikknnaa.Pr Go.Proofs.Ytmlbihhaikknnaa.Pl Go.Proofs.YtmlbihhaikknnaaW.PrintWords Go.Proofs.YtmlbihhaikknnaaW.PrintLast Go.Proofs.YtmlbihhaikknnaaW.PrintMore
set_option linter.unusedVariables false
theorem cntRowS_bd {l : List S49} (h : BdRowS l) : cntRowS (l.map cvRow) ≤ 2199024304128 := by
  have h1 := cnt_le (c := cW) 2097153 (l.map cvRow) (fun x hx => by
    obtain ⟨y, hy, rfl⟩ := List.mem_map.1 hx
    have := (h.2 y hy).1
    have e : (cvRow y).f1.length = y.f1.length := by simp [cvRow]
    simp only [cW, cntValueS, e]
    omega)
  rw [List.length_map] at h1
  exact Nat.le_trans h1 (Nat.mul_le_mul_right 2097153 h.1)
def BdWS (y : List S53) : Prop := y.length ≤ 1048576 ∧ ∀ r ∈ y, r.f1.length ≤ 1048576
theorem ok_WS {y : List S53} (h : BdWS y) : OkRowS y := ⟨by have := h.1; omega, fun r hr => ⟨by have := h.2 r hr; omega, fun _ _ => trivial⟩⟩
theorem cntWS_bd {y : List S53} (h : BdWS y) : cntRowS y ≤ 2199024304128 :=
  Nat.le_trans (cnt_le (c := cW) 2097153 y (fun x hx => by
    have := h.2 x hx
    simp only [cW, cntValueS]
    omega)) (Nat.mul_le_mul_right 2097153 h.1)
end Go.Proofs.Ytmlbihhaikknnaa.Ax

/- The marks in a row of table rows are found again. No condition. -/
namespace Go.Proofs.Ytmlbihhaikknnaa.Ax
open Go.RowKit Go.Proofs.Ytmlbihhaikknnaa.Pr Go.Proofs.Ytmlbihhaikknnaa.Pl Go.Proofs.YtmlbihhaikknnaaW.PrintWords Go.Proofs.YtmlbihhaikknnaaW.PrintLast Go.Proofs.YtmlbihhaikknnaaW.PrintMore
set_option linter.unusedVariables false
theorem heldRowS_l0 (xs : List S53) (hx : xs.length < 9223372036854775807) : ∀ (ys : List S53) (j : Nat) (m : Int), 0 ≤ m → m + (cntRowS ys : Nat) < 9223372036854775807 → xs.drop j = mkRowS ys m →
    Ev (fun k => laws_heldRowS.l0 k xs m (j : Int)) (m + (cntRowS ys : Nat))
  | [], j, m, h0, hb, h => by
    have h1 := drop_nil h
    refine ev_succ ?_
    simp only [laws_heldRowS.l0]
    simp only [if_neg (show ¬ ((j : Int) < (xs.length : Int)) by omega)]
    exact ev_now (by simp [cntOf])
  | y :: ys, j, m, h0, hb, h => by
    rw [mkRowS, mkOf] at h
    obtain ⟨h1, h2, h3⟩ := drop_cons h
    have hc : cntRowS (y :: ys) = 1 + 2 * y.f1.length + cntRowS ys := rfl
    rw [hc] at hb ⊢
    refine ev_succ ?_
    simp only [laws_heldRowS.l0]
    simp only [if_pos (show (j : Int) < (xs.length : Int) by omega), if_pos (show (0 : Int) ≤ (j : Int) by omega)]
    have hrd : rd_T53 xs (j : Int) = mW y m := by
      unfold rd_T53
      rw [Int.toNat_natCast, List.getD_eq_getElem?_getD, h2]
      rfl
    simp only [hrd, mW, mkValueS, if_true, wrap_in (x := m + 1) (by omega) (by omega)]
    refine Ev.bind (heldValueS_ev y.f1.length (m + 1) (by omega) (by omega)) ?_
    simp only [if_neg (show ¬ m + 1 + 2 * (y.f1.length : Int) < 0 by omega), wrap_succ (show j < 9223372036854775807 by omega)]
    have hm : m + ((cW y : Nat) : Int) = m + 1 + 2 * (y.f1.length : Int) := by
      show m + ((1 + 2 * y.f1.length : Nat) : Int) = _
      omega
    rw [hm] at h3
    have := heldRowS_l0 xs hx ys (j + 1) (m + 1 + 2 * (y.f1.length : Int)) (by omega) (by omega) h3
    rwa [show m + 1 + 2 * (y.f1.length : Int) + (cntRowS ys : Nat) = m + ((1 + 2 * y.f1.length + cntRowS ys : Nat) : Int) by omega] at this
theorem heldRowS_ev' (l : List S53) (m : Int) (hl : l.length < 9223372036854775807) (h0 : 0 ≤ m) (hb : m + (cntRowS l : Nat) < 9223372036854775807) : Ev (fun k => laws_heldRowS.f k (mkRowS l m) m) (m + (cntRowS l : Nat)) := by
  simp only [laws_heldRowS.f]
  exact heldRowS_l0 _ (by rw [mkOf_length]; exact hl) l 0 m h0 hb rfl
end Go.Proofs.Ytmlbihhaikknnaa.Ax
