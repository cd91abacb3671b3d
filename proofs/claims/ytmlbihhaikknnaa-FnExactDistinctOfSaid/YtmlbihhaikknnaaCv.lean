/- What the laws' own helpers tell: sizes, copies, a comparison of a thing with itself, marks. Written by cv.py. Conditions: lengths that Go can hold. -/
import Derived.Test.YtmlbihhaikknnaaPr0
import Derived.Test.YtmlbihhaikknnaaPr11
import Derived.Test.YtmlbihhaikknnaaPr12
import Derived.Test.YtmlbihhaikknnaaPr2
import Derived.Test.YtmlbihhaikknnaaPr4
import Derived.Test.YtmlbihhaikknnaaPr5
import Derived.Test.YtmlbihhaikknnaaPr6
import Derived.Test.YtmlbihhaikknnaaOps
import Derived.Test.YtmlbihhaikknnaaPl
namespace Go.Proofs.Ytmlbihhaikknnaa.Ax
open Go.RowKit Go.Proofs.Ytmlbihhaikknnaa.Pr Go.Proofs.Ytmlbihhaikknnaa.Pl Go.Proofs.Ytmlbihhaikknnaa.Ops Go.Proofs.YtmlbihhaikknnaaW.PrintWords Go.Proofs.YtmlbihhaikknnaaW.PrintLast Go.Proofs.YtmlbihhaikknnaaW.PrintMore
set_option linter.unusedVariables false
set_option linter.unusedSimpArgs false
theorem rd_T45_drop {xs ys : List S45} {j : Nat} {y : S45} (h : xs.drop j = y :: ys) : rd_T45 xs (j : Int) = y := by
  have := (drop_cons h).2.1
  simp [rd_T45, List.getD_eq_getElem?_getD, this]
theorem rd_T45_set {xs : List S45} {j : Nat} {y : S45} (h : j < xs.length) : rd_T45 (xs.set j y) (j : Int) = y := by
  simp [rd_T45, List.getD_eq_getElem?_getD, List.getElem?_set_self h]
theorem rd_T43_drop {xs ys : List S43} {j : Nat} {y : S43} (h : xs.drop j = y :: ys) : rd_T43 xs (j : Int) = y := by
  have := (drop_cons h).2.1
  simp [rd_T43, List.getD_eq_getElem?_getD, this]
theorem rd_T43_set {xs : List S43} {j : Nat} {y : S43} (h : j < xs.length) : rd_T43 (xs.set j y) (j : Int) = y := by
  simp [rd_T43, List.getD_eq_getElem?_getD, List.getElem?_set_self h]
theorem rd_L4_drop {xs ys : List (List S45)} {j : Nat} {y : (List S45)} (h : xs.drop j = y :: ys) : rd_L4 xs (j : Int) = y := by
  have := (drop_cons h).2.1
  simp [rd_L4, List.getD_eq_getElem?_getD, this]
theorem rd_L4_set {xs : List (List S45)} {j : Nat} {y : (List S45)} (h : j < xs.length) : rd_L4 (xs.set j y) (j : Int) = y := by
  simp [rd_L4, List.getD_eq_getElem?_getD, List.getElem?_set_self h]
theorem rd_T49_drop {xs ys : List S49} {j : Nat} {y : S49} (h : xs.drop j = y :: ys) : rd_T49 xs (j : Int) = y := by
  have := (drop_cons h).2.1
  simp [rd_T49, List.getD_eq_getElem?_getD, this]
theorem rd_T49_set {xs : List S49} {j : Nat} {y : S49} (h : j < xs.length) : rd_T49 (xs.set j y) (j : Int) = y := by
  simp [rd_T49, List.getD_eq_getElem?_getD, List.getElem?_set_self h]
theorem rd_L6_drop {xs ys : List (List S43)} {j : Nat} {y : (List S43)} (h : xs.drop j = y :: ys) : rd_L6 xs (j : Int) = y := by
  have := (drop_cons h).2.1
  simp [rd_L6, List.getD_eq_getElem?_getD, this]
theorem rd_L6_set {xs : List (List S43)} {j : Nat} {y : (List S43)} (h : j < xs.length) : rd_L6 (xs.set j y) (j : Int) = y := by
  simp [rd_L6, List.getD_eq_getElem?_getD, List.getElem?_set_self h]
theorem rd_T53_drop {xs ys : List S53} {j : Nat} {y : S53} (h : xs.drop j = y :: ys) : rd_T53 xs (j : Int) = y := by
  have := (drop_cons h).2.1
  simp [rd_T53, List.getD_eq_getElem?_getD, this]
theorem rd_T53_set {xs : List S53} {j : Nat} {y : S53} (h : j < xs.length) : rd_T53 (xs.set j y) (j : Int) = y := by
  simp [rd_T53, List.getD_eq_getElem?_getD, List.getElem?_set_self h]
theorem rd_L8_drop {xs ys : List (List S49)} {j : Nat} {y : (List S49)} (h : xs.drop j = y :: ys) : rd_L8 xs (j : Int) = y := by
  have := (drop_cons h).2.1
  simp [rd_L8, List.getD_eq_getElem?_getD, this]
theorem rd_L8_set {xs : List (List S49)} {j : Nat} {y : (List S49)} (h : j < xs.length) : rd_L8 (xs.set j y) (j : Int) = y := by
  simp [rd_L8, List.getD_eq_getElem?_getD, List.getElem?_set_self h]
def BdInt (n : Int) : Prop := True
def BdIntS (l : List Int) : Prop := l.length ≤ 1048576 ∧ ∀ e ∈ l, BdInt e
def BdIntSS (l : List (List Int)) : Prop := l.length ≤ 1048576 ∧ ∀ e ∈ l, BdIntS e
def OkInt (n : Int) : Prop := True
def OkIntS (l : List Int) : Prop := l.length < 9223372036854775807 ∧ ∀ e ∈ l, OkInt e
def OkIntSS (l : List (List Int)) : Prop := l.length < 9223372036854775807 ∧ ∀ e ∈ l, OkIntS e
theorem ok_IntS {l : List Int} (h : BdIntS l) : OkIntS l := ⟨by have := h.1; omega, fun _ _ => trivial⟩
theorem ok_IntSS {l : List (List Int)} (h : BdIntSS l) : OkIntSS l := ⟨by have := h.1; omega, fun e he => ok_IntS (h.2 e he)⟩
def cvValue (x : S45) : S43 := ⟨x.f0, x.f1⟩
def BdValue (x : S45) : Prop := True
def BdValueS (l : List S45) : Prop := l.length ≤ 1048576 ∧ ∀ e ∈ l, BdValue e
def OkValue (x : S43) : Prop := True
def OkValueS (l : List S43) : Prop := l.length < 9223372036854775807 ∧ ∀ e ∈ l, OkValue e
theorem ok_Value {x : S45} (h : BdValue x) : OkValue (cvValue x) := trivial
theorem ok_ValueS {l : List S45} (h : BdValueS l) : OkValueS (l.map cvValue) := ⟨by have := h.1; simp; omega, fun e he => by obtain ⟨x, hx, rfl⟩ := List.mem_map.1 he; exact ok_Value (h.2 x hx)⟩
def cvRow (x : S49) : S53 := ⟨x.f0, (x.f1.map cvValue)⟩
def BdRow (x : S49) : Prop := BdValueS x.f1
def BdRowS (l : List S49) : Prop := l.length ≤ 1048576 ∧ ∀ e ∈ l, BdRow e
def OkRow (x : S53) : Prop := OkValueS x.f1
def OkRowS (l : List S53) : Prop := l.length < 9223372036854775807 ∧ ∀ e ∈ l, OkRow e
theorem ok_Row {x : S49} (h : BdRow x) : OkRow (cvRow x) := ok_ValueS h
theorem ok_RowS {l : List S49} (h : BdRowS l) : OkRowS (l.map cvRow) := ⟨by have := h.1; simp; omega, fun e he => by obtain ⟨x, hx, rfl⟩ := List.mem_map.1 he; exact ok_Row (h.2 x hx)⟩
theorem szValueS_ev (l : (List S45)) (n : Int) (hF : FL45 l) (h0 : 0 ≤ n) (h1 : n ≤ 1048576) : ∃ r, Ev (fun k => laws_szValueS.f l n) r ∧ r ≤ 1048576 ∧ (0 ≤ r → BdValueS l) := by
  have h2 := hF.1
  simp only [laws_szValueS.f]
  rw [wrap_in (by omega) (by omega)]
  by_cases h : n - (l.length : Int) < 0
  · exact ⟨-1, by simp only [if_pos h]; exact ev_now rfl, by omega, fun h => by omega⟩
  · exact ⟨n - l.length, by simp only [if_neg h]; exact ev_now rfl, by omega, fun _ => ⟨by omega, fun _ _ => trivial⟩⟩
theorem toValue_ev (x : S45) (hB : BdValue x) : Ev (fun k => laws_toValue.f x.f0 x.f1) ((cvValue x).f0, (cvValue x).f1) := by
  simp only [laws_toValue.f]
  exact ev_now rfl
theorem toValueS_l0 (xs : (List S45)) (hb : xs.length < 9223372036854775807) : ∀ (ys : (List S45)) (j : Nat) (out : (List S43)), xs.drop j = ys → (∀ e ∈ ys, BdValue e) → j ≤ xs.length → out.length = xs.length → out.take j = (xs.map cvValue).take j →
    Ev (fun k => laws_toValueS.l0 k xs out (j : Int)) (xs.map cvValue)
  | [], j, out, h, hB, hj, ho, hp => by
    have h1 := drop_nil h
    refine ev_succ ?_
    simp only [laws_toValueS.l0]
    simp only [if_neg (show ¬ ((j : Int) < (xs.length : Int)) by omega)]
    refine ev_now ?_
    have e1 : out.take j = out := List.take_of_length_le (by omega)
    have e2 : (xs.map cvValue).take j = xs.map cvValue := List.take_of_length_le (by simp only [List.length_map]; omega)
    rw [← e1, hp, e2]
  | y :: ys, j, out, h, hB, hj, ho, hp => by
    obtain ⟨h1, h2, h3⟩ := drop_cons h
    have hs := set_end (xs := xs.map cvValue) (y := (cvValue y)) (by rw [← List.map_drop, h]; rfl) (by rw [ho, List.length_map]) hp
    refine ev_succ ?_
    simp only [laws_toValueS.l0]
    simp only [if_pos (show (j : Int) < (xs.length : Int) by omega), if_pos (show (0 : Int) ≤ (j : Int) by omega), rd_T45_drop h]
    refine Ev.bind (toValue_ev y (hB y (by simp))) ?_
    simp only [if_pos (show (j : Int) < (out.length : Int) by omega), wrap_succ (show j < 9223372036854775807 by omega), Int.toNat_natCast]
    exact toValueS_l0 xs hb ys (j + 1) (out.set j (cvValue y)) h3 (fun e he => hB e (by simp [he])) (by omega) (by rw [List.length_set]; exact ho) hs.2
theorem toValueS_ev (xs : (List S45)) (hB : BdValueS xs) : Ev (fun k => laws_toValueS.f k xs) (xs.map cvValue) := by
  have h1 := hB.1
  simp only [laws_toValueS.f]
  simp only [if_pos (show (0 : Int) ≤ (xs.length : Int) by omega), Int.toNat_natCast, if_pos (show xs.length ≤ 17592186044416 by omega)]
  exact toValueS_l0 xs (by omega) xs 0 _ rfl hB.2 (by omega) (by simp) (by simp)
theorem eqValue_ev (x : S43) (hO : OkValue x) : Ev (fun k => laws_eqValue.f x.f0 x.f1 x.f0 x.f1) true := by
  simp only [laws_eqValue.f, if_true, bne_self_eq_false, Bool.false_eq_true, if_false]
  exact ev_now rfl
theorem eqValueS_l0 (xs : (List S43)) (hb : xs.length < 9223372036854775807) : ∀ (ys : (List S43)) (j : Nat), xs.drop j = ys → (∀ e ∈ ys, OkValue e) → Ev (fun k => laws_eqValueS.l0 k xs xs (j : Int)) true
  | [], j, h, hO => by
    have h1 := drop_nil h
    refine ev_succ ?_
    simp only [laws_eqValueS.l0]
    simp only [if_neg (show ¬ ((j : Int) < (xs.length : Int)) by omega)]
    exact ev_now rfl
  | y :: ys, j, h, hO => by
    obtain ⟨h1, h2, h3⟩ := drop_cons h
    refine ev_succ ?_
    simp only [laws_eqValueS.l0]
    simp only [if_pos (show (j : Int) < (xs.length : Int) by omega), if_pos (show (0 : Int) ≤ (j : Int) by omega), rd_T43_drop h, wrap_succ (show j < 9223372036854775807 by omega)]
    refine Ev.bind (eqValue_ev y (hO y (by simp))) ?_
    simp only [if_true]
    exact eqValueS_l0 xs hb ys (j + 1) h3 (fun e he => hO e (by simp [he]))
theorem eqValueS_ev (xs : (List S43)) (hO : OkValueS xs) : Ev (fun k => laws_eqValueS.f k xs xs) true := by
  have h1 := hO.1
  simp only [laws_eqValueS.f]
  simp only [if_true]
  exact eqValueS_l0 xs h1 xs 0 rfl hO.2
/-- Marked elements. -/
def mkValue : Nat → Int → List S43
  | 0, _ => []
  | n + 1, m => ⟨(Int.tmod (m) 3 == 0), m + 1⟩ :: mkValue n (m + 1 + 1)
theorem mkValue_length : ∀ (n : Nat) (m : Int), (mkValue n m).length = n
  | 0, _ => rfl
  | n + 1, m => by rw [mkValue, List.length_cons, mkValue_length n]
theorem mkValue_ok {n : Nat} (m : Int) (h : n < 9223372036854775807) : OkValueS (mkValue n m) := ⟨by rw [mkValue_length]; exact h, fun _ _ => trivial⟩
theorem markValueS_l0 (n0 : Nat) (hb : n0 < 9223372036854775807) : ∀ (n j : Nat) (m : Int) (pre ys : List S43), 0 ≤ m → m + 2 * n < 9223372036854775807 → ys.length = n → pre.length = j → j + n = n0 →
    Ev (fun k => laws_markValueS.l0 k (pre ++ ys) m (j : Int)) (m + 2 * n, pre ++ mkValue n m)
  | 0, j, m, pre, ys, h0, h1, hy, hj, hn => by
    obtain rfl : ys = [] := List.length_eq_zero_iff.1 hy
    refine ev_succ ?_
    simp only [laws_markValueS.l0]
    simp only [if_neg (show ¬ ((j : Int) < ((pre ++ []).length : Int)) by simp; omega)]
    exact ev_now (by simp [mkValue])
  | n + 1, j, m, pre, ys, h0, h1, hy, hj, hn => by
    obtain ⟨y, ys, rfl⟩ : ∃ y z, ys = y :: z := by cases ys with | nil => simp at hy | cons a b => exact ⟨a, b, rfl⟩
    have hjl : j < (pre ++ y :: ys).length := by simp; omega
    have hset : ∀ v : S43, (pre ++ y :: ys).set j v = pre ++ v :: ys := fun v => by rw [List.set_append_right _ _ (by omega)]; simp [hj]
    have hset2 : ∀ u v : S43, (pre ++ u :: ys).set j v = pre ++ v :: ys := fun u v => by rw [List.set_append_right _ _ (by omega)]; simp [hj]
    have hrd : ∀ v : S43, rd_T43 (pre ++ v :: ys) (j : Int) = v := fun v => rd_T43_drop (ys := ys) (by rw [← hj, List.drop_left])
    refine ev_succ ?_
    simp only [laws_markValueS.l0]
    simp only [if_pos (show (j : Int) < ((pre ++ y :: ys).length : Int) by omega), if_pos (show (0 : Int) ≤ (j : Int) by omega), Int.toNat_natCast, Option.bind_some, hset2, hrd, wrap_succ (show j < 9223372036854775807 by omega), wrap_in (show -9223372036854775808 ≤ m + 1 by omega) (show m + 1 < 9223372036854775808 by omega), wrap_in (show -9223372036854775808 ≤ m + 1 + 1 by omega) (show m + 1 + 1 < 9223372036854775808 by omega)]
    have := markValueS_l0 n0 hb n (j + 1) (m + 1 + 1) (pre ++ [(⟨(Int.tmod (m) 3 == 0), m + 1⟩ : S43)]) ys (by omega) (by omega) (by simpa using hy) (by simp [hj]) (by omega)
    simp only [List.append_assoc, List.singleton_append] at this
    rw [show m + 1 + 1 + 2 * (n : Int) = m + 2 * ((n + 1 : Nat) : Int) by omega] at this
    exact this
theorem markValueS_ev (xs : List S43) (m : Int) (h0 : 0 ≤ m) (h1 : m + 2 * xs.length < 9223372036854775807) : Ev (fun k => laws_markValueS.f k xs m) (m + 2 * xs.length, mkValue xs.length m) := by
  have := markValueS_l0 xs.length (by omega) xs.length 0 m [] xs h0 h1 rfl rfl (by omega)
  simpa [laws_markValueS.f] using this
theorem heldValueS_l0 (xs : List S43) (hb : xs.length < 9223372036854775807) : ∀ (n j : Nat) (m : Int), 0 ≤ m → m + 2 * n < 9223372036854775807 → xs.drop j = mkValue n m → Ev (fun k => laws_heldValueS.l0 k xs m (j : Int)) (m + 2 * n)
  | 0, j, m, h0, h1, h => by
    rw [mkValue] at h
    have h2 := drop_nil h
    refine ev_succ ?_
    simp only [laws_heldValueS.l0]
    simp only [if_neg (show ¬ ((j : Int) < (xs.length : Int)) by omega)]
    exact ev_now (by simp)
  | n + 1, j, m, h0, h1, h => by
    rw [mkValue] at h
    obtain ⟨h2, h3, h4⟩ := drop_cons h
    refine ev_succ ?_
    simp only [laws_heldValueS.l0]
    simp only [if_pos (show (j : Int) < (xs.length : Int) by omega), if_pos (show (0 : Int) ≤ (j : Int) by omega), rd_T43_drop h, wrap_succ (show j < 9223372036854775807 by omega), wrap_in (show -9223372036854775808 ≤ m + 1 by omega) (show m + 1 < 9223372036854775808 by omega), wrap_in (show -9223372036854775808 ≤ m + 1 + 1 by omega) (show m + 1 + 1 < 9223372036854775808 by omega), if_true, bne_self_eq_false, Bool.false_eq_true, if_false]
    have := heldValueS_l0 xs hb n (j + 1) (m + 1 + 1) (by omega) (by omega) h4
    rwa [show m + 1 + 1 + 2 * (n : Int) = m + 2 * ((n + 1 : Nat) : Int) by omega] at this
theorem heldValueS_ev (n : Nat) (m : Int) (h0 : 0 ≤ m) (h1 : m + 2 * n < 9223372036854775807) : Ev (fun k => laws_heldValueS.f k (mkValue n m) m) (m + 2 * n) := by
  have := heldValueS_l0 (mkValue n m) (by rw [mkValue_length]; omega) n 0 m h0 h1 rfl
  simpa [laws_heldValueS.f] using this
theorem toRow_ev (x : S49) (hB : BdRow x) : Ev (fun k => laws_toRow.f k x.f0 x.f1) ((cvRow x).f0, (cvRow x).f1) := by
  simp only [laws_toRow.f]
  refine Ev.bind (toValueS_ev x.f1 hB) ?_
  exact ev_now rfl
theorem toRowS_l0 (xs : (List S49)) (hb : xs.length < 9223372036854775807) : ∀ (ys : (List S49)) (j : Nat) (out : (List S53)), xs.drop j = ys → (∀ e ∈ ys, BdRow e) → j ≤ xs.length → out.length = xs.length → out.take j = (xs.map cvRow).take j →
    Ev (fun k => laws_toRowS.l0 k xs out (j : Int)) (xs.map cvRow)
  | [], j, out, h, hB, hj, ho, hp => by
    have h1 := drop_nil h
    refine ev_succ ?_
    simp only [laws_toRowS.l0]
    simp only [if_neg (show ¬ ((j : Int) < (xs.length : Int)) by omega)]
    refine ev_now ?_
    have e1 : out.take j = out := List.take_of_length_le (by omega)
    have e2 : (xs.map cvRow).take j = xs.map cvRow := List.take_of_length_le (by simp only [List.length_map]; omega)
    rw [← e1, hp, e2]
  | y :: ys, j, out, h, hB, hj, ho, hp => by
    obtain ⟨h1, h2, h3⟩ := drop_cons h
    have hs := set_end (xs := xs.map cvRow) (y := (cvRow y)) (by rw [← List.map_drop, h]; rfl) (by rw [ho, List.length_map]) hp
    refine ev_succ ?_
    simp only [laws_toRowS.l0]
    simp only [if_pos (show (j : Int) < (xs.length : Int) by omega), if_pos (show (0 : Int) ≤ (j : Int) by omega), rd_T49_drop h]
    refine Ev.bind (toRow_ev y (hB y (by simp))) ?_
    simp only [if_pos (show (j : Int) < (out.length : Int) by omega), wrap_succ (show j < 9223372036854775807 by omega), Int.toNat_natCast]
    exact toRowS_l0 xs hb ys (j + 1) (out.set j (cvRow y)) h3 (fun e he => hB e (by simp [he])) (by omega) (by rw [List.length_set]; exact ho) hs.2
theorem toRowS_ev (xs : (List S49)) (hB : BdRowS xs) : Ev (fun k => laws_toRowS.f k xs) (xs.map cvRow) := by
  have h1 := hB.1
  simp only [laws_toRowS.f]
  simp only [if_pos (show (0 : Int) ≤ (xs.length : Int) by omega), Int.toNat_natCast, if_pos (show xs.length ≤ 8796093022208 by omega)]
  exact toRowS_l0 xs (by omega) xs 0 _ rfl hB.2 (by omega) (by simp) (by simp)
theorem eqRow_ev (x : S53) (hO : OkRow x) : Ev (fun k => laws_eqRow.f k x.f0 x.f1 x.f0 x.f1) true := by
  simp only [laws_eqRow.f, if_true, bne_self_eq_false, Bool.false_eq_true, if_false]
  refine Ev.bind (eqValueS_ev x.f1 hO) ?_
  simp only [if_true, bne_self_eq_false, Bool.false_eq_true, if_false]
  exact ev_now rfl
theorem eqRowS_l0 (xs : (List S53)) (hb : xs.length < 9223372036854775807) : ∀ (ys : (List S53)) (j : Nat), xs.drop j = ys → (∀ e ∈ ys, OkRow e) → Ev (fun k => laws_eqRowS.l0 k xs xs (j : Int)) true
  | [], j, h, hO => by
    have h1 := drop_nil h
    refine ev_succ ?_
    simp only [laws_eqRowS.l0]
    simp only [if_neg (show ¬ ((j : Int) < (xs.length : Int)) by omega)]
    exact ev_now rfl
  | y :: ys, j, h, hO => by
    obtain ⟨h1, h2, h3⟩ := drop_cons h
    refine ev_succ ?_
    simp only [laws_eqRowS.l0]
    simp only [if_pos (show (j : Int) < (xs.length : Int) by omega), if_pos (show (0 : Int) ≤ (j : Int) by omega), rd_T53_drop h, wrap_succ (show j < 9223372036854775807 by omega)]
    refine Ev.bind (eqRow_ev y (hO y (by simp))) ?_
    simp only [if_true]
    exact eqRowS_l0 xs hb ys (j + 1) h3 (fun e he => hO e (by simp [he]))
theorem eqRowS_ev (xs : (List S53)) (hO : OkRowS xs) : Ev (fun k => laws_eqRowS.f k xs xs) true := by
  have h1 := hO.1
  simp only [laws_eqRowS.f]
  simp only [if_true]
  exact eqRowS_l0 xs h1 xs 0 rfl hO.2
end Go.Proofs.Ytmlbihhaikknnaa.Ax
