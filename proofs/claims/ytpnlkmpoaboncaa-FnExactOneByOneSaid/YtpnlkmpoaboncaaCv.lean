/- What the laws' own helpers tell: sizes, copies, a comparison of a thing with itself, marks. Written by cv.py. Conditions: lengths that Go can hold. -/
import Derived.Test.YtpnlkmpoaboncaaPr0
import Derived.Test.YtpnlkmpoaboncaaPr1
import Derived.Test.YtpnlkmpoaboncaaPr3
import Derived.Test.YtpnlkmpoaboncaaOps
import Derived.Test.YtpnlkmpoaboncaaPl
namespace Go.Proofs.Ytpnlkmpoaboncaa.Ax
open Go.RowKit Go.Proofs.Ytpnlkmpoaboncaa.Pr Go.Proofs.Ytpnlkmpoaboncaa.Pl Go.Proofs.Ytpnlkmpoaboncaa.Ops Go.Proofs.YtpnlkmpoaboncaaW.PrintWords Go.Proofs.YtpnlkmpoaboncaaW.PrintLast Go.Proofs.YtpnlkmpoaboncaaW.PrintMore
set_option linter.unusedVariables false
set_option linter.unusedSimpArgs false
theorem rd_T46_drop {xs ys : List S46} {j : Nat} {y : S46} (h : xs.drop j = y :: ys) : rd_T46 xs (j : Int) = y := by
  have := (drop_cons h).2.1
  simp [rd_T46, List.getD_eq_getElem?_getD, this]
theorem rd_T46_set {xs : List S46} {j : Nat} {y : S46} (h : j < xs.length) : rd_T46 (xs.set j y) (j : Int) = y := by
  simp [rd_T46, List.getD_eq_getElem?_getD, List.getElem?_set_self h]
theorem rd_T44_drop {xs ys : List S44} {j : Nat} {y : S44} (h : xs.drop j = y :: ys) : rd_T44 xs (j : Int) = y := by
  have := (drop_cons h).2.1
  simp [rd_T44, List.getD_eq_getElem?_getD, this]
theorem rd_T44_set {xs : List S44} {j : Nat} {y : S44} (h : j < xs.length) : rd_T44 (xs.set j y) (j : Int) = y := by
  simp [rd_T44, List.getD_eq_getElem?_getD, List.getElem?_set_self h]
theorem rd_L4_drop {xs ys : List (List S46)} {j : Nat} {y : (List S46)} (h : xs.drop j = y :: ys) : rd_L4 xs (j : Int) = y := by
  have := (drop_cons h).2.1
  simp [rd_L4, List.getD_eq_getElem?_getD, this]
theorem rd_L4_set {xs : List (List S46)} {j : Nat} {y : (List S46)} (h : j < xs.length) : rd_L4 (xs.set j y) (j : Int) = y := by
  simp [rd_L4, List.getD_eq_getElem?_getD, List.getElem?_set_self h]
theorem rd_L5_drop {xs ys : List (List Int)} {j : Nat} {y : (List Int)} (h : xs.drop j = y :: ys) : rd_L5 xs (j : Int) = y := by
  have := (drop_cons h).2.1
  simp [rd_L5, List.getD_eq_getElem?_getD, this]
theorem rd_L5_set {xs : List (List Int)} {j : Nat} {y : (List Int)} (h : j < xs.length) : rd_L5 (xs.set j y) (j : Int) = y := by
  simp [rd_L5, List.getD_eq_getElem?_getD, List.getElem?_set_self h]
def BdInt (n : Int) : Prop := True
def BdIntS (l : List Int) : Prop := l.length ≤ 1048576 ∧ ∀ e ∈ l, BdInt e
def BdIntSS (l : List (List Int)) : Prop := l.length ≤ 1048576 ∧ ∀ e ∈ l, BdIntS e
def OkInt (n : Int) : Prop := True
def OkIntS (l : List Int) : Prop := l.length < 9223372036854775807 ∧ ∀ e ∈ l, OkInt e
def OkIntSS (l : List (List Int)) : Prop := l.length < 9223372036854775807 ∧ ∀ e ∈ l, OkIntS e
theorem ok_IntS {l : List Int} (h : BdIntS l) : OkIntS l := ⟨by have := h.1; omega, fun _ _ => trivial⟩
theorem ok_IntSS {l : List (List Int)} (h : BdIntSS l) : OkIntSS l := ⟨by have := h.1; omega, fun e he => ok_IntS (h.2 e he)⟩
def cvAct (x : S46) : S44 := ⟨x.f0, x.f1, x.f2⟩
def BdAct (x : S46) : Prop := True
def BdActS (l : List S46) : Prop := l.length ≤ 1048576 ∧ ∀ e ∈ l, BdAct e
def OkAct (x : S44) : Prop := True
def OkActS (l : List S44) : Prop := l.length < 9223372036854775807 ∧ ∀ e ∈ l, OkAct e
theorem ok_Act {x : S46} (h : BdAct x) : OkAct (cvAct x) := trivial
theorem ok_ActS {l : List S46} (h : BdActS l) : OkActS (l.map cvAct) := ⟨by have := h.1; simp; omega, fun e he => by obtain ⟨x, hx, rfl⟩ := List.mem_map.1 he; exact ok_Act (h.2 x hx)⟩
theorem toIntS_l0 (xs : (List Int)) (hb : xs.length < 9223372036854775807) : ∀ (ys : (List Int)) (j : Nat) (out : (List Int)), xs.drop j = ys → (∀ e ∈ ys, BdInt e) → j ≤ xs.length → out.length = xs.length → out.take j = xs.take j →
    Ev (fun k => laws_toIntS.l0 k xs out (j : Int)) xs
  | [], j, out, h, hB, hj, ho, hp => by
    have h1 := drop_nil h
    refine ev_succ ?_
    simp only [laws_toIntS.l0]
    simp only [if_neg (show ¬ ((j : Int) < (xs.length : Int)) by omega)]
    refine ev_now ?_
    have e1 : out.take j = out := List.take_of_length_le (by omega)
    have e2 : xs.take j = xs := List.take_of_length_le (by omega)
    rw [← e1, hp, e2]
  | y :: ys, j, out, h, hB, hj, ho, hp => by
    obtain ⟨h1, h2, h3⟩ := drop_cons h
    have hs := set_end (xs := xs) (y := y) h (by rw [ho]) hp
    refine ev_succ ?_
    simp only [laws_toIntS.l0]
    simp only [if_pos (show (j : Int) < (xs.length : Int) by omega), if_pos (show (0 : Int) ≤ (j : Int) by omega), rd_drop h]
    simp only [if_pos (show (j : Int) < (out.length : Int) by omega), wrap_succ (show j < 9223372036854775807 by omega), Int.toNat_natCast]
    exact toIntS_l0 xs hb ys (j + 1) (out.set j y) h3 (fun e he => hB e (by simp [he])) (by omega) (by rw [List.length_set]; exact ho) hs.2
theorem toIntS_ev (xs : (List Int)) (hB : BdIntS xs) : Ev (fun k => laws_toIntS.f k xs) (xs) := by
  have h1 := hB.1
  simp only [laws_toIntS.f]
  simp only [if_pos (show (0 : Int) ≤ (xs.length : Int) by omega), Int.toNat_natCast, if_pos (show xs.length ≤ 35184372088832 by omega)]
  exact toIntS_l0 xs (by omega) xs 0 _ rfl hB.2 (by omega) (by simp) (by simp)
theorem eqIntS_l0 (xs : (List Int)) (hb : xs.length < 9223372036854775807) : ∀ (ys : (List Int)) (j : Nat), xs.drop j = ys → (∀ e ∈ ys, OkInt e) → Ev (fun k => laws_eqIntS.l0 k xs xs (j : Int)) true
  | [], j, h, hO => by
    have h1 := drop_nil h
    refine ev_succ ?_
    simp only [laws_eqIntS.l0]
    simp only [if_neg (show ¬ ((j : Int) < (xs.length : Int)) by omega)]
    exact ev_now rfl
  | y :: ys, j, h, hO => by
    obtain ⟨h1, h2, h3⟩ := drop_cons h
    refine ev_succ ?_
    simp only [laws_eqIntS.l0]
    simp only [if_pos (show (j : Int) < (xs.length : Int) by omega), if_pos (show (0 : Int) ≤ (j : Int) by omega), rd_drop h, wrap_succ (show j < 9223372036854775807 by omega)]
    simp only [if_true]
    exact eqIntS_l0 xs hb ys (j + 1) h3 (fun e he => hO e (by simp [he]))
theorem eqIntS_ev (xs : (List Int)) (hO : OkIntS xs) : Ev (fun k => laws_eqIntS.f k xs xs) true := by
  have h1 := hO.1
  simp only [laws_eqIntS.f]
  simp only [if_true]
  exact eqIntS_l0 xs h1 xs 0 rfl hO.2
theorem szActS_ev (l : (List S46)) (n : Int) (hF : FL46 l) (h0 : 0 ≤ n) (h1 : n ≤ 1048576) : ∃ r, Ev (fun k => laws_szActS.f l n) r ∧ r ≤ 1048576 ∧ (0 ≤ r → BdActS l) := by
  have h2 := hF.1
  simp only [laws_szActS.f]
  rw [wrap_in (by omega) (by omega)]
  by_cases h : n - (l.length : Int) < 0
  · exact ⟨-1, by simp only [if_pos h]; exact ev_now rfl, by omega, fun h => by omega⟩
  · exact ⟨n - l.length, by simp only [if_neg h]; exact ev_now rfl, by omega, fun _ => ⟨by omega, fun _ _ => trivial⟩⟩
theorem toAct_ev (x : S46) (hB : BdAct x) : Ev (fun k => laws_toAct.f x.f0 x.f1 x.f2) ((cvAct x).f0, (cvAct x).f1, (cvAct x).f2) := by
  simp only [laws_toAct.f]
  exact ev_now rfl
theorem toActS_l0 (xs : (List S46)) (hb : xs.length < 9223372036854775807) : ∀ (ys : (List S46)) (j : Nat) (out : (List S44)), xs.drop j = ys → (∀ e ∈ ys, BdAct e) → j ≤ xs.length → out.length = xs.length → out.take j = (xs.map cvAct).take j →
    Ev (fun k => laws_toActS.l0 k xs out (j : Int)) (xs.map cvAct)
  | [], j, out, h, hB, hj, ho, hp => by
    have h1 := drop_nil h
    refine ev_succ ?_
    simp only [laws_toActS.l0]
    simp only [if_neg (show ¬ ((j : Int) < (xs.length : Int)) by omega)]
    refine ev_now ?_
    have e1 : out.take j = out := List.take_of_length_le (by omega)
    have e2 : (xs.map cvAct).take j = xs.map cvAct := List.take_of_length_le (by simp only [List.length_map]; omega)
    rw [← e1, hp, e2]
  | y :: ys, j, out, h, hB, hj, ho, hp => by
    obtain ⟨h1, h2, h3⟩ := drop_cons h
    have hs := set_end (xs := xs.map cvAct) (y := (cvAct y)) (by rw [← List.map_drop, h]; rfl) (by rw [ho, List.length_map]) hp
    refine ev_succ ?_
    simp only [laws_toActS.l0]
    simp only [if_pos (show (j : Int) < (xs.length : Int) by omega), if_pos (show (0 : Int) ≤ (j : Int) by omega), rd_T46_drop h]
    refine Ev.bind (toAct_ev y (hB y (by simp))) ?_
    simp only [if_pos (show (j : Int) < (out.length : Int) by omega), wrap_succ (show j < 9223372036854775807 by omega), Int.toNat_natCast]
    exact toActS_l0 xs hb ys (j + 1) (out.set j (cvAct y)) h3 (fun e he => hB e (by simp [he])) (by omega) (by rw [List.length_set]; exact ho) hs.2
theorem toActS_ev (xs : (List S46)) (hB : BdActS xs) : Ev (fun k => laws_toActS.f k xs) (xs.map cvAct) := by
  have h1 := hB.1
  simp only [laws_toActS.f]
  simp only [if_pos (show (0 : Int) ≤ (xs.length : Int) by omega), Int.toNat_natCast, if_pos (show xs.length ≤ 11728124029610 by omega)]
  exact toActS_l0 xs (by omega) xs 0 _ rfl hB.2 (by omega) (by simp) (by simp)
theorem eqAct_ev (x : S44) (hO : OkAct x) : Ev (fun k => laws_eqAct.f x.f0 x.f1 x.f2 x.f0 x.f1 x.f2) true := by
  simp only [laws_eqAct.f, if_true, bne_self_eq_false, Bool.false_eq_true, if_false]
  exact ev_now rfl
theorem eqActS_l0 (xs : (List S44)) (hb : xs.length < 9223372036854775807) : ∀ (ys : (List S44)) (j : Nat), xs.drop j = ys → (∀ e ∈ ys, OkAct e) → Ev (fun k => laws_eqActS.l0 k xs xs (j : Int)) true
  | [], j, h, hO => by
    have h1 := drop_nil h
    refine ev_succ ?_
    simp only [laws_eqActS.l0]
    simp only [if_neg (show ¬ ((j : Int) < (xs.length : Int)) by omega)]
    exact ev_now rfl
  | y :: ys, j, h, hO => by
    obtain ⟨h1, h2, h3⟩ := drop_cons h
    refine ev_succ ?_
    simp only [laws_eqActS.l0]
    simp only [if_pos (show (j : Int) < (xs.length : Int) by omega), if_pos (show (0 : Int) ≤ (j : Int) by omega), rd_T44_drop h, wrap_succ (show j < 9223372036854775807 by omega)]
    refine Ev.bind (eqAct_ev y (hO y (by simp))) ?_
    simp only [if_true]
    exact eqActS_l0 xs hb ys (j + 1) h3 (fun e he => hO e (by simp [he]))
theorem eqActS_ev (xs : (List S44)) (hO : OkActS xs) : Ev (fun k => laws_eqActS.f k xs xs) true := by
  have h1 := hO.1
  simp only [laws_eqActS.f]
  simp only [if_true]
  exact eqActS_l0 xs h1 xs 0 rfl hO.2
/-- Marked elements. -/
def mkAct : Nat → Int → List S44
  | 0, _ => []
  | n + 1, m => ⟨m, m + 1, (Int.tmod (m + 1 + 1) 3 == 0)⟩ :: mkAct n (m + 1 + 1 + 1)
theorem mkAct_length : ∀ (n : Nat) (m : Int), (mkAct n m).length = n
  | 0, _ => rfl
  | n + 1, m => by rw [mkAct, List.length_cons, mkAct_length n]
theorem mkAct_ok {n : Nat} (m : Int) (h : n < 9223372036854775807) : OkActS (mkAct n m) := ⟨by rw [mkAct_length]; exact h, fun _ _ => trivial⟩
theorem markActS_l0 (n0 : Nat) (hb : n0 < 9223372036854775807) : ∀ (n j : Nat) (m : Int) (pre ys : List S44), 0 ≤ m → m + 3 * n < 9223372036854775807 → ys.length = n → pre.length = j → j + n = n0 →
    Ev (fun k => laws_markActS.l0 k (pre ++ ys) m (j : Int)) (m + 3 * n, pre ++ mkAct n m)
  | 0, j, m, pre, ys, h0, h1, hy, hj, hn => by
    obtain rfl : ys = [] := List.length_eq_zero_iff.1 hy
    refine ev_succ ?_
    simp only [laws_markActS.l0]
    simp only [if_neg (show ¬ ((j : Int) < ((pre ++ []).length : Int)) by simp; omega)]
    exact ev_now (by simp [mkAct])
  | n + 1, j, m, pre, ys, h0, h1, hy, hj, hn => by
    obtain ⟨y, ys, rfl⟩ : ∃ y z, ys = y :: z := by cases ys with | nil => simp at hy | cons a b => exact ⟨a, b, rfl⟩
    have hjl : j < (pre ++ y :: ys).length := by simp; omega
    have hset : ∀ v : S44, (pre ++ y :: ys).set j v = pre ++ v :: ys := fun v => by rw [List.set_append_right _ _ (by omega)]; simp [hj]
    have hset2 : ∀ u v : S44, (pre ++ u :: ys).set j v = pre ++ v :: ys := fun u v => by rw [List.set_append_right _ _ (by omega)]; simp [hj]
    have hrd : ∀ v : S44, rd_T44 (pre ++ v :: ys) (j : Int) = v := fun v => rd_T44_drop (ys := ys) (by rw [← hj, List.drop_left])
    refine ev_succ ?_
    simp only [laws_markActS.l0]
    simp only [if_pos (show (j : Int) < ((pre ++ y :: ys).length : Int) by omega), if_pos (show (0 : Int) ≤ (j : Int) by omega), Int.toNat_natCast, Option.bind_some, hset2, hrd, wrap_succ (show j < 9223372036854775807 by omega), wrap_in (show -9223372036854775808 ≤ m + 1 by omega) (show m + 1 < 9223372036854775808 by omega), wrap_in (show -9223372036854775808 ≤ m + 1 + 1 by omega) (show m + 1 + 1 < 9223372036854775808 by omega), wrap_in (show -9223372036854775808 ≤ m + 1 + 1 + 1 by omega) (show m + 1 + 1 + 1 < 9223372036854775808 by omega)]
    have := markActS_l0 n0 hb n (j + 1) (m + 1 + 1 + 1) (pre ++ [(⟨m, m + 1, (Int.tmod (m + 1 + 1) 3 == 0)⟩ : S44)]) ys (by omega) (by omega) (by simpa using hy) (by simp [hj]) (by omega)
    simp only [List.append_assoc, List.singleton_append] at this
    rw [show m + 1 + 1 + 1 + 3 * (n : Int) = m + 3 * ((n + 1 : Nat) : Int) by omega] at this
    exact this
theorem markActS_ev (xs : List S44) (m : Int) (h0 : 0 ≤ m) (h1 : m + 3 * xs.length < 9223372036854775807) : Ev (fun k => laws_markActS.f k xs m) (m + 3 * xs.length, mkAct xs.length m) := by
  have := markActS_l0 xs.length (by omega) xs.length 0 m [] xs h0 h1 rfl rfl (by omega)
  simpa [laws_markActS.f] using this
theorem heldActS_l0 (xs : List S44) (hb : xs.length < 9223372036854775807) : ∀ (n j : Nat) (m : Int), 0 ≤ m → m + 3 * n < 9223372036854775807 → xs.drop j = mkAct n m → Ev (fun k => laws_heldActS.l0 k xs m (j : Int)) (m + 3 * n)
  | 0, j, m, h0, h1, h => by
    rw [mkAct] at h
    have h2 := drop_nil h
    refine ev_succ ?_
    simp only [laws_heldActS.l0]
    simp only [if_neg (show ¬ ((j : Int) < (xs.length : Int)) by omega)]
    exact ev_now (by simp)
  | n + 1, j, m, h0, h1, h => by
    rw [mkAct] at h
    obtain ⟨h2, h3, h4⟩ := drop_cons h
    refine ev_succ ?_
    simp only [laws_heldActS.l0]
    simp only [if_pos (show (j : Int) < (xs.length : Int) by omega), if_pos (show (0 : Int) ≤ (j : Int) by omega), rd_T44_drop h, wrap_succ (show j < 9223372036854775807 by omega), wrap_in (show -9223372036854775808 ≤ m + 1 by omega) (show m + 1 < 9223372036854775808 by omega), wrap_in (show -9223372036854775808 ≤ m + 1 + 1 by omega) (show m + 1 + 1 < 9223372036854775808 by omega), wrap_in (show -9223372036854775808 ≤ m + 1 + 1 + 1 by omega) (show m + 1 + 1 + 1 < 9223372036854775808 by omega), if_true, bne_self_eq_false, Bool.false_eq_true, if_false]
    have := heldActS_l0 xs hb n (j + 1) (m + 1 + 1 + 1) (by omega) (by omega) h4
    rwa [show m + 1 + 1 + 1 + 3 * (n : Int) = m + 3 * ((n + 1 : Nat) : Int) by omega] at this
theorem heldActS_ev (n : Nat) (m : Int) (h0 : 0 ≤ m) (h1 : m + 3 * n < 9223372036854775807) : Ev (fun k => laws_heldActS.f k (mkAct n m) m) (m + 3 * n) := by
  have := heldActS_l0 (mkAct n m) (by rw [mkAct_length]; omega) n 0 m h0 h1 rfl
  simpa [laws_heldActS.f] using this
end Go.Proofs.Ytpnlkmpoaboncaa.Ax
