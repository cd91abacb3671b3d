/- What the laws' own helpers tell: sizes, copies, a comparison of a thing with itself, marks. Written by cv.py. Conditions: lengths that Go can hold. -/
import Derived.Test.YtlknbopddalinaaPr0
import Derived.Test.YtlknbopddalinaaPr1
import Derived.Test.YtlknbopddalinaaPr2
import Derived.Test.YtlknbopddalinaaPr5
import Derived.Test.YtlknbopddalinaaPr7
import Derived.Test.YtlknbopddalinaaOps
import Derived.Test.YtlknbopddalinaaPl
namespace Go.Proofs.Ytlknbopddalinaa.Ax
open Go.RowKit Go.Proofs.Ytlknbopddalinaa.Pr Go.Proofs.Ytlknbopddalinaa.Pl Go.Proofs.Ytlknbopddalinaa.Ops Go.Proofs.YtlknbopddalinaaW.PrintWords Go.Proofs.YtlknbopddalinaaW.PrintLast Go.Proofs.YtlknbopddalinaaW.PrintMore
set_option linter.unusedVariables false
set_option linter.unusedSimpArgs false
theorem rd_L1_drop {xs ys : List (List Int)} {j : Nat} {y : (List Int)} (h : xs.drop j = y :: ys) : rd_L1 xs (j : Int) = y := by
  have := (drop_cons h).2.1
  simp [rd_L1, List.getD_eq_getElem?_getD, this]
theorem rd_L1_set {xs : List (List Int)} {j : Nat} {y : (List Int)} (h : j < xs.length) : rd_L1 (xs.set j y) (j : Int) = y := by
  simp [rd_L1, List.getD_eq_getElem?_getD, List.getElem?_set_self h]
theorem rd_L2_drop {xs ys : List (List (List Int))} {j : Nat} {y : (List (List Int))} (h : xs.drop j = y :: ys) : rd_L2 xs (j : Int) = y := by
  have := (drop_cons h).2.1
  simp [rd_L2, List.getD_eq_getElem?_getD, this]
theorem rd_L2_set {xs : List (List (List Int))} {j : Nat} {y : (List (List Int))} (h : j < xs.length) : rd_L2 (xs.set j y) (j : Int) = y := by
  simp [rd_L2, List.getD_eq_getElem?_getD, List.getElem?_set_self h]
theorem rd_T30_drop {xs ys : List S30} {j : Nat} {y : S30} (h : xs.drop j = y :: ys) : rd_T30 xs (j : Int) = y := by
  have := (drop_cons h).2.1
  simp [rd_T30, List.getD_eq_getElem?_getD, this]
theorem rd_T30_set {xs : List S30} {j : Nat} {y : S30} (h : j < xs.length) : rd_T30 (xs.set j y) (j : Int) = y := by
  simp [rd_T30, List.getD_eq_getElem?_getD, List.getElem?_set_self h]
theorem rd_T39_drop {xs ys : List S39} {j : Nat} {y : S39} (h : xs.drop j = y :: ys) : rd_T39 xs (j : Int) = y := by
  have := (drop_cons h).2.1
  simp [rd_T39, List.getD_eq_getElem?_getD, this]
theorem rd_T39_set {xs : List S39} {j : Nat} {y : S39} (h : j < xs.length) : rd_T39 (xs.set j y) (j : Int) = y := by
  simp [rd_T39, List.getD_eq_getElem?_getD, List.getElem?_set_self h]
def BdInt (n : Int) : Prop := True
def BdIntS (l : List Int) : Prop := l.length ≤ 1048576 ∧ ∀ e ∈ l, BdInt e
def BdIntSS (l : List (List Int)) : Prop := l.length ≤ 1048576 ∧ ∀ e ∈ l, BdIntS e
def OkInt (n : Int) : Prop := True
def OkIntS (l : List Int) : Prop := l.length < 9223372036854775807 ∧ ∀ e ∈ l, OkInt e
def OkIntSS (l : List (List Int)) : Prop := l.length < 9223372036854775807 ∧ ∀ e ∈ l, OkIntS e
theorem ok_IntS {l : List Int} (h : BdIntS l) : OkIntS l := ⟨by have := h.1; omega, fun _ _ => trivial⟩
theorem ok_IntSS {l : List (List Int)} (h : BdIntSS l) : OkIntSS l := ⟨by have := h.1; omega, fun e he => ok_IntS (h.2 e he)⟩
structure ILocks where
  f0 : (List (List Int))
  f1 : (List Int)
  f2 : (List Int)
def cvLocks (x : S30) : ILocks := ⟨x.f0, x.f1, x.f2⟩
def BdLocks (x : S30) : Prop := BdIntSS x.f0 ∧ BdIntS x.f1 ∧ BdIntS x.f2
def BdLocksS (l : List S30) : Prop := l.length ≤ 1048576 ∧ ∀ e ∈ l, BdLocks e
def OkLocks (x : ILocks) : Prop := OkIntSS x.f0 ∧ OkIntS x.f1 ∧ OkIntS x.f2
def OkLocksS (l : List ILocks) : Prop := l.length < 9223372036854775807 ∧ ∀ e ∈ l, OkLocks e
theorem ok_Locks {x : S30} (h : BdLocks x) : OkLocks (cvLocks x) := ⟨ok_IntSS h.1, ok_IntS h.2.1, ok_IntS h.2.2⟩
theorem ok_LocksS {l : List S30} (h : BdLocksS l) : OkLocksS (l.map cvLocks) := ⟨by have := h.1; simp; omega, fun e he => by obtain ⟨x, hx, rfl⟩ := List.mem_map.1 he; exact ok_Locks (h.2 x hx)⟩
structure IAsk where
  f0 : Int
  f1 : Int
  f2 : Bool
  f3 : Bool
def cvAsk (x : S39) : IAsk := ⟨x.f0, x.f1, x.f2, x.f3⟩
def BdAsk (x : S39) : Prop := True
def BdAskS (l : List S39) : Prop := l.length ≤ 1048576 ∧ ∀ e ∈ l, BdAsk e
def OkAsk (x : IAsk) : Prop := True
def OkAskS (l : List IAsk) : Prop := l.length < 9223372036854775807 ∧ ∀ e ∈ l, OkAsk e
theorem ok_Ask {x : S39} (h : BdAsk x) : OkAsk (cvAsk x) := trivial
theorem ok_AskS {l : List S39} (h : BdAskS l) : OkAskS (l.map cvAsk) := ⟨by have := h.1; simp; omega, fun e he => by obtain ⟨x, hx, rfl⟩ := List.mem_map.1 he; exact ok_Ask (h.2 x hx)⟩
theorem szIntS_ev (l : (List Int)) (n : Int) (hF : FLii64 l) (h0 : 0 ≤ n) (h1 : n ≤ 1048576) : ∃ r, Ev (fun k => laws_szIntS.f l n) r ∧ r ≤ 1048576 ∧ (0 ≤ r → BdIntS l) := by
  have h2 := hF.1
  simp only [laws_szIntS.f]
  rw [wrap_in (by omega) (by omega)]
  by_cases h : n - (l.length : Int) < 0
  · exact ⟨-1, by simp only [if_pos h]; exact ev_now rfl, by omega, fun h => by omega⟩
  · exact ⟨n - l.length, by simp only [if_neg h]; exact ev_now rfl, by omega, fun _ => ⟨by omega, fun _ _ => trivial⟩⟩
theorem szIntSS_l0 (xs : (List (List Int))) (hb : xs.length < 9223372036854775807) : ∀ (ys : (List (List Int))) (j : Nat) (n : Int), xs.drop j = ys → (∀ e ∈ ys, FLii64 e) → 0 ≤ n → n ≤ 1048576 → ∃ r, Ev (fun k => laws_szIntSS.l0 k xs n (j : Int)) r ∧ r ≤ 1048576 ∧ (0 ≤ r → ∀ e ∈ ys, BdIntS e)
  | [], j, n, h, hF, h0, h1 => by
    have h2 := drop_nil h
    refine ⟨n, ev_succ ?_, h1, fun _ e he => absurd he (by simp)⟩
    simp only [laws_szIntSS.l0]
    simp only [if_neg (show ¬ ((j : Int) < (xs.length : Int)) by omega)]
    exact ev_now rfl
  | y :: ys, j, n, h, hF, h0, h1 => by
    obtain ⟨h2, h3, h4⟩ := drop_cons h
    obtain ⟨r1, e1, l1, b1⟩ := szIntS_ev y n (hF y (by simp)) h0 h1
    by_cases hr : r1 < 0
    · refine ⟨-1, ev_succ ?_, by omega, fun h => by omega⟩
      simp only [laws_szIntSS.l0]
      simp only [if_pos (show (j : Int) < (xs.length : Int) by omega), if_pos (show (0 : Int) ≤ (j : Int) by omega), rd_L1_drop h]
      refine Ev.bind e1 ?_
      simp only [if_pos hr]
      exact ev_now rfl
    · obtain ⟨r2, e2, l2, b2⟩ := szIntSS_l0 xs hb ys (j + 1) r1 h4 (fun e he => hF e (by simp [he])) (by omega) l1
      refine ⟨r2, ev_succ ?_, l2, fun h e he => ?_⟩
      · simp only [laws_szIntSS.l0]
        simp only [if_pos (show (j : Int) < (xs.length : Int) by omega), if_pos (show (0 : Int) ≤ (j : Int) by omega), rd_L1_drop h]
        refine Ev.bind e1 ?_
        simp only [if_neg hr, wrap_succ (show j < 9223372036854775807 by omega)]
        exact e2
      · rcases List.mem_cons.1 he with rfl | he
        · exact b1 (by omega)
        · exact b2 h e he
theorem szIntSS_ev (l : (List (List Int))) (n : Int) (hF : FLLii64 l) (h0 : 0 ≤ n) (h1 : n ≤ 1048576) : ∃ r, Ev (fun k => laws_szIntSS.f k l n) r ∧ r ≤ 1048576 ∧ (0 ≤ r → BdIntSS l) := by
  have h2 := hF.1
  simp only [laws_szIntSS.f]
  rw [wrap_in (by omega) (by omega)]
  by_cases h : n - (l.length : Int) < 0
  · exact ⟨-1, by simp only [if_pos h]; exact ev_now rfl, by omega, fun h => by omega⟩
  · obtain ⟨r, e, l1, b⟩ := szIntSS_l0 l (by omega) l 0 (n - l.length) rfl hF.2 (by omega) (by omega)
    exact ⟨r, by simp only [if_neg h]; exact e, l1, fun h => ⟨by omega, b h⟩⟩
theorem toIntS_l0 (xs : (List Int)) (hb : xs.length < 9223372036854775807) : ∀ (ys : (List Int)) (j : Nat) (out : (List Int)), xs.drop j = ys → (∀ e ∈ ys, BdInt e) → j ≤ xs.length → out.length = xs.length → out.take j = xs.take j →
    Ev (fun k => laws_toIntS.l0 k xs out (j : Int)) xs
  | [], j, out, h, hB, hj, ho, hp => by
    have h1 := drop_nil h
    refine ev_succ ?_
    simp only [laws_toIntS.l0]
    simp only [if_neg (show ¬ ((j : Int) < (xs.length : Int)) by omega)]
    refine ev_now ?_
    have e1 : out.take j = out := List.take_of_length_le (by omega)
    have e2 : xs.take j = xs := List.take_of_length_le (by omega)
    rw [← e1, hp, e2]
  | y :: ys, j, out, h, hB, hj, ho, hp => by
    obtain ⟨h1, h2, h3⟩ := drop_cons h
    have hs := set_end (xs := xs) (y := y) h (by rw [ho]) hp
    refine ev_succ ?_
    simp only [laws_toIntS.l0]
    simp only [if_pos (show (j : Int) < (xs.length : Int) by omega), if_pos (show (0 : Int) ≤ (j : Int) by omega), rd_drop h]
    simp only [if_pos (show (j : Int) < (out.length : Int) by omega), wrap_succ (show j < 9223372036854775807 by omega), Int.toNat_natCast]
    exact toIntS_l0 xs hb ys (j + 1) (out.set j y) h3 (fun e he => hB e (by simp [he])) (by omega) (by rw [List.length_set]; exact ho) hs.2
theorem toIntS_ev (xs : (List Int)) (hB : BdIntS xs) : Ev (fun k => laws_toIntS.f k xs) (xs) := by
  have h1 := hB.1
  simp only [laws_toIntS.f]
  simp only [if_pos (show (0 : Int) ≤ (xs.length : Int) by omega), Int.toNat_natCast, if_pos (show xs.length ≤ 35184372088832 by omega)]
  exact toIntS_l0 xs (by omega) xs 0 _ rfl hB.2 (by omega) (by simp) (by simp)
theorem toIntSS_l0 (xs : (List (List Int))) (hb : xs.length < 9223372036854775807) : ∀ (ys : (List (List Int))) (j : Nat) (out : (List (List Int))), xs.drop j = ys → (∀ e ∈ ys, BdIntS e) → j ≤ xs.length → out.length = xs.length → out.take j = xs.take j →
    Ev (fun k => laws_toIntSS.l0 k xs out (j : Int)) xs
  | [], j, out, h, hB, hj, ho, hp => by
    have h1 := drop_nil h
    refine ev_succ ?_
    simp only [laws_toIntSS.l0]
    simp only [if_neg (show ¬ ((j : Int) < (xs.length : Int)) by omega)]
    refine ev_now ?_
    have e1 : out.take j = out := List.take_of_length_le (by omega)
    have e2 : xs.take j = xs := List.take_of_length_le (by omega)
    rw [← e1, hp, e2]
  | y :: ys, j, out, h, hB, hj, ho, hp => by
    obtain ⟨h1, h2, h3⟩ := drop_cons h
    have hs := set_end (xs := xs) (y := y) h (by rw [ho]) hp
    refine ev_succ ?_
    simp only [laws_toIntSS.l0]
    simp only [if_pos (show (j : Int) < (xs.length : Int) by omega), if_pos (show (0 : Int) ≤ (j : Int) by omega), rd_L1_drop h]
    refine Ev.bind (toIntS_ev y (hB y (by simp))) ?_
    simp only [if_pos (show (j : Int) < (out.length : Int) by omega), wrap_succ (show j < 9223372036854775807 by omega), Int.toNat_natCast]
    exact toIntSS_l0 xs hb ys (j + 1) (out.set j y) h3 (fun e he => hB e (by simp [he])) (by omega) (by rw [List.length_set]; exact ho) hs.2
theorem toIntSS_ev (xs : (List (List Int))) (hB : BdIntSS xs) : Ev (fun k => laws_toIntSS.f k xs) (xs) := by
  have h1 := hB.1
  simp only [laws_toIntSS.f]
  simp only [if_pos (show (0 : Int) ≤ (xs.length : Int) by omega), Int.toNat_natCast, if_pos (show xs.length ≤ 11728124029610 by omega)]
  exact toIntSS_l0 xs (by omega) xs 0 _ rfl hB.2 (by omega) (by simp) (by simp)
theorem eqIntS_l0 (xs : (List Int)) (hb : xs.length < 9223372036854775807) : ∀ (ys : (List Int)) (j : Nat), xs.drop j = ys → (∀ e ∈ ys, OkInt e) → Ev (fun k => laws_eqIntS.l0 k xs xs (j : Int)) true
  | [], j, h, hO => by
    have h1 := drop_nil h
    refine ev_succ ?_
    simp only [laws_eqIntS.l0]
    simp only [if_neg (show ¬ ((j : Int) < (xs.length : Int)) by omega)]
    exact ev_now rfl
  | y :: ys, j, h, hO => by
    obtain ⟨h1, h2, h3⟩ := drop_cons h
    refine ev_succ ?_
    simp only [laws_eqIntS.l0]
    simp only [if_pos (show (j : Int) < (xs.length : Int) by omega), if_pos (show (0 : Int) ≤ (j : Int) by omega), rd_drop h, wrap_succ (show j < 9223372036854775807 by omega)]
    simp only [if_true]
    exact eqIntS_l0 xs hb ys (j + 1) h3 (fun e he => hO e (by simp [he]))
theorem eqIntS_ev (xs : (List Int)) (hO : OkIntS xs) : Ev (fun k => laws_eqIntS.f k xs xs) true := by
  have h1 := hO.1
  simp only [laws_eqIntS.f]
  simp only [if_true]
  exact eqIntS_l0 xs h1 xs 0 rfl hO.2
theorem eqIntSS_l0 (xs : (List (List Int))) (hb : xs.length < 9223372036854775807) : ∀ (ys : (List (List Int))) (j : Nat), xs.drop j = ys → (∀ e ∈ ys, OkIntS e) → Ev (fun k => laws_eqIntSS.l0 k xs xs (j : Int)) true
  | [], j, h, hO => by
    have h1 := drop_nil h
    refine ev_succ ?_
    simp only [laws_eqIntSS.l0]
    simp only [if_neg (show ¬ ((j : Int) < (xs.length : Int)) by omega)]
    exact ev_now rfl
  | y :: ys, j, h, hO => by
    obtain ⟨h1, h2, h3⟩ := drop_cons h
    refine ev_succ ?_
    simp only [laws_eqIntSS.l0]
    simp only [if_pos (show (j : Int) < (xs.length : Int) by omega), if_pos (show (0 : Int) ≤ (j : Int) by omega), rd_L1_drop h, wrap_succ (show j < 9223372036854775807 by omega)]
    refine Ev.bind (eqIntS_ev y (hO y (by simp))) ?_
    simp only [if_true]
    exact eqIntSS_l0 xs hb ys (j + 1) h3 (fun e he => hO e (by simp [he]))
theorem eqIntSS_ev (xs : (List (List Int))) (hO : OkIntSS xs) : Ev (fun k => laws_eqIntSS.f k xs xs) true := by
  have h1 := hO.1
  simp only [laws_eqIntSS.f]
  simp only [if_true]
  exact eqIntSS_l0 xs h1 xs 0 rfl hO.2
theorem szLocks_ev (x : S30) (n : Int) (hF : F30 x) (h0 : 0 ≤ n) (h1 : n ≤ 1048576) : ∃ r, Ev (fun k => laws_szLocks.f k x.f0 x.f1 x.f2 n) r ∧ r ≤ 1048576 ∧ (0 ≤ r → BdLocks x) := by
  simp only [laws_szLocks.f]
  obtain ⟨r0, e0, l0, b0⟩ := szIntSS_ev x.f0 n hF.1 h0 h1
  by_cases c0 : r0 < 0
  · refine ⟨-1, ?_, by omega, fun h => by omega⟩
    refine Ev.bind e0 ?_
    simp only [if_pos c0]
    exact ev_now rfl
  obtain ⟨r1, e1, l1, b1⟩ := szIntS_ev x.f1 r0 hF.2.1 (by omega) l0
  by_cases c1 : r1 < 0
  · refine ⟨-1, ?_, by omega, fun h => by omega⟩
    refine Ev.bind e0 ?_
    simp only [if_neg c0]
    refine Ev.bind e1 ?_
    simp only [if_pos c1]
    exact ev_now rfl
  obtain ⟨r2, e2, l2, b2⟩ := szIntS_ev x.f2 r1 hF.2.2 (by omega) l1
  by_cases c2 : r2 < 0
  · refine ⟨-1, ?_, by omega, fun h => by omega⟩
    refine Ev.bind e0 ?_
    simp only [if_neg c0]
    refine Ev.bind e1 ?_
    simp only [if_neg c1]
    refine Ev.bind e2 ?_
    simp only [if_pos c2]
    exact ev_now rfl
  refine ⟨r2, ?_, l2, fun h => ⟨b0 (by omega), b1 (by omega), b2 (by omega)⟩⟩
  refine Ev.bind e0 ?_
  simp only [if_neg c0]
  refine Ev.bind e1 ?_
  simp only [if_neg c1]
  refine Ev.bind e2 ?_
  simp only [if_neg c2]
  exact ev_now rfl
theorem toLocks_ev (x : S30) (hB : BdLocks x) : Ev (fun k => laws_toLocks.f k x.f0 x.f1 x.f2) ((cvLocks x).f0, (cvLocks x).f1, (cvLocks x).f2) := by
  simp only [laws_toLocks.f]
  refine Ev.bind (toIntSS_ev x.f0 hB.1) ?_
  refine Ev.bind (toIntS_ev x.f1 hB.2.1) ?_
  refine Ev.bind (toIntS_ev x.f2 hB.2.2) ?_
  exact ev_now rfl
theorem eqLocks_ev (x : ILocks) (hO : OkLocks x) : Ev (fun k => laws_eqLocks.f k x.f0 x.f1 x.f2 x.f0 x.f1 x.f2) true := by
  simp only [laws_eqLocks.f, if_true, bne_self_eq_false, Bool.false_eq_true, if_false]
  refine Ev.bind (eqIntSS_ev x.f0 hO.1) ?_
  simp only [if_true, bne_self_eq_false, Bool.false_eq_true, if_false]
  refine Ev.bind (eqIntS_ev x.f1 hO.2.1) ?_
  simp only [if_true, bne_self_eq_false, Bool.false_eq_true, if_false]
  refine Ev.bind (eqIntS_ev x.f2 hO.2.2) ?_
  simp only [if_true, bne_self_eq_false, Bool.false_eq_true, if_false]
  exact ev_now rfl
theorem toAsk_ev (x : S39) (hB : BdAsk x) : Ev (fun k => laws_toAsk.f x.f0 x.f1 x.f2 x.f3) ((cvAsk x).f0, (cvAsk x).f1, (cvAsk x).f2, (cvAsk x).f3) := by
  simp only [laws_toAsk.f]
  exact ev_now rfl
end Go.Proofs.Ytlknbopddalinaa.Ax
