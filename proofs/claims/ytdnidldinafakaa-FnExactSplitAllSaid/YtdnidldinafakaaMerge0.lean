/- Several small texts together: Am, Cv, A5, ACl, A60, A6, A6l, MkA, MkB, MkBSS, MkI, MkD0, MkBDep, MkDS, MkBDepS. No condition but those they name. -/
import Derived.Test.YtdnidldinafakaaPr7
import Derived.Test.YtdnidldinafakaaMx3
import Derived.Test.YtdnidldinafakaaPr0
import Derived.Test.YtdnidldinafakaaMx5
import Derived.Test.YtdnidldinafakaaEGoodDeps
import Derived.Test.YtdnidldinafakaaPr5
import Derived.Test.YtdnidldinafakaaPr8
import Derived.Test.YtdnidldinafakaaAc
import Derived.Test.YtdnidldinafakaaMx8
import Derived.Test.YtdnidldinafakaaEHasAll
import Derived.Test.YtdnidldinafakaaPr1
import Derived.Test.YtdnidldinafakaaEBoth
import Derived.Test.YtdnidldinafakaaEWithout
import Derived.Test.YtdnidldinafakaaIv
import Derived.Test.YtdnidldinafakaaEToDepSA
/- What the marks in a list of numbers tell. Conditions: marks that Go can hold. -/
namespace Go.Proofs.Ytdnidldinafakaa.Ax
open Go.RowKit Go.Proofs.Ytdnidldinafakaa.Pr Go.Proofs.Ytdnidldinafakaa.Pl Go.Proofs.YtdnidldinafakaaW.PrintWords Go.Proofs.YtdnidldinafakaaW.PrintLast Go.Proofs.YtdnidldinafakaaW.PrintMore
set_option linter.unusedVariables false
set_option linter.unusedSimpArgs false
def mkL : Nat → Int → List Int
  | 0, _ => []
  | n + 1, k => k :: mkL n (k + 1)
theorem mkL_length : ∀ (n : Nat) (k : Int), (mkL n k).length = n
  | 0, _ => rfl
  | n + 1, k => by rw [mkL, List.length_cons, mkL_length n]
theorem mkL_snoc : ∀ (n : Nat) (k : Int), mkL (n + 1) k = mkL n k ++ [k + n]
  | 0, k => by simp [mkL]
  | n + 1, k => by
    rw [mkL, mkL_snoc n (k + 1), mkL]
    simp
    omega
theorem markIntS_l0 (n : Nat) (k0 : Int) (h0 : 0 ≤ k0) (hb : k0 + n < 9223372036854775807) : ∀ (d j : Nat) (xs : List Int), xs.length = n → n - j = d → j ≤ n → xs.take j = mkL j k0 →
    Ev (fun k => laws_markIntS.l0 k xs (k0 + j) (j : Int)) (k0 + n, mkL n k0)
  | 0, j, xs, hl, hd, hj, hp => by
    obtain rfl : j = n := by omega
    refine ev_succ ?_
    simp only [laws_markIntS.l0]
    simp only [if_neg (show ¬ ((j : Int) < (xs.length : Int)) by omega)]
    refine ev_now ?_
    rw [← hp, List.take_of_length_le (by omega)]
  | d + 1, j, xs, hl, hd, hj, hp => by
    refine ev_succ ?_
    simp only [laws_markIntS.l0]
    simp only [if_pos (show (j : Int) < (xs.length : Int) by omega), if_pos (show (0 : Int) ≤ (j : Int) by omega), wrap_succ (show j < 9223372036854775807 by omega), wrap_in (show -9223372036854775808 ≤ k0 + j + 1 by omega) (show k0 + j + 1 < 9223372036854775808 by omega), Int.toNat_natCast]
    have := markIntS_l0 n k0 h0 hb d (j + 1) (xs.set j (k0 + j)) (by simpa using hl) (by omega) (by omega) (by
      rw [mkL_snoc, List.take_add_one, List.getElem?_set_self (by omega), List.take_set_of_le (Nat.le_refl _), hp]
      rfl)
    rwa [show k0 + ((j + 1 : Nat) : Int) = k0 + j + 1 by omega] at this
theorem markIntS_ev (xs : List Int) (k0 : Int) (h0 : 0 ≤ k0) (hb : k0 + xs.length < 9223372036854775807) : Ev (fun k => laws_markIntS.f k xs k0) (k0 + xs.length, mkL xs.length k0) := by
  have := markIntS_l0 xs.length k0 h0 hb xs.length 0 xs rfl (by omega) (by omega) rfl
  simpa [laws_markIntS.f] using this
theorem heldIntS_l0 (xs : List Int) (hx : xs.length < 9223372036854775807) (n : Nat) : ∀ (j : Nat) (k0 : Int), 0 ≤ k0 → k0 + n < 9223372036854775807 → xs.drop j = mkL n k0 →
    Ev (fun k => laws_heldIntS.l0 k xs k0 (j : Int)) (k0 + n) := by
  induction n with
  | zero =>
    intro j k0 h0 hb h
    rw [mkL] at h
    have h1 := drop_nil h
    refine ev_succ ?_
    simp only [laws_heldIntS.l0]
    simp only [if_neg (show ¬ ((j : Int) < (xs.length : Int)) by omega)]
    exact ev_now (by simp)
  | succ n ih =>
    intro j k0 h0 hb h
    rw [mkL] at h
    obtain ⟨h1, h2, h3⟩ := drop_cons h
    refine ev_succ ?_
    simp only [laws_heldIntS.l0]
    simp only [if_pos (show (j : Int) < (xs.length : Int) by omega), if_pos (show (0 : Int) ≤ (j : Int) by omega), rd_drop h, if_true, wrap_succ (show j < 9223372036854775807 by omega), wrap_in (show -9223372036854775808 ≤ k0 + 1 by omega) (show k0 + 1 < 9223372036854775808 by omega)]
    have := ih (j + 1) (k0 + 1) (by omega) (by omega) h3
    rwa [show k0 + 1 + (n : Int) = k0 + ((n + 1 : Nat) : Int) by omega] at this
theorem heldIntS_ev (n : Nat) (k0 : Int) (h0 : 0 ≤ k0) (hb : k0 + n < 9223372036854775807) : Ev (fun k => laws_heldIntS.f k (mkL n k0) k0) (k0 + n) := by
  have := heldIntS_l0 (mkL n k0) (by rw [mkL_length]; omega) n 0 k0 h0 hb rfl
  simpa [laws_heldIntS.f] using this
end Go.Proofs.Ytdnidldinafakaa.Ax

/- What the laws' own helpers tell: sizes, copies, a comparison of a thing with itself, marks. Written by cv.py. Conditions: lengths that Go can hold. -/
namespace Go.Proofs.Ytdnidldinafakaa.Ax
open Go.RowKit Go.Proofs.Ytdnidldinafakaa.Pr Go.Proofs.Ytdnidldinafakaa.Pl Go.Proofs.Ytdnidldinafakaa.Ops Go.Proofs.YtdnidldinafakaaW.PrintWords Go.Proofs.YtdnidldinafakaaW.PrintLast Go.Proofs.YtdnidldinafakaaW.PrintMore
set_option linter.unusedVariables false
set_option linter.unusedSimpArgs false
theorem rd_L1_drop {xs ys : List (List Int)} {j : Nat} {y : (List Int)} (h : xs.drop j = y :: ys) : rd_L1 xs (j : Int) = y := by
  have := (drop_cons h).2.1
  simp [rd_L1, List.getD_eq_getElem?_getD, this]
theorem rd_T42_drop {xs ys : List S42} {j : Nat} {y : S42} (h : xs.drop j = y :: ys) : rd_T42 xs (j : Int) = y := by
  have := (drop_cons h).2.1
  simp [rd_T42, List.getD_eq_getElem?_getD, this]
theorem rd_T39_drop {xs ys : List S39} {j : Nat} {y : S39} (h : xs.drop j = y :: ys) : rd_T39 xs (j : Int) = y := by
  have := (drop_cons h).2.1
  simp [rd_T39, List.getD_eq_getElem?_getD, this]
def BdInt (n : Int) : Prop := True
def BdIntS (l : List Int) : Prop := l.length ≤ 1048576 ∧ ∀ e ∈ l, BdInt e
def BdIntSS (l : List (List Int)) : Prop := l.length ≤ 1048576 ∧ ∀ e ∈ l, BdIntS e
def OkInt (n : Int) : Prop := True
def OkIntS (l : List Int) : Prop := l.length < 9223372036854775807 ∧ ∀ e ∈ l, OkInt e
def OkIntSS (l : List (List Int)) : Prop := l.length < 9223372036854775807 ∧ ∀ e ∈ l, OkIntS e
theorem ok_IntS {l : List Int} (h : BdIntS l) : OkIntS l := ⟨by have := h.1; omega, fun _ _ => trivial⟩
theorem ok_IntSS {l : List (List Int)} (h : BdIntSS l) : OkIntSS l := ⟨by have := h.1; omega, fun e he => ok_IntS (h.2 e he)⟩
def cvDep (x : S39) : S42 := ⟨x.f0, x.f1⟩
def BdDep (x : S39) : Prop := BdIntS x.f0 ∧ BdIntS x.f1
def BdDepS (l : List S39) : Prop := l.length ≤ 1048576 ∧ ∀ e ∈ l, BdDep e
def OkDep (x : S42) : Prop := OkIntS x.f0 ∧ OkIntS x.f1
def OkDepS (l : List S42) : Prop := l.length < 9223372036854775807 ∧ ∀ e ∈ l, OkDep e
theorem ok_Dep {x : S39} (h : BdDep x) : OkDep (cvDep x) := ⟨ok_IntS h.1, ok_IntS h.2⟩
theorem ok_DepS {l : List S39} (h : BdDepS l) : OkDepS (l.map cvDep) := ⟨by have := h.1; simp; omega, fun e he => by obtain ⟨x, hx, rfl⟩ := List.mem_map.1 he; exact ok_Dep (h.2 x hx)⟩
theorem szIntS_ev (l : (List Int)) (n : Int) (hF : FLii64 l) (h0 : 0 ≤ n) (h1 : n ≤ 1048576) : ∃ r, Ev (fun k => laws_szIntS.f l n) r ∧ r ≤ 1048576 ∧ (0 ≤ r → BdIntS l) := by
  have h2 := hF.1
  simp only [laws_szIntS.f]
  rw [wrap_in (by omega) (by omega)]
  by_cases h : n - (l.length : Int) < 0
  · exact ⟨-1, by simp only [if_pos h]; exact ev_now rfl, by omega, fun h => by omega⟩
  · exact ⟨n - l.length, by simp only [if_neg h]; exact ev_now rfl, by omega, fun _ => ⟨by omega, fun _ _ => trivial⟩⟩
theorem toIntS_l0 (xs : (List Int)) (hb : xs.length < 9223372036854775807) : ∀ (ys : (List Int)) (j : Nat) (out : (List Int)), xs.drop j = ys → (∀ e ∈ ys, BdInt e) → j ≤ xs.length → out.length = xs.length → out.take j = xs.take j →
    Ev (fun k => laws_toIntS.l0 k xs out (j : Int)) xs
  | [], j, out, h, hB, hj, ho, hp => by
    have h1 := drop_nil h
    refine ev_succ ?_
    simp only [laws_toIntS.l0]
    simp only [if_neg (show ¬ ((j : Int) < (xs.length : Int)) by omega)]
    refine ev_now ?_
    have e1 : out.take j = out := List.take_of_length_le (by omega)
    have e2 : xs.take j = xs := List.take_of_length_le (by omega)
    rw [← e1, hp, e2]
  | y :: ys, j, out, h, hB, hj, ho, hp => by
    obtain ⟨h1, h2, h3⟩ := drop_cons h
    have hs := set_end (xs := xs) (y := y) h (by rw [ho]) hp
    refine ev_succ ?_
    simp only [laws_toIntS.l0]
    simp only [if_pos (show (j : Int) < (xs.length : Int) by omega), if_pos (show (0 : Int) ≤ (j : Int) by omega), rd_drop h]
    simp only [if_pos (show (j : Int) < (out.length : Int) by omega), wrap_succ (show j < 9223372036854775807 by omega), Int.toNat_natCast]
    exact toIntS_l0 xs hb ys (j + 1) (out.set j y) h3 (fun e he => hB e (by simp [he])) (by omega) (by rw [List.length_set]; exact ho) hs.2
theorem toIntS_ev (xs : (List Int)) (hB : BdIntS xs) : Ev (fun k => laws_toIntS.f k xs) (xs) := by
  have h1 := hB.1
  simp only [laws_toIntS.f]
  simp only [if_pos (show (0 : Int) ≤ (xs.length : Int) by omega), Int.toNat_natCast, if_pos (show xs.length ≤ 35184372088832 by omega)]
  exact toIntS_l0 xs (by omega) xs 0 _ rfl hB.2 (by omega) (by simp) (by simp)
theorem eqIntS_l0 (xs : (List Int)) (hb : xs.length < 9223372036854775807) : ∀ (ys : (List Int)) (j : Nat), xs.drop j = ys → (∀ e ∈ ys, OkInt e) → Ev (fun k => laws_eqIntS.l0 k xs xs (j : Int)) true
  | [], j, h, hO => by
    have h1 := drop_nil h
    refine ev_succ ?_
    simp only [laws_eqIntS.l0]
    simp only [if_neg (show ¬ ((j : Int) < (xs.length : Int)) by omega)]
    exact ev_now rfl
  | y :: ys, j, h, hO => by
    obtain ⟨h1, h2, h3⟩ := drop_cons h
    refine ev_succ ?_
    simp only [laws_eqIntS.l0]
    simp only [if_pos (show (j : Int) < (xs.length : Int) by omega), if_pos (show (0 : Int) ≤ (j : Int) by omega), rd_drop h, wrap_succ (show j < 9223372036854775807 by omega)]
    simp only [if_true]
    exact eqIntS_l0 xs hb ys (j + 1) h3 (fun e he => hO e (by simp [he]))
theorem eqIntS_ev (xs : (List Int)) (hO : OkIntS xs) : Ev (fun k => laws_eqIntS.f k xs xs) true := by
  have h1 := hO.1
  simp only [laws_eqIntS.f]
  simp only [if_true]
  exact eqIntS_l0 xs h1 xs 0 rfl hO.2
theorem eqIntSS_l0 (xs : (List (List Int))) (hb : xs.length < 9223372036854775807) : ∀ (ys : (List (List Int))) (j : Nat), xs.drop j = ys → (∀ e ∈ ys, OkIntS e) → Ev (fun k => laws_eqIntSS.l0 k xs xs (j : Int)) true
  | [], j, h, hO => by
    have h1 := drop_nil h
    refine ev_succ ?_
    simp only [laws_eqIntSS.l0]
    simp only [if_neg (show ¬ ((j : Int) < (xs.length : Int)) by omega)]
    exact ev_now rfl
  | y :: ys, j, h, hO => by
    obtain ⟨h1, h2, h3⟩ := drop_cons h
    refine ev_succ ?_
    simp only [laws_eqIntSS.l0]
    simp only [if_pos (show (j : Int) < (xs.length : Int) by omega), if_pos (show (0 : Int) ≤ (j : Int) by omega), rd_L1_drop h, wrap_succ (show j < 9223372036854775807 by omega)]
    refine Ev.bind (eqIntS_ev y (hO y (by simp))) ?_
    simp only [if_true]
    exact eqIntSS_l0 xs hb ys (j + 1) h3 (fun e he => hO e (by simp [he]))
theorem eqIntSS_ev (xs : (List (List Int))) (hO : OkIntSS xs) : Ev (fun k => laws_eqIntSS.f k xs xs) true := by
  have h1 := hO.1
  simp only [laws_eqIntSS.f]
  simp only [if_true]
  exact eqIntSS_l0 xs h1 xs 0 rfl hO.2
theorem szDep_ev (x : S39) (n : Int) (hF : F39 x) (h0 : 0 ≤ n) (h1 : n ≤ 1048576) : ∃ r, Ev (fun k => laws_szDep.f x.f0 x.f1 n) r ∧ r ≤ 1048576 ∧ (0 ≤ r → BdDep x) := by
  simp only [laws_szDep.f]
  obtain ⟨r0, e0, l0, b0⟩ := szIntS_ev x.f0 n hF.1 h0 h1
  by_cases c0 : r0 < 0
  · refine ⟨-1, ?_, by omega, fun h => by omega⟩
    refine Ev.bind e0 ?_
    simp only [if_pos c0]
    exact ev_now rfl
  obtain ⟨r1, e1, l1, b1⟩ := szIntS_ev x.f1 r0 hF.2 (by omega) l0
  by_cases c1 : r1 < 0
  · refine ⟨-1, ?_, by omega, fun h => by omega⟩
    refine Ev.bind e0 ?_
    simp only [if_neg c0]
    refine Ev.bind e1 ?_
    simp only [if_pos c1]
    exact ev_now rfl
  refine ⟨r1, ?_, l1, fun h => ⟨b0 (by omega), b1 (by omega)⟩⟩
  refine Ev.bind e0 ?_
  simp only [if_neg c0]
  refine Ev.bind e1 ?_
  simp only [if_neg c1]
  exact ev_now rfl
theorem szDepS_l0 (xs : (List S39)) (hb : xs.length < 9223372036854775807) : ∀ (ys : (List S39)) (j : Nat) (n : Int), xs.drop j = ys → (∀ e ∈ ys, F39 e) → 0 ≤ n → n ≤ 1048576 → ∃ r, Ev (fun k => laws_szDepS.l0 k xs n (j : Int)) r ∧ r ≤ 1048576 ∧ (0 ≤ r → ∀ e ∈ ys, BdDep e)
  | [], j, n, h, hF, h0, h1 => by
    have h2 := drop_nil h
    refine ⟨n, ev_succ ?_, h1, fun _ e he => absurd he (by simp)⟩
    simp only [laws_szDepS.l0]
    simp only [if_neg (show ¬ ((j : Int) < (xs.length : Int)) by omega)]
    exact ev_now rfl
  | y :: ys, j, n, h, hF, h0, h1 => by
    obtain ⟨h2, h3, h4⟩ := drop_cons h
    obtain ⟨r1, e1, l1, b1⟩ := szDep_ev y n (hF y (by simp)) h0 h1
    by_cases hr : r1 < 0
    · refine ⟨-1, ev_succ ?_, by omega, fun h => by omega⟩
      simp only [laws_szDepS.l0]
      simp only [if_pos (show (j : Int) < (xs.length : Int) by omega), if_pos (show (0 : Int) ≤ (j : Int) by omega), rd_T39_drop h]
      refine Ev.bind e1 ?_
      simp only [if_pos hr]
      exact ev_now rfl
    · obtain ⟨r2, e2, l2, b2⟩ := szDepS_l0 xs hb ys (j + 1) r1 h4 (fun e he => hF e (by simp [he])) (by omega) l1
      refine ⟨r2, ev_succ ?_, l2, fun h e he => ?_⟩
      · simp only [laws_szDepS.l0]
        simp only [if_pos (show (j : Int) < (xs.length : Int) by omega), if_pos (show (0 : Int) ≤ (j : Int) by omega), rd_T39_drop h]
        refine Ev.bind e1 ?_
        simp only [if_neg hr, wrap_succ (show j < 9223372036854775807 by omega)]
        exact e2
      · rcases List.mem_cons.1 he with rfl | he
        · exact b1 (by omega)
        · exact b2 h e he
theorem szDepS_ev (l : (List S39)) (n : Int) (hF : FL39 l) (h0 : 0 ≤ n) (h1 : n ≤ 1048576) : ∃ r, Ev (fun k => laws_szDepS.f k l n) r ∧ r ≤ 1048576 ∧ (0 ≤ r → BdDepS l) := by
  have h2 := hF.1
  simp only [laws_szDepS.f]
  rw [wrap_in (by omega) (by omega)]
  by_cases h : n - (l.length : Int) < 0
  · exact ⟨-1, by simp only [if_pos h]; exact ev_now rfl, by omega, fun h => by omega⟩
  · obtain ⟨r, e, l1, b⟩ := szDepS_l0 l (by omega) l 0 (n - l.length) rfl hF.2 (by omega) (by omega)
    exact ⟨r, by simp only [if_neg h]; exact e, l1, fun h => ⟨by omega, b h⟩⟩
theorem toDep_ev (x : S39) (hB : BdDep x) : Ev (fun k => laws_toDep.f k x.f0 x.f1) ((cvDep x).f0, (cvDep x).f1) := by
  simp only [laws_toDep.f]
  refine Ev.bind (toIntS_ev x.f0 hB.1) ?_
  refine Ev.bind (toIntS_ev x.f1 hB.2) ?_
  exact ev_now rfl
theorem toDepS_l0 (xs : (List S39)) (hb : xs.length < 9223372036854775807) : ∀ (ys : (List S39)) (j : Nat) (out : (List S42)), xs.drop j = ys → (∀ e ∈ ys, BdDep e) → j ≤ xs.length → out.length = xs.length → out.take j = (xs.map cvDep).take j →
    Ev (fun k => laws_toDepS.l0 k xs out (j : Int)) (xs.map cvDep)
  | [], j, out, h, hB, hj, ho, hp => by
    have h1 := drop_nil h
    refine ev_succ ?_
    simp only [laws_toDepS.l0]
    simp only [if_neg (show ¬ ((j : Int) < (xs.length : Int)) by omega)]
    refine ev_now ?_
    have e1 : out.take j = out := List.take_of_length_le (by omega)
    have e2 : (xs.map cvDep).take j = xs.map cvDep := List.take_of_length_le (by simp only [List.length_map]; omega)
    rw [← e1, hp, e2]
  | y :: ys, j, out, h, hB, hj, ho, hp => by
    obtain ⟨h1, h2, h3⟩ := drop_cons h
    have hs := set_end (xs := xs.map cvDep) (y := (cvDep y)) (by rw [← List.map_drop, h]; rfl) (by rw [ho, List.length_map]) hp
    refine ev_succ ?_
    simp only [laws_toDepS.l0]
    simp only [if_pos (show (j : Int) < (xs.length : Int) by omega), if_pos (show (0 : Int) ≤ (j : Int) by omega), rd_T39_drop h]
    refine Ev.bind (toDep_ev y (hB y (by simp))) ?_
    simp only [if_pos (show (j : Int) < (out.length : Int) by omega), wrap_succ (show j < 9223372036854775807 by omega), Int.toNat_natCast]
    exact toDepS_l0 xs hb ys (j + 1) (out.set j (cvDep y)) h3 (fun e he => hB e (by simp [he])) (by omega) (by rw [List.length_set]; exact ho) hs.2
theorem toDepS_ev (xs : (List S39)) (hB : BdDepS xs) : Ev (fun k => laws_toDepS.f k xs) (xs.map cvDep) := by
  have h1 := hB.1
  simp only [laws_toDepS.f]
  simp only [if_pos (show (0 : Int) ≤ (xs.length : Int) by omega), Int.toNat_natCast, if_pos (show xs.length ≤ 5864062014805 by omega)]
  exact toDepS_l0 xs (by omega) xs 0 _ rfl hB.2 (by omega) (by simp) (by simp)
theorem eqDep_ev (x : S42) (hO : OkDep x) : Ev (fun k => laws_eqDep.f k x.f0 x.f1 x.f0 x.f1) true := by
  simp only [laws_eqDep.f, if_true, bne_self_eq_false, Bool.false_eq_true, if_false]
  refine Ev.bind (eqIntS_ev x.f0 hO.1) ?_
  simp only [if_true, bne_self_eq_false, Bool.false_eq_true, if_false]
  refine Ev.bind (eqIntS_ev x.f1 hO.2) ?_
  simp only [if_true, bne_self_eq_false, Bool.false_eq_true, if_false]
  exact ev_now rfl
theorem eqDepS_l0 (xs : (List S42)) (hb : xs.length < 9223372036854775807) : ∀ (ys : (List S42)) (j : Nat), xs.drop j = ys → (∀ e ∈ ys, OkDep e) → Ev (fun k => laws_eqDepS.l0 k xs xs (j : Int)) true
  | [], j, h, hO => by
    have h1 := drop_nil h
    refine ev_succ ?_
    simp only [laws_eqDepS.l0]
    simp only [if_neg (show ¬ ((j : Int) < (xs.length : Int)) by omega)]
    exact ev_now rfl
  | y :: ys, j, h, hO => by
    obtain ⟨h1, h2, h3⟩ := drop_cons h
    refine ev_succ ?_
    simp only [laws_eqDepS.l0]
    simp only [if_pos (show (j : Int) < (xs.length : Int) by omega), if_pos (show (0 : Int) ≤ (j : Int) by omega), rd_T42_drop h, wrap_succ (show j < 9223372036854775807 by omega)]
    refine Ev.bind (eqDep_ev y (hO y (by simp))) ?_
    simp only [if_true]
    exact eqDepS_l0 xs hb ys (j + 1) h3 (fun e he => hO e (by simp [he]))
theorem eqDepS_ev (xs : (List S42)) (hO : OkDepS xs) : Ev (fun k => laws_eqDepS.f k xs xs) true := by
  have h1 := hO.1
  simp only [laws_eqDepS.f]
  simp only [if_true]
  exact eqDepS_l0 xs h1 xs 0 rfl hO.2
end Go.Proofs.Ytdnidldinafakaa.Ax

/- What GoodDeps tells. Conditions: lengths that Go can hold. -/
namespace Go.Proofs.Ytdnidldinafakaa.Ax
open Go.RowKit Go.Proofs.Ytdnidldinafakaa.Pr Go.Proofs.Ytdnidldinafakaa.Pl Go.Proofs.YtdnidldinafakaaW.PrintWords Go.Proofs.YtdnidldinafakaaW.PrintLast Go.Proofs.YtdnidldinafakaaW.PrintMore
set_option linter.unusedVariables false
set_option linter.unusedSimpArgs false
theorem l5Dep_ev (a : Int) (x : S42) (hO : OkDep x) : Ev (fun k => spec_l5Dep.f k a x.f0 x.f1) (okD a x) := by
  simp only [spec_l5Dep.f, okD]
  refine Ev.bind (l1Rising_ev x.f0 _ _ hO.1.1) ?_
  cases rs 0 (wrap64 (a - 1)) none x.f0
  · simp only [Bool.false_eq_true, if_false]
    exact ev_now rfl
  · simp only [if_true]
    exact Ev.bind (l1Rising_ev x.f1 _ _ hO.2.1) (ev_now (by simp))
theorem sGD_l0 (a : Int) (xs : List S42) (hO : OkDepS xs) : ∀ (ys : List S42) (j : Nat), xs.drop j = ys → Ev (fun k => spec_GoodDeps.l0 k a xs (xs.length : Int) (j : Int)) (ys.all (okD a))
  | [], j, h => by
    have h1 := drop_nil h
    refine ev_succ ?_
    simp only [spec_GoodDeps.l0]
    simp only [if_neg (show ¬ ((j : Int) < (xs.length : Int)) by omega)]
    exact ev_now rfl
  | y :: ys, j, h => by
    obtain ⟨h1, h2, h3⟩ := drop_cons h
    have hb := hO.1
    have ih := sGD_l0 a xs hO ys (j + 1) h3
    refine ev_succ ?_
    simp only [spec_GoodDeps.l0]
    simp only [if_pos (show (j : Int) < (xs.length : Int) by omega), if_pos (show (0 : Int) ≤ (j : Int) by omega), rd_T42_drop h, wrap_succ (show j < 9223372036854775807 by omega)]
    refine Ev.bind (l5Dep_ev a y (hO.2 y (List.mem_of_getElem? h2))) ?_
    cases e : okD a y
    · simp only [Bool.false_eq_true, if_false]
      exact ev_now (by simp [e])
    · simp only [if_true]
      simpa [e] using ih
def gdV (a : Int) (l : List S42) : Bool := win a 1 6 && (decide (l.length ≤ 8) && l.all (okD a))
theorem sGD_ev (a : Int) (xs : List S42) (hO : OkDepS xs) : Ev (fun k => spec_GoodDeps.f k a xs) (gdV a xs) := by
  simp only [spec_GoodDeps.f, l1In_eq, Option.bind_some, gdV]
  cases e : win a 1 6
  · simp only [Bool.false_eq_true, if_false]
    refine ev_succ ?_
    simp only [spec_GoodDeps.j0, if_true]
    exact ev_now rfl
  · simp only [if_true]
    refine ev_succ ?_
    simp only [spec_GoodDeps.j0]
    by_cases h8 : xs.length ≤ 8
    · simp only [decide_eq_false (show ¬ ((xs.length : Int) > 8) by omega), Bool.false_eq_true, if_false]
      have := sGD_l0 a xs hO xs 0 rfl
      simpa [h8] using this
    · simp only [decide_eq_true (show ((xs.length : Int) > 8) by omega), if_true]
      exact ev_now (by simp [h8])
end Go.Proofs.Ytdnidldinafakaa.Ax

/- The closure of columns: both sides come to the same list. Conditions: good sentences, rising columns. -/
namespace Go.Proofs.Ytdnidldinafakaa.Ax
open Go.RowKit Go.Proofs.Ytdnidldinafakaa.Pr Go.Proofs.Ytdnidldinafakaa.Pl Go.Proofs.YtdnidldinafakaaW.PrintWords Go.Proofs.YtdnidldinafakaaW.PrintLast Go.Proofs.YtdnidldinafakaaW.PrintMore
set_option linter.unusedVariables false
set_option linter.unusedSimpArgs false
def GL (a : Int) (l : List Int) : Prop := l.Pairwise (· < ·) ∧ ∀ x ∈ l, 0 ≤ x ∧ x < a
theorem rs_from {lo hi : Int} : ∀ {l : List Int} {p : Option Int}, rs lo hi p l = true → l.Pairwise (· < ·) ∧ (∀ x ∈ l, lo ≤ x ∧ x ≤ hi) ∧ ∀ q, p = some q → ∀ x ∈ l, q < x
  | [], p, _ => by simp
  | x :: xs, p, h => by
    rw [rs_cons, Bool.and_eq_true, Bool.and_eq_true] at h
    obtain ⟨⟨h1, h2⟩, h3⟩ := h
    obtain ⟨i1, i2, i3⟩ := rs_from h3
    have hx := (win_iff _ _ _).1 h1
    refine ⟨List.pairwise_cons.2 ⟨i3 x rfl, i1⟩, fun y hy => ?_, fun q hq y hy => ?_⟩
    · rcases List.mem_cons.1 hy with e | e
      · omega
      · exact i2 y e
    · subst hq
      have h2' : q < x := by simpa using h2
      rcases List.mem_cons.1 hy with e | e
      · omega
      · have := i3 x rfl y e; omega
theorem GL_of_rs {a : Int} {l : List Int} (h1 : 1 ≤ a) (h6 : a ≤ 6) (h : rs 0 (wrap64 (a - 1)) none l = true) : GL a l := by
  rw [wrap_in (by omega) (by omega)] at h
  obtain ⟨i1, i2, _⟩ := rs_from h
  exact ⟨i1, fun x hx => by have := i2 x hx; omega⟩
theorem GL_len {a : Int} {l : List Int} (h0 : 0 ≤ a) (h : GL a l) : (l.length : Int) ≤ a := by
  have := rising_len h.1 h.2
  omega
def sub (s all : List Int) : Bool := s.all fun x => all.contains x
def GDs (a : Int) (l : List S42) : Prop := l.length ≤ 8 ∧ ∀ d ∈ l, GL a d.f0 ∧ GL a d.f1
theorem GDs_of {a : Int} {l : List S42} (h : gdV a l = true) : (1 ≤ a ∧ a ≤ 6) ∧ GDs a l := by
  unfold gdV at h
  simp only [Bool.and_eq_true, decide_eq_true_eq] at h
  obtain ⟨h1, h2, h3⟩ := h
  have ha := (win_iff _ _ _).1 h1
  refine ⟨ha, h2, fun d hd => ?_⟩
  have := List.all_eq_true.1 h3 d hd
  unfold okD at this
  rw [Bool.and_eq_true] at this
  exact ⟨GL_of_rs ha.1 ha.2 this.1, GL_of_rs ha.1 ha.2 this.2⟩
def rnd : List S42 → List Int → Bool → List Int × Bool
  | [], out, m => (out, m)
  | d :: ds, out, m => if sub d.f0 out && !(sub d.f1 out) then rnd ds (puts out d.f1) true else rnd ds out m
theorem puts_GL {a : Int} {out t : List Int} (h : GL a out) (ht : GL a t) : GL a (puts out t) :=
  ⟨puts_rising _ h.1, fun x hx => ((mem_puts x t out).1 hx).elim (h.2 x) (ht.2 x)⟩
theorem sub_len : ∀ {p q : List Int}, p.Pairwise (· < ·) → q.Pairwise (· < ·) → (∀ x ∈ p, x ∈ q) → p.length ≤ q.length
  | [], q, _, _, _ => Nat.zero_le _
  | x :: p, [], _, _, h => absurd (h x (by simp)) (by simp)
  | x :: p, y :: q, hp, hq, h => by
    obtain ⟨p1, p2⟩ := List.pairwise_cons.1 hp
    obtain ⟨q1, q2⟩ := List.pairwise_cons.1 hq
    have hx := h x (by simp)
    by_cases e : x = y
    · have := sub_len p2 q2 (fun z hz => by
        rcases List.mem_cons.1 (h z (by simp [hz])) with e2 | e2
        · have := p1 z hz; omega
        · exact e2)
      simp only [List.length_cons]; omega
    · have hxq : x ∈ q := by
        rcases List.mem_cons.1 hx with e2 | e2
        · exact absurd e2 e
        · exact e2
      have hlt := q1 x hxq
      have := sub_len hp q2 (fun z hz => by
        have hz2 : y < z := by
          rcases List.mem_cons.1 hz with e2 | e2
          · omega
          · have := p1 z e2; omega
        rcases List.mem_cons.1 (h z hz) with e2 | e2
        · omega
        · exact e2)
      simp only [List.length_cons] at this ⊢; omega
theorem ins_new (y : Int) : ∀ {l : List Int}, y ∉ l → (ins l y).length = l.length + 1
  | [], _ => rfl
  | x :: xs, h => by
    have hx : ¬ x = y := fun e => h (by simp [e])
    unfold ins
    split
    · have := ins_new y (l := xs) (fun hh => h (List.mem_cons_of_mem _ hh))
      simp only [List.length_cons, this]
    · first | rfl | (rw [if_neg hx]; rfl)
theorem sub_lt {p q : List Int} (hp : p.Pairwise (· < ·)) (hq : q.Pairwise (· < ·)) (h : ∀ x ∈ p, x ∈ q) {y : Int} (hy : y ∈ q) (hn : y ∉ p) : p.length < q.length := by
  have := sub_len (ins_rising y hp) hq (fun x hx => ((mem_ins y x p).1 hx).elim (fun e => by rw [e]; exact hy) (h x))
  rw [ins_new y hn] at this
  omega
theorem rnd_GL {a : Int} : ∀ (ds : List S42) (out : List Int) (m : Bool), (∀ d ∈ ds, GL a d.f0 ∧ GL a d.f1) → GL a out →
    GL a (rnd ds out m).1 ∧ (∀ x ∈ out, x ∈ (rnd ds out m).1) ∧ ((rnd ds out m).2 = true → m = true ∨ out.length < (rnd ds out m).1.length) ∧ ((rnd ds out m).2 = false → (rnd ds out m).1 = out)
  | [], out, m, _, h => ⟨h, fun x hx => hx, fun h => .inl h, fun _ => rfl⟩
  | d :: ds, out, m, hd, h => by
    unfold rnd
    by_cases hc : (sub d.f0 out && !(sub d.f1 out)) = true
    · rw [if_pos hc]
      obtain ⟨i1, i2, i3, i4⟩ := rnd_GL ds (puts out d.f1) true (fun e he => hd e (by simp [he])) (puts_GL h (hd d (by simp)).2)
      have hs : ∀ x ∈ out, x ∈ puts out d.f1 := fun x hx => (mem_puts x _ _).2 (.inl hx)
      refine ⟨i1, fun x hx => i2 x (hs x hx), fun _ => .inr ?_, fun hf => ?_⟩
      · rw [Bool.and_eq_true] at hc
        have hns : sub d.f1 out = false := by simpa using hc.2
        obtain ⟨y, hy, hyn⟩ : ∃ y ∈ d.f1, y ∉ out := by
          unfold sub at hns
          obtain ⟨y, hy, hq⟩ := List.all_eq_false.1 hns
          exact ⟨y, hy, by simpa using hq⟩
        exact sub_lt h.1 i1.1 (fun x hx => i2 x (hs x hx)) (i2 y ((mem_puts y _ _).2 (.inr hy))) hyn
      · exfalso
        have : ∀ (ds : List S42) (o : List Int), (rnd ds o true).2 = true := by
          intro ds
          induction ds with
          | nil => intro o; rfl
          | cons d ds ih => intro o; unfold rnd; split <;> exact ih _
        rw [this] at hf
        cases hf
    · rw [if_neg hc]
      exact rnd_GL ds out m (fun e he => hd e (by simp [he])) h
def cloN (l : List S42) : Nat → List Int → List Int
  | 0, out => out
  | n + 1, out => if (rnd l out false).2 = true then cloN l n (rnd l out false).1 else (rnd l out false).1
def clo (l : List S42) (out : List Int) : List Int := cloN l 7 out
theorem cloN_GL {a : Int} {l : List S42} (hd : ∀ d ∈ l, GL a d.f0 ∧ GL a d.f1) : ∀ (n : Nat) (out : List Int), GL a out → GL a (cloN l n out) ∧ ∀ x ∈ out, x ∈ cloN l n out
  | 0, out, h => ⟨h, fun x hx => hx⟩
  | n + 1, out, h => by
    obtain ⟨i1, i2, _⟩ := rnd_GL l out false hd h
    unfold cloN
    split
    · obtain ⟨j1, j2⟩ := cloN_GL hd n _ i1
      exact ⟨j1, fun x hx => j2 x (i2 x hx)⟩
    · exact ⟨i1, i2⟩
theorem clo_GL {a : Int} {l : List S42} (h : GDs a l) {out : List Int} (ho : GL a out) : GL a (clo l out) := (cloN_GL h.2 7 out ho).1
section
variable {a : Int} (h1 : 1 ≤ a) (h6 : a ≤ 6) {l : List S42} (hl : GDs a l)
include h1 h6 hl
theorem icl_l1 {r : List Int} : ∀ (ys : List S42) (j : Nat) (out : List Int) (m : Bool), l.drop j = ys → GL a out → Ev (fun k => impl_closure.l0 k l (rnd ys out m).1 (rnd ys out m).2) r →
    Ev (fun k => impl_closure.l1 k l out m l (l.length : Int) (j : Int)) r
  | [], j, out, m, h, ho, hk => by
    have := drop_nil h
    refine ev_succ ?_
    simp only [impl_closure.l1]
    simp only [if_neg (show ¬ ((j : Int) < (l.length : Int)) by omega)]
    exact hk
  | d :: ds, j, out, m, h, ho, hk => by
    obtain ⟨i1, i2, i3⟩ := drop_cons h
    have hb := hl.1
    have hd := hl.2 d (List.mem_of_getElem? i2)
    have hol := GL_len (by omega) ho
    have htl := GL_len (by omega) hd.2
    unfold rnd at hk
    refine ev_succ ?_
    simp only [impl_closure.l1]
    simp only [if_pos (show (j : Int) < (l.length : Int) by omega), if_pos (show (0 : Int) ≤ (j : Int) by omega), rd_T42_drop h, wrap_succ (show j < 9223372036854775807 by omega), impl_hasAll.f, Option.bind_some]
    by_cases c0 : sub d.f0 out = true
    · simp only [show (d.f0.all fun x => out.contains x) = true from c0, if_true]
      by_cases c1 : sub d.f1 out = true
      · simp only [show (d.f1.all fun x => out.contains x) = true from c1, if_true]
        rw [if_neg (by rw [c0, c1]; decide)] at hk
        exact icl_l1 ds (j + 1) out m i3 ho hk
      · simp only [show (d.f1.all fun x => out.contains x) = false from by simpa [sub] using c1, Bool.false_eq_true, if_false, impl_together.f]
        rw [if_pos (by rw [c0]; simpa using c1)] at hk
        simp only [if_pos (show (out.length + d.f1.length) * 8 ≤ 140737488351232 by omega), Option.bind_some, tog_puts ho.1]
        exact icl_l1 ds (j + 1) _ true i3 (puts_GL ho hd.2) hk
    · simp only [show (d.f0.all fun x => out.contains x) = false from by simpa [sub] using c0, Bool.false_eq_true, if_false]
      rw [if_neg (by simp [show sub d.f0 out = false by simpa using c0])] at hk
      exact icl_l1 ds (j + 1) out m i3 ho hk
theorem icl_l0 : ∀ (n : Nat) (out : List Int), GL a out → a ≤ out.length + n → Ev (fun k => impl_closure.l0 k l out true) (cloN l (n + 1) out)
  | n, out, ho, hn => by
    obtain ⟨i1, i2, i3, i4⟩ := rnd_GL l out false hl.2 ho
    refine ev_succ ?_
    simp only [impl_closure.l0, if_true]
    refine icl_l1 h1 h6 hl l 0 out false rfl ho ?_
    unfold cloN
    cases hm : (rnd l out false).2 with
    | false =>
      simp only [Bool.false_eq_true, if_false]
      refine ev_succ ?_
      simp only [impl_closure.l0, Bool.false_eq_true, if_false]
      exact ev_now rfl
    | true =>
      simp only [if_true]
      have hlt := (i3 hm).resolve_left (by decide)
      have hle := GL_len (by omega) i1
      match n, hn with
      | 0, hn => omega
      | n + 1, hn => exact icl_l0 n _ i1 (by omega)
theorem icl_ev {out : List Int} (ho : GL a out) : Ev (fun k => impl_closure.f k l out) (clo l out) := by
  have hol := GL_len (by omega) ho
  simp only [impl_closure.f, slices_Clone_int_int.f, if_pos (show out.length * 8 ≤ 140737488355328 by omega), Option.bind_some]
  exact icl_l0 h1 h6 hl 6 out ho (by omega)
end
theorem l5Sub_l0 (all s : List Int) (hb : all.length ≤ 9223372036854775807) (hs : s.length ≤ 9223372036854775807) : ∀ (ys : List Int) (j : Nat), s.drop j = ys → Ev (fun k => spec_l5Sub.l0 k all s (s.length : Int) (j : Int)) (sub ys all)
  | [], j, h => by
    have := drop_nil h
    refine ev_succ ?_
    simp only [spec_l5Sub.l0]
    simp only [if_neg (show ¬ ((j : Int) < (s.length : Int)) by omega)]
    exact ev_now rfl
  | y :: ys, j, h => by
    obtain ⟨i1, i2, i3⟩ := drop_cons h
    have ih := l5Sub_l0 all s hb hs ys (j + 1) i3
    refine ev_succ ?_
    simp only [spec_l5Sub.l0]
    simp only [if_pos (show (j : Int) < (s.length : Int) by omega), if_pos (show (0 : Int) ≤ (j : Int) by omega), rd_drop h, wrap_succ (show j < 9223372036854775807 by omega)]
    refine Ev.bind (l1Has_ev all y hb) ?_
    cases e : all.contains y
    · simp only [Bool.false_eq_true, if_false]
      refine ev_now ?_
      simp only [sub, List.all_cons, e, Bool.false_and]
    · simp only [if_true]
      have e2 : sub (y :: ys) all = sub ys all := by simp only [sub, List.all_cons, e, Bool.true_and]
      rw [e2]
      exact ih
theorem l5Sub_ev (s all : List Int) (hb : all.length ≤ 9223372036854775807) (hs : s.length ≤ 9223372036854775807) : Ev (fun k => spec_l5Sub.f k s all) (sub s all) := l5Sub_l0 all s hb hs s 0 rfl
theorem ins_split (n : Int) : ∀ (pre ys : List Int), (∀ x ∈ pre, x < n) → ins (pre ++ ys) n = pre ++ ins ys n
  | [], ys, _ => rfl
  | x :: pre, ys, h => by
    rw [List.cons_append, ins, if_pos (h x (by simp)), ins_split n pre ys (fun z hz => h z (by simp [hz]))]
    rfl
theorem l1Put_l0 (n : Int) (l : List Int) (hb : l.length < 1000000) : ∀ (ys : List Int) (j : Nat), l.drop j = ys → j ≤ l.length → (∀ x ∈ l.take j, x < n) → Ev (fun k => spec_l1Put.l0 k l n (j : Int)) (ins l n)
  | [], j, h, hjl, hp => by
    have hj := drop_nil h
    refine ev_succ ?_
    simp only [spec_l1Put.l0]
    have ht : l.take j = l := List.take_of_length_le hj
    rw [ht] at hp
    have e : ins l n = l ++ [n] := by
      have := ins_split n l [] hp
      simpa [ins] using this
    by_cases hje : j = l.length
    · subst hje
      simp only [if_neg (show ¬ ((l.length : Int) < (l.length : Int)) by omega), Option.bind_some, if_pos (show (0 : Int) ≤ (l.length : Int) by omega), if_pos (show (l.length : Int) ≤ (l.length : Int) by omega), Int.toNat_natCast, List.take_length, List.drop_length, List.length_nil, List.nil_append, List.append_nil, if_pos (show 0 + l.length < 17592186044416 by omega), if_pos (show l.length < 17592186044416 by omega), List.length_append, List.length_singleton, List.length_nil]
      rw [if_pos]
      · exact ev_now e.symm
      · omega
    · omega
  | y :: ys, j, h, hjl, hp => by
    obtain ⟨i1, i2, i3⟩ := drop_cons h
    have hsplit : l = l.take j ++ (y :: ys) := by rw [← h, List.take_append_drop]
    have hi : ins l n = l.take j ++ ins (y :: ys) n := by
      have := ins_split n (l.take j) (y :: ys) hp
      rwa [← hsplit] at this
    have htl : (l.take j).length = j := by rw [List.length_take]; omega
    have hdl : (l.drop j).length = l.length - j := List.length_drop
    refine ev_succ ?_
    simp only [spec_l1Put.l0]
    simp only [if_pos (show (j : Int) < (l.length : Int) by omega), if_pos (show (0 : Int) ≤ (j : Int) by omega), rd_drop h, wrap_succ (show j < 9223372036854775807 by omega)]
    by_cases c1 : y < n
    · simp only [if_pos c1]
      refine l1Put_l0 n l hb ys (j + 1) i3 i1 (fun x hx => ?_)
      rw [List.take_add_one, i2] at hx
      rcases List.mem_append.1 hx with hx | hx
      · exact hp x hx
      · have : x = y := by simpa using hx
        omega
    · simp only [if_neg c1]
      by_cases c2 : y = n
      · simp only [if_pos c2]
        refine ev_now ?_
        rw [hi, ins, if_neg c1, if_pos c2, ← hsplit]
      · simp only [if_neg c2, Option.bind_some, if_pos (show (j : Int) ≤ (l.length : Int) by omega), Int.toNat_natCast, List.nil_append, List.length_nil, List.length_append, List.length_singleton, htl, hdl]
        simp only [if_pos (show 0 + j < 17592186044416 by omega), if_pos (show j < 17592186044416 by omega), if_pos (show 0 + j + 1 + (l.length - j) < 17592186044416 by omega), if_pos (show j + 1 + (l.length - j) < 17592186044416 by omega)]
        refine ev_now ?_
        rw [hi, ins, if_neg c1, if_neg c2, h]
        simp
theorem l1Put_ev (n : Int) (l : List Int) (hb : l.length < 1000000) : Ev (fun k => spec_l1Put.f k l n) (ins l n) := l1Put_l0 n l hb l 0 rfl (Nat.zero_le _) (by simp)
section
variable {a : Int} (h1 : 1 ≤ a) (h6 : a ≤ 6) {l : List S42} (hl : GDs a l)
include h1 h6 hl
theorem scl_l2 {r : List Int} (i : Nat) (hi : i < l.length) (ts : List Int) (ht : GL a ts) : ∀ (ys : List Int) (j : Nat) (out : List Int), ts.drop j = ys → GL a out → Ev (fun k => spec_l5Closure.l1 k l (puts out ys) true l (l.length : Int) ((i + 1 : Nat) : Int)) r →
    Ev (fun k => spec_l5Closure.l2 k l out true l (l.length : Int) (i : Int) ts (ts.length : Int) (j : Int)) r
  | [], j, out, h, ho, hk => by
    have := drop_nil h
    have := hl.1
    refine ev_succ ?_
    simp only [spec_l5Closure.l2]
    simp only [if_neg (show ¬ ((j : Int) < (ts.length : Int)) by omega), wrap_succ (show i < 9223372036854775807 by omega)]
    exact hk
  | y :: ys, j, out, h, ho, hk => by
    obtain ⟨i1, i2, i3⟩ := drop_cons h
    have htl := GL_len (by omega) ht
    have hol := GL_len (by omega) ho
    refine ev_succ ?_
    simp only [spec_l5Closure.l2]
    simp only [if_pos (show (j : Int) < (ts.length : Int) by omega), if_pos (show (0 : Int) ≤ (j : Int) by omega), rd_drop h, wrap_succ (show j < 9223372036854775807 by omega)]
    refine Ev.bind (l1Put_ev y out (by omega)) ?_
    exact scl_l2 i hi ts ht ys (j + 1) (ins out y) i3 ⟨ins_rising y ho.1, fun x hx => ((mem_ins y x out).1 hx).elim (fun e => by rw [e]; exact ht.2 y (List.mem_of_getElem? i2)) (ho.2 x)⟩ hk
theorem scl_l1 {r : List Int} : ∀ (ys : List S42) (j : Nat) (out : List Int) (m : Bool), l.drop j = ys → GL a out → Ev (fun k => spec_l5Closure.l0 k l (rnd ys out m).1 (rnd ys out m).2) r →
    Ev (fun k => spec_l5Closure.l1 k l out m l (l.length : Int) (j : Int)) r
  | [], j, out, m, h, ho, hk => by
    have := drop_nil h
    refine ev_succ ?_
    simp only [spec_l5Closure.l1]
    simp only [if_neg (show ¬ ((j : Int) < (l.length : Int)) by omega)]
    exact hk
  | d :: ds, j, out, m, h, ho, hk => by
    obtain ⟨i1, i2, i3⟩ := drop_cons h
    have hb := hl.1
    have hd := hl.2 d (List.mem_of_getElem? i2)
    have hol := GL_len (by omega) ho
    have htl := GL_len (by omega) hd.2
    have hfl := GL_len (by omega) hd.1
    unfold rnd at hk
    refine ev_succ ?_
    simp only [spec_l5Closure.l1]
    simp only [if_pos (show (j : Int) < (l.length : Int) by omega), if_pos (show (0 : Int) ≤ (j : Int) by omega), rd_T42_drop h]
    refine Ev.bind (l5Sub_ev d.f0 out (by omega) (by omega)) ?_
    by_cases c0 : sub d.f0 out = true
    · simp only [c0, if_true]
      refine Ev.bind (l5Sub_ev d.f1 out (by omega) (by omega)) ?_
      refine ev_succ ?_
      simp only [spec_l5Closure.j2]
      by_cases c1 : sub d.f1 out = true
      · simp only [c1, Bool.not_true, Bool.false_eq_true, if_false, wrap_succ (show j < 9223372036854775807 by omega)]
        rw [if_neg (by rw [c0, c1]; decide)] at hk
        exact scl_l1 ds (j + 1) out m i3 ho hk
      · have c1' : sub d.f1 out = false := by simpa using c1
        simp only [c1', Bool.not_false, if_true]
        rw [if_pos (by rw [c0, c1']; decide)] at hk
        exact scl_l2 h1 h6 hl j i1 d.f1 hd.2 d.f1 0 out rfl ho (scl_l1 ds (j + 1) _ true i3 (puts_GL ho hd.2) hk)
    · have c0' : sub d.f0 out = false := by simpa using c0
      simp only [c0', Bool.false_eq_true, if_false]
      refine ev_succ ?_
      simp only [spec_l5Closure.j2, Bool.false_eq_true, if_false, wrap_succ (show j < 9223372036854775807 by omega)]
      rw [if_neg (by rw [c0', Bool.false_and]; decide)] at hk
      exact scl_l1 ds (j + 1) out m i3 ho hk
theorem scl_l0 : ∀ (n : Nat) (out : List Int), GL a out → a ≤ out.length + n → Ev (fun k => spec_l5Closure.l0 k l out true) (cloN l (n + 1) out)
  | n, out, ho, hn => by
    obtain ⟨i1, i2, i3, i4⟩ := rnd_GL l out false hl.2 ho
    refine ev_succ ?_
    simp only [spec_l5Closure.l0, if_true]
    refine scl_l1 h1 h6 hl l 0 out false rfl ho ?_
    unfold cloN
    cases hm : (rnd l out false).2 with
    | false =>
      simp only [Bool.false_eq_true, if_false]
      refine ev_succ ?_
      simp only [spec_l5Closure.l0, Bool.false_eq_true, if_false]
      exact ev_now rfl
    | true =>
      simp only [if_true]
      have hlt := (i3 hm).resolve_left (by decide)
      have hle := GL_len (by omega) i1
      match n, hn with
      | 0, hn => omega
      | n + 1, hn => exact scl_l0 n _ i1 (by omega)
theorem scl_ev {out : List Int} (ho : GL a out) : Ev (fun k => spec_l5Closure.f k l out) (clo l out) := by
  have hol := GL_len (by omega) ho
  simp only [spec_l5Closure.f, Option.bind_some, List.length_nil, List.nil_append, if_pos (show 0 + out.length < 17592186044416 by omega)]
  exact scl_l0 h1 h6 hl 6 out ho (by omega)
end
end Go.Proofs.Ytdnidldinafakaa.Ax

/- Good columns and sentences, told both ways. Conditions: lengths that Go can hold. -/
namespace Go.Proofs.Ytdnidldinafakaa.Ax
open Go.RowKit Go.Proofs.Ytdnidldinafakaa.Pr Go.Proofs.Ytdnidldinafakaa.Pl Go.Proofs.YtdnidldinafakaaW.PrintWords Go.Proofs.YtdnidldinafakaaW.PrintLast Go.Proofs.YtdnidldinafakaaW.PrintMore
set_option linter.unusedVariables false
set_option linter.unusedSimpArgs false
theorem Ev_ite {α : Type} {b : Bool} {g h : Nat → Option α} {r : α} (h1 : b = true → Ev g r) (h2 : b = false → Ev h r) : Ev (fun k => if b = true then g k else h k) r := by
  cases b with
  | true => simpa using h1 rfl
  | false => simpa using h2 rfl
theorem filter_GL {a : Int} {l : List Int} (p : Int → Bool) (h : GL a l) : GL a (l.filter p) := ⟨h.1.filter _, fun x hx => h.2 x (List.mem_filter.1 hx).1⟩
end Go.Proofs.Ytdnidldinafakaa.Ax

/- What the reference makes of two lists of columns, and the laws' values. Conditions: lengths that Go can hold. -/
namespace Go.Proofs.Ytdnidldinafakaa.Ax
open Go.RowKit Go.Proofs.Ytdnidldinafakaa.Pr Go.Proofs.Ytdnidldinafakaa.Pl Go.Proofs.YtdnidldinafakaaW.PrintWords Go.Proofs.YtdnidldinafakaaW.PrintLast Go.Proofs.YtdnidldinafakaaW.PrintMore
set_option linter.unusedVariables false
set_option linter.unusedSimpArgs false
theorem l6Both_l0 (b a : List Int) (ha : a.length ≤ 1000000) (hb : b.length ≤ 9223372036854775807) : ∀ (ys : List Int) (j : Nat) (out : List Int), a.drop j = ys → out.length ≤ j →
    Ev (fun k => spec_l6Both.l0 k b out a (a.length : Int) (j : Int)) (out ++ ys.filter fun x => b.contains x)
  | [], j, out, h, ho => by
    have := drop_nil h
    refine ev_succ ?_
    simp only [spec_l6Both.l0]
    simp only [if_neg (show ¬ ((j : Int) < (a.length : Int)) by omega)]
    exact ev_now (by simp)
  | y :: ys, j, out, h, ho => by
    obtain ⟨i1, i2, i3⟩ := drop_cons h
    refine ev_succ ?_
    simp only [spec_l6Both.l0]
    simp only [if_pos (show (j : Int) < (a.length : Int) by omega), if_pos (show (0 : Int) ≤ (j : Int) by omega), rd_drop h, wrap_succ (show j < 9223372036854775807 by omega)]
    refine Ev.bind (l1Has_ev b y hb) (Ev_ite (fun e => ?_) (fun e => ?_))
    · simp only [if_pos (show out.length < 17592186044416 by omega)]
      have := l6Both_l0 b a ha hb ys (j + 1) (out ++ [y]) i3 (by simp; omega)
      rw [List.filter_cons, if_pos e]
      simpa using this
    · have := l6Both_l0 b a ha hb ys (j + 1) out i3 (by omega)
      rw [List.filter_cons, if_neg (by rw [e]; decide)]
      exact this
theorem l6Both_ev (a b : List Int) (ha : a.length ≤ 1000000) (hb : b.length ≤ 9223372036854775807) : Ev (fun k => spec_l6Both.f k a b) (a.filter fun x => b.contains x) := l6Both_l0 b a ha hb a 0 [] rfl (by simp)
theorem ins_length (n : Int) : ∀ l : List Int, (ins l n).length ≤ l.length + 1
  | [] => by simp [ins]
  | x :: xs => by
    have := ins_length n xs
    unfold ins
    split
    · simp; omega
    · split <;> simp
theorem l6Either_l0 (b : List Int) : ∀ (ys : List Int) (j : Nat) (out : List Int), b.drop j = ys → out.length + ys.length < 1000000 → b.length < 1000000 → Ev (fun k => spec_l6Either.l0 k out b (b.length : Int) (j : Int)) (puts out ys)
  | [], j, out, h, ho, hb => by
    have := drop_nil h
    refine ev_succ ?_
    simp only [spec_l6Either.l0]
    simp only [if_neg (show ¬ ((j : Int) < (b.length : Int)) by omega)]
    exact ev_now rfl
  | y :: ys, j, out, h, ho, hb => by
    obtain ⟨i1, i2, i3⟩ := drop_cons h
    have hi := ins_length y out
    simp only [List.length_cons] at ho
    refine ev_succ ?_
    simp only [spec_l6Either.l0]
    simp only [if_pos (show (j : Int) < (b.length : Int) by omega), if_pos (show (0 : Int) ≤ (j : Int) by omega), rd_drop h, wrap_succ (show j < 9223372036854775807 by omega)]
    refine Ev.bind (l1Put_ev y out (by omega)) ?_
    exact l6Either_l0 b ys (j + 1) (ins out y) i3 (by omega) hb
theorem l6Either_ev (a b : List Int) (h : a.length + b.length < 1000000) : Ev (fun k => spec_l6Either.f k a b) (puts a b) := by
  simp only [spec_l6Either.f, Option.bind_some, List.length_nil, List.nil_append, if_pos (show 0 + a.length < 17592186044416 by omega)]
  exact l6Either_l0 b b 0 a rfl h (by omega)
end Go.Proofs.Ytdnidldinafakaa.Ax

/- What the reference leaves of a list without another one. Conditions: lengths that Go can hold. -/
namespace Go.Proofs.Ytdnidldinafakaa.Ax
open Go.RowKit Go.Proofs.Ytdnidldinafakaa.Pr Go.Proofs.Ytdnidldinafakaa.Pl Go.Proofs.YtdnidldinafakaaW.PrintWords Go.Proofs.YtdnidldinafakaaW.PrintLast Go.Proofs.YtdnidldinafakaaW.PrintMore
set_option linter.unusedVariables false
set_option linter.unusedSimpArgs false
theorem l6Less_l0 (b a : List Int) (ha : a.length ≤ 1000000) (hb : b.length ≤ 9223372036854775807) : ∀ (ys : List Int) (j : Nat) (out : List Int), a.drop j = ys → out.length ≤ j →
    Ev (fun k => spec_l6Less.l0 k b out a (a.length : Int) (j : Int)) (out ++ ys.filter fun x => !b.contains x)
  | [], j, out, h, ho => by
    have := drop_nil h
    refine ev_succ ?_
    simp only [spec_l6Less.l0]
    simp only [if_neg (show ¬ ((j : Int) < (a.length : Int)) by omega)]
    exact ev_now (by simp)
  | y :: ys, j, out, h, ho => by
    obtain ⟨i1, i2, i3⟩ := drop_cons h
    refine ev_succ ?_
    simp only [spec_l6Less.l0]
    simp only [if_pos (show (j : Int) < (a.length : Int) by omega), if_pos (show (0 : Int) ≤ (j : Int) by omega), rd_drop h, wrap_succ (show j < 9223372036854775807 by omega)]
    refine Ev.bind (l1Has_ev b y hb) (Ev_ite (fun e => ?_) (fun e => ?_))
    · have := l6Less_l0 b a ha hb ys (j + 1) out i3 (by omega)
      rw [List.filter_cons, if_neg (by rw [e]; decide)]
      exact this
    · simp only [if_pos (show out.length < 17592186044416 by omega)]
      have := l6Less_l0 b a ha hb ys (j + 1) (out ++ [y]) i3 (by simp; omega)
      rw [List.filter_cons, if_pos (by rw [e]; decide)]
      simpa using this
theorem l6Less_ev (a b : List Int) (ha : a.length ≤ 1000000) (hb : b.length ≤ 9223372036854775807) : Ev (fun k => spec_l6Less.f k a b) (a.filter fun x => !b.contains x) := l6Less_l0 b a ha hb a 0 [] rfl (by simp)
end Go.Proofs.Ytdnidldinafakaa.Ax

/- What the marks in lists of lists tell: plain words. Conditions: marks that Go can hold. -/

namespace Go.Proofs.Ytdnidldinafakaa.Ax
open Go.RowKit Go.Proofs.Ytdnidldinafakaa.Pr Go.Proofs.Ytdnidldinafakaa.Pl Go.Proofs.YtdnidldinafakaaW.PrintWords Go.Proofs.YtdnidldinafakaaW.PrintLast Go.Proofs.YtdnidldinafakaaW.PrintMore
set_option linter.unusedVariables false
set_option linter.unusedSimpArgs false
def cntIntS (l : List Int) : Nat := l.length
def mkIntS (l : List Int) (m : Int) : List Int := mkL l.length m
theorem mkIntS_length (l : List Int) (m : Int) : (mkIntS l m).length = l.length := mkL_length _ _
def cntOf {α : Type} (c : α → Nat) : List α → Nat
  | [] => 0
  | x :: xs => c x + cntOf c xs
def mkOf {α : Type} (c : α → Nat) (f : α → Int → α) : List α → Int → List α
  | [], _ => []
  | x :: xs, m => f x m :: mkOf c f xs (m + (c x : Nat))
section
variable {α : Type} {c : α → Nat} {f : α → Int → α}
theorem cntOf_snoc : ∀ (xs : List α) (y : α), cntOf c (xs ++ [y]) = cntOf c xs + c y
  | [], y => by simp [cntOf]
  | x :: xs, y => by simp only [List.cons_append, cntOf, cntOf_snoc xs y]; omega
theorem cntOf_append : ∀ (xs ys : List α), cntOf c (xs ++ ys) = cntOf c xs + cntOf c ys
  | [], y => by simp [cntOf]
  | x :: xs, y => by simp only [List.cons_append, cntOf, cntOf_append xs y]; omega
theorem mkOf_length : ∀ (xs : List α) (m : Int), (mkOf c f xs m).length = xs.length
  | [], _ => rfl
  | x :: xs, m => by rw [mkOf, List.length_cons, List.length_cons, mkOf_length xs]
theorem mkOf_snoc : ∀ (xs : List α) (y : α) (m : Int), mkOf c f (xs ++ [y]) m = mkOf c f xs m ++ [f y (m + (cntOf c xs : Nat))]
  | [], y, m => by simp [mkOf, cntOf]
  | x :: xs, y, m => by
    have := mkOf_snoc xs y (m + (c x : Nat))
    simp only [List.cons_append, mkOf, this, cntOf]
    rw [show m + ((c x : Nat) : Int) + ((cntOf c xs : Nat) : Int) = m + ((c x + cntOf c xs : Nat) : Int) by omega]
theorem mkOf_set (pre post : List α) (y : α) (m : Int) : (mkOf c f pre m ++ y :: post).set pre.length (f y (m + (cntOf c pre : Nat))) = mkOf c f (pre ++ [y]) m ++ post := by
  rw [mkOf_snoc, List.set_append_right _ _ (by rw [mkOf_length]; exact Nat.le_refl _), mkOf_length, Nat.sub_self, List.append_assoc]
  rfl
theorem mkOf_at (pre post : List α) (y z : α) (m : Int) : (mkOf c f pre m ++ y :: post).getD pre.length z = y := by
  rw [List.getD_eq_getElem?_getD, List.getElem?_append_right (by rw [mkOf_length]; exact Nat.le_refl _), mkOf_length, Nat.sub_self]
  rfl
end
abbrev cntIntSS : List (List Int) → Nat := cntOf cntIntS
abbrev mkIntSS : List (List Int) → Int → List (List Int) := mkOf cntIntS mkIntS
theorem cnt_le {α : Type} {c : α → Nat} (b : Nat) : ∀ (xs : List α), (∀ x ∈ xs, c x ≤ b) → cntOf c xs ≤ xs.length * b
  | [], _ => by simp [cntOf]
  | x :: xs, h => by
    have h1 := h x (by simp)
    have h2 := cnt_le b xs (fun y hy => h y (by simp [hy]))
    simp only [cntOf, List.length_cons, Nat.succ_mul]
    omega
theorem cntIntSS_le {l : List (List Int)} (h : l.length ≤ 1048576 ∧ ∀ e ∈ l, e.length ≤ 1048576) : cntIntSS l ≤ 1099511627776 := by
  have h1 := cnt_le (c := cntIntS) 1048576 l h.2
  exact Nat.le_trans h1 (Nat.mul_le_mul_right 1048576 h.1)
end Go.Proofs.Ytdnidldinafakaa.Ax

/- How many marks a value takes, and that those of numbers are found again. No condition. -/
namespace Go.Proofs.Ytdnidldinafakaa.Ax
open Go.RowKit Go.Proofs.Ytdnidldinafakaa.Pr Go.Proofs.Ytdnidldinafakaa.Pl Go.Proofs.YtdnidldinafakaaW.PrintWords Go.Proofs.YtdnidldinafakaaW.PrintLast Go.Proofs.YtdnidldinafakaaW.PrintMore
set_option linter.unusedVariables false
theorem cntIntS_bd {l : List Int} (h : BdIntS l) : cntIntS l ≤ 1048576 := h.1
theorem cntIntSS_bd {l : List (List Int)} (h : BdIntSS l) : cntIntSS l ≤ 1099511627776 := cntIntSS_le ⟨h.1, fun e he => (h.2 e he).1⟩
theorem heldIntS_ev' (l : List Int) (m : Int) (h0 : 0 ≤ m) (hb : m + (cntIntS l : Nat) < 9223372036854775807) : Ev (fun k => laws_heldIntS.f k (mkIntS l m) m) (m + (cntIntS l : Nat)) := heldIntS_ev l.length m h0 hb
end Go.Proofs.Ytdnidldinafakaa.Ax

/- The marks in lists of lists are found again. No condition. -/
namespace Go.Proofs.Ytdnidldinafakaa.Ax
open Go.RowKit Go.Proofs.Ytdnidldinafakaa.Pr Go.Proofs.Ytdnidldinafakaa.Pl Go.Proofs.YtdnidldinafakaaW.PrintWords Go.Proofs.YtdnidldinafakaaW.PrintLast Go.Proofs.YtdnidldinafakaaW.PrintMore
set_option linter.unusedVariables false
theorem heldIntSS_l0 (xs : List (List Int)) (hx : xs.length < 9223372036854775807) : ∀ (ys : List (List Int)) (j : Nat) (m : Int), 0 ≤ m → m + (cntIntSS ys : Nat) < 9223372036854775807 → xs.drop j = mkIntSS ys m →
    Ev (fun k => laws_heldIntSS.l0 k xs m (j : Int)) (m + (cntIntSS ys : Nat))
  | [], j, m, h0, hb, h => by
    have h1 := drop_nil h
    refine ev_succ ?_
    simp only [laws_heldIntSS.l0]
    simp only [if_neg (show ¬ ((j : Int) < (xs.length : Int)) by omega)]
    exact ev_now (by simp [cntOf])
  | y :: ys, j, m, h0, hb, h => by
    rw [mkIntSS, mkOf] at h
    obtain ⟨h1, h2, h3⟩ := drop_cons h
    rw [cntIntSS, cntOf] at hb
    refine ev_succ ?_
    simp only [laws_heldIntSS.l0]
    simp only [if_pos (show (j : Int) < (xs.length : Int) by omega), if_pos (show (0 : Int) ≤ (j : Int) by omega), rd_L1_drop h]
    refine Ev.bind (heldIntS_ev' y m h0 (by omega)) ?_
    simp only [if_neg (show ¬ m + (cntIntS y : Nat) < 0 by omega), wrap_succ (show j < 9223372036854775807 by omega)]
    have := heldIntSS_l0 xs hx ys (j + 1) (m + (cntIntS y : Nat)) (by omega) (by show m + (cntIntS y : Nat) + ((cntOf cntIntS ys : Nat) : Int) < _; omega) h3
    rw [cntIntSS, cntOf]
    rwa [show m + (cntIntS y : Nat) + ((cntOf cntIntS ys : Nat) : Int) = m + ((cntIntS y + cntOf cntIntS ys : Nat) : Int) by omega] at this
theorem heldIntSS_ev' (l : List (List Int)) (m : Int) (hl : l.length < 9223372036854775807) (h0 : 0 ≤ m) (hb : m + (cntIntSS l : Nat) < 9223372036854775807) : Ev (fun k => laws_heldIntSS.f k (mkIntSS l m) m) (m + (cntIntSS l : Nat)) := by
  simp only [laws_heldIntSS.f]
  exact heldIntSS_l0 _ (by rw [mkOf_length]; exact hl) l 0 m h0 hb rfl
end Go.Proofs.Ytdnidldinafakaa.Ax

/- The marks in rows of numbers, and in rows of such rows, of the call's own: contracts. Conditions: marks that Go can hold. -/
namespace Go.Proofs.Ytdnidldinafakaa.Mk
open Go.RowKit Go.Proofs.Ytdnidldinafakaa Go.Proofs.Ytdnidldinafakaa.Pr Go.Proofs.Ytdnidldinafakaa.Pl Go.Proofs.YtdnidldinafakaaW.PrintWords Go.Proofs.YtdnidldinafakaaW.PrintLast Go.Proofs.YtdnidldinafakaaW.PrintMore
set_option linter.unusedVariables false
set_option linter.unusedSimpArgs false
theorem R_base_up {k : IntKind} {e b b' : Nat} {w : World} {ok : Nat → Prop} {v : Value} {xs : List Int} (h : (Kd.int k).R e w b ok v xs) (hb : ∀ k, v.ownBlock = some k → b' ≤ k) : (Kd.int k).R e w b' ok v xs :=
  Kd.R_raise (d := Kd.int k) (b := b) (b' := b') (fun _ _ _ _ h_ => h_) h hb
set_option maxHeartbeats 1000000 in
theorem markIntS_R (w0 w : World) (base : Nat) (ok : Nat → Prop) (m M : Int) (v : Value) (l : List Int) (hB : Below w0.heap.size w0 w) (hb : w0.heap.size ≤ base)
    (ho : (Kd.int .i64).R 3 w base ok v l) (h0 : 0 ≤ m) (h1 : m + (Ax.cntIntS l : Nat) = M ∧ M < 9223372036854775807) :
    Calls Try.prog 31 #[v, .int .i64 m] w fun e w' => e = .returned (.int .i64 M) ∧ (Kd.int .i64).R 3 w' base ok v (Ax.mkIntS l m) ∧ Below w0.heap.size w0 w' ∧ Kept w w' (fun k => some k = v.ownBlock) := by
  obtain ⟨rfl, hM⟩ := h1
  obtain ⟨k, hk⟩ := Ev.rounds (Ax.markIntS_ev l m h0 hM)
  refine (laws_markIntS.calls k (fun k => some k = v.ownBlock) v l m _ _ w0 w hB (Kd.R_lower (Kd.R_tight rfl ho) hb) hk).mono ?_
  rintro e w' ⟨rfl, h2, h3, h4⟩
  refine ⟨rfl, ?_, h3, h4⟩
  exact R_base_up (Kd.R_reok rfl h2 (fun k hk => ho.1 k hk)) (fun k hk => Kd.R_base ho k hk)
set_option maxHeartbeats 4000000 in
set_option maxRecDepth 100000 in
theorem markIntSS_S (w0 w : World) (base : Nat) (ok : Nat → Prop) (m M : Int) (v : Value) (l : List (List Int)) (hB : Below w0.heap.size w0 w) (hb : w0.heap.size ≤ base)
    (ho : Kd.S (Kd.slice 3 (Kd.int .i64)) 37 w base ok v l) (h0 : 0 ≤ m) (h1 : m + (Ax.cntIntSS l : Nat) = M ∧ M < 9223372036854775807) :
    Calls Try.prog 16 #[v, .int .i64 m] w fun e w' => e = .returned (.int .i64 M) ∧ Kd.S (Kd.slice 3 (Kd.int .i64)) 37 w' base ok v (Ax.mkIntSS l m) ∧ Below w0.heap.size w0 w' ∧ Kept w w' ok := by
  obtain ⟨A, c, rfl⟩ := Kd.S_slice ho
  obtain ⟨rfl, hM⟩ := h1
  have HN := Aside0.mk (Kd.S_reads' ho).2.2.2.1
  have HO := Aside0.mk ho
  have HB := Aside0.mk hB
  have HBB := Aside0.mk hb
  have H0 := Aside0.mk h0
  have HM := Aside0.mk hM
  clear ho hB hb h0 hM
  go_enter Try.func16, Try.ntmps16
  go_wp2
  go_loopg [1, 5] (l.length + 1) (fun gg v1 v5 wr => ∃ (pre post : List (List Int)) (m1 : Int), v1 = .int .i64 m1 ∧ v5 = .int .i64 (pre.length : Nat) ∧ Aside0 (m1 = m + (Ax.cntIntSS pre : Nat)) ∧ Aside0 (l = pre ++ post) ∧ Aside0 (post.length + 1 ≤ gg) ∧
    Aside0 (Kd.S (Kd.slice 3 (Kd.int .i64)) 37 wr base ok (.slice A l.length c) (Ax.mkIntSS pre m ++ post)) ∧ Aside0 (Kept w wr ok) ∧ Aside0 (Below w0.heap.size w0 wr))
  case atStart => exact ⟨[], l, m, rfl, rfl, ⟨by simp [Ax.cntOf]⟩, ⟨rfl⟩, ⟨Nat.le_refl _⟩, HO, ⟨Kept.refl _ _⟩, HB⟩
  case round =>
    clear HO HB
    obtain ⟨pre, post, m1, rfl, rfl, HM1, HL, HG, HO, HK, HB⟩ := hrel
    cases post with
    | nil =>
      have hlen : l.length = pre.length := by rw [HL.out]; simp
      have h1 : ¬ ((pre.length : Nat) : Int) < (l.length : Int) := by omega
      have hE : pre = l := by rw [HL.out]; simp
      have HE := Aside0.mk hE
      clear hE hlen
      go_wp2
      go_ret
      refine ⟨?_, ?_, HB.out, HK.out⟩
      · rw [HM1.out, HE.out]
        rfl
      · have := HO.out
        rwa [HE.out, List.append_nil] at this
    | cons y post =>
      have hlen : l.length = pre.length + (post.length + 1) := by rw [HL.out]; simp
      have h1 : ((pre.length : Nat) : Int) < (l.length : Int) := by omega
      have hml : (Ax.mkIntSS pre m ++ y :: post).length = l.length := by rw [List.length_append, Ax.mkOf_length, hlen]; rfl
      obtain ⟨g, cap, hv, hg, hgl, _, _⟩ := Kd.S_form HO.out (by omega)
      injection hv with hv1 hv2 hv3
      subst hv1; subst hv3
      obtain ⟨oki, cs, hcl, hMd, hcc, hoki, hH⟩ := Kd.S_lend HO.out ([] : List Int) ((pre.length : Nat) : Int) (by omega) (by omega)
      obtain ⟨vi, rfl, hR⟩ := hMd
      have x0 := hcc 0 vi rfl
      simp only [Int.toNat_natCast, show (Kd.slice 3 (Kd.int .i64)).sz = 1 from rfl, Nat.mul_one, Nat.add_zero] at x0
      rw [Int.toNat_natCast, Ax.mkOf_at] at hR
      have hcnt : Ax.cntIntSS l = Ax.cntIntSS pre + (Ax.cntIntS y + Ax.cntIntSS post) := by rw [HL.out]; exact Ax.cntOf_append pre (y :: post)
      have hw5 : wrap64 (((pre.length : Nat) : Int) + 1) = ((pre.length + 1 : Nat) : Int) := Pl.wrap_succ (by have := HN.out; omega)
      have HW5 := Aside0.mk hw5
      have HOK := Aside0.mk hoki
      have HH := Aside0.mk hH
      have HLN := Aside0.mk hlen
      have hcall := markIntS_R w0 wr base oki m1 (m1 + (Ax.cntIntS y : Nat)) vi y HB.out HBB.out hR (by have := HM1.out; have := H0.out; omega) ⟨rfl, by have := HM1.out; have := HM.out; omega⟩
      have HR := Aside0.mk hR
      obtain ⟨Ai, ci, rfl⟩ := Kd.R_slice hR
      clear hw5 hoki hH hcc hml hlen hcnt hR hv2 hg hgl hcl
      go_wp2_with (first | (go_at_call 31; refine hcall.mono ?_; rintro e w2 ⟨rfl, hR2, hB2, hK2⟩; have HR2 := Aside0.mk hR2; have HB2 := Aside0.mk hB2; have HK2 := Aside0.mk hK2; clear hR2 hB2 hK2 hcall))
      go_roundg (post.length + 1)
      case measure => have := HG.out; simp at this; omega
      case rel =>
        have hsub : ∀ k, some k = (Value.slice Ai y.length ci).ownBlock → oki k := fun k hk => HR.out.1 k hk.symm
        refine ⟨pre ++ [y], post, _, rfl, ?_, ⟨?_⟩, ⟨?_⟩, ⟨Nat.le_refl _⟩, ⟨?_⟩, ⟨?_⟩, HB2⟩
        · rw [HW5.out]; simp
        · rw [HM1.out]; simp only [Ax.cntIntSS, Ax.cntOf_snoc]; omega
        · rw [HL.out]; simp
        · have hb2 := Kd.H_back (Kd.H_kept HH.out (S := fun k => some k = (Value.slice Ai y.length ci).ownBlock) HK2.out (fun k hk hn hs => hn (hsub k hs))) (x' := Ax.mkIntS y m1) (okp := oki) ⟨_, rfl, HR2.out⟩ (fun _ h => h)
          rw [Int.toNat_natCast, HM1.out, Ax.mkOf_set] at hb2
          exact hb2
        · exact HK.out.then_ HK2.out (fun k hk => .inl (HOK.out k (hsub k hk)).1)
theorem markIntSS (w0 w : World) (lo hi : Nat) (m M : Int) (v : Value) (l : List (List Int)) {q : Nat → Prop} (hB : Below w0.heap.size w0 w) (hlo : w0.heap.size ≤ lo) (o : Iv.Ob (Kd.slice 3 (Kd.int .i64)) 37 w lo hi q v l) (h0 : 0 ≤ m) (h1 : m + (Ax.cntIntSS l : Nat) = M ∧ M < 9223372036854775807) :
    Calls Try.prog 16 #[v, .int .i64 m] w fun e w' => e = .returned (.int .i64 M) ∧ Iv.Ob (Kd.slice 3 (Kd.int .i64)) 37 w' lo hi q v (Ax.mkIntSS l m) ∧ Below w0.heap.size w0 w' ∧ Kept w w' (fun k => lo ≤ k ∧ k < hi) := by
  refine (markIntSS_S w0 w lo _ m M v l hB hlo (Kd.S_bound o.1) h0 h1).mono ?_
  rintro e w' ⟨rfl, h2, h3, h4⟩
  exact ⟨rfl, ⟨Kd.S_mono h2 (fun k hk => hk.1), Nat.le_trans o.2 h4.1⟩, h3, h4.mono (fun k hk => ⟨hk.2.1, hk.1.1⟩)⟩
end Go.Proofs.Ytdnidldinafakaa.Mk

/- How many marks a sentence takes, and which. No condition. -/

namespace Go.Proofs.Ytdnidldinafakaa.Ax
set_option linter.unusedVariables false
open Go.Proofs.Ytdnidldinafakaa.Pr
abbrev cntDep (l0 l1 : List Int) : Nat := cntIntS l0 + cntIntS l1
abbrev mkDep_0 (l0 l1 : List Int) (m : Int) : List Int := mkIntS l0 m
abbrev mkDep_1 (l0 l1 : List Int) (m : Int) : List Int := mkIntS l1 (m + (cntIntS l0 : Nat))
end Go.Proofs.Ytdnidldinafakaa.Ax

/- How many marks a sentence takes. No condition. -/

namespace Go.Proofs.Ytdnidldinafakaa.Ax
open Go.RowKit Go.Proofs.Ytdnidldinafakaa.Pr Go.Proofs.Ytdnidldinafakaa.Pl Go.Proofs.YtdnidldinafakaaW.PrintWords Go.Proofs.YtdnidldinafakaaW.PrintLast Go.Proofs.YtdnidldinafakaaW.PrintMore
set_option linter.unusedVariables false
theorem cntDep_bd {l0 l1 : List Int} (h0 : BdIntS l0) (h1 : BdIntS l1) : cntDep l0 l1 ≤ 2097152 := by
  have := cntIntS_bd h0
  have := cntIntS_bd h1
  unfold cntDep
  omega
end Go.Proofs.Ytdnidldinafakaa.Ax

/- The marks in a row of sentences of the call's own, whose lists lie apart: contract. Conditions: marks that Go can hold. -/
namespace Go.Proofs.Ytdnidldinafakaa.Ax
set_option linter.unusedVariables false
open Go.Proofs.Ytdnidldinafakaa.Pr
def cD (d : S42) : Nat := cntDep d.f0 d.f1
def mD (d : S42) (m : Int) : S42 := ⟨mkDep_0 d.f0 d.f1 m, mkDep_1 d.f0 d.f1 m⟩
abbrev cntDepS : List S42 → Nat := cntOf cD
abbrev mkDepS : List S42 → Int → List S42 := mkOf cD mD
end Go.Proofs.Ytdnidldinafakaa.Ax
namespace Go.Proofs.Ytdnidldinafakaa.Mk
open Go.RowKit Go.Proofs.Ytdnidldinafakaa Go.Proofs.Ytdnidldinafakaa.Pr Go.Proofs.Ytdnidldinafakaa.Pl Go.Proofs.YtdnidldinafakaaW.PrintWords Go.Proofs.YtdnidldinafakaaW.PrintLast Go.Proofs.YtdnidldinafakaaW.PrintMore
set_option linter.unusedVariables false
set_option linter.unusedSimpArgs false
set_option maxHeartbeats 4000000 in
set_option maxRecDepth 100000 in
theorem markDepS_S (w0 w : World) (base : Nat) (ok : Nat → Prop) (m M : Int) (v : Value) (l : List S42) (hB : Below w0.heap.size w0 w) (hb : w0.heap.size ≤ base)
    (ho : Kd.S kA 42 w base ok v l) (h0 : 0 ≤ m) (h1 : m + (Ax.cntDepS l : Nat) = M ∧ M < 9223372036854775807) :
    Calls Try.prog 11 #[v, .int .i64 m] w fun e w' => e = .returned (.int .i64 M) ∧ Kd.S kA 42 w' base ok v (Ax.mkDepS l m) ∧ Below w0.heap.size w0 w' ∧ Kept w w' ok := by
  obtain ⟨A, c, rfl⟩ := Kd.S_slice ho
  obtain ⟨rfl, hM⟩ := h1
  have HN := Aside0.mk (Kd.S_reads' ho).2.2.2.1
  have HO := Aside0.mk ho
  have HB := Aside0.mk hB
  have HBB := Aside0.mk hb
  have H0 := Aside0.mk h0
  have HM := Aside0.mk hM
  clear ho hB hb h0 hM
  go_enter Try.func11, Try.ntmps11
  go_wp2
  go_loopg [1, 5] (l.length + 1) (fun gg v1 v5 wr => ∃ (pre post : List S42) (m1 : Int), v1 = .int .i64 m1 ∧ v5 = .int .i64 (pre.length : Nat) ∧ Aside0 (m1 = m + (Ax.cntDepS pre : Nat)) ∧ Aside0 (l = pre ++ post) ∧ Aside0 (post.length + 1 ≤ gg) ∧
    Aside0 (Kd.S kA 42 wr base ok (.slice A l.length c) (Ax.mkDepS pre m ++ post)) ∧ Aside0 (Kept w wr ok) ∧ Aside0 (Below w0.heap.size w0 wr))
  case atStart => exact ⟨[], l, m, rfl, rfl, ⟨by simp [Ax.cntOf]⟩, ⟨rfl⟩, ⟨Nat.le_refl _⟩, HO, ⟨Kept.refl _ _⟩, HB⟩
  case round =>
    clear HO HB
    obtain ⟨pre, post, m1, rfl, rfl, HM1, HL, HG, HO, HK, HB⟩ := hrel
    cases post with
    | nil =>
      have hlen : l.length = pre.length := by rw [HL.out]; simp
      have h1 : ¬ ((pre.length : Nat) : Int) < (l.length : Int) := by omega
      have hE : pre = l := by rw [HL.out]; simp
      have HE := Aside0.mk hE
      clear hE hlen
      go_wp2
      go_ret
      refine ⟨?_, ?_, HB.out, HK.out⟩
      · rw [HM1.out, HE.out]
        rfl
      · have := HO.out
        rwa [HE.out, List.append_nil] at this
    | cons y post =>
      have hlen : l.length = pre.length + (post.length + 1) := by rw [HL.out]; simp
      have h1 : ((pre.length : Nat) : Int) < (l.length : Int) := by omega
      have hml : (Ax.mkDepS pre m ++ y :: post).length = l.length := by rw [List.length_append, Ax.mkOf_length, hlen]; rfl
      obtain ⟨g, cap, hv, hg, hgl, _, _⟩ := Kd.S_form HO.out (by omega)
      injection hv with hv1 hv2 hv3
      subst hv1; subst hv3
      obtain ⟨oki, cs, hcl, hMd, hcc, hoki, hH⟩ := Kd.S_lend HO.out (z42 : S42) ((pre.length : Nat) : Int) (by omega) (by omega)
      rw [Int.toNat_natCast, Ax.mkOf_at] at hMd
      obtain ⟨gt, c0_, c1_, rfl, ⟨v0, rfl, hR0⟩, ⟨v1, rfl, hR1⟩⟩ := hMd
      have x0 := hcc 0 v0 rfl
      have x1 := hcc 1 v1 rfl
      simp only [Int.toNat_natCast, show kA.sz = 2 from rfl, Nat.add_zero] at x0 x1
      have hcnt : Ax.cntDepS l = Ax.cntDepS pre + (Ax.cD y + Ax.cntDepS post) := by rw [HL.out]; exact Ax.cntOf_append pre (y :: post)
      have hcy : Ax.cD y = Ax.cntIntS y.f0 + Ax.cntIntS y.f1 := rfl
      have hw5 : wrap64 (((pre.length : Nat) : Int) + 1) = ((pre.length + 1 : Nat) : Int) := Pl.wrap_succ (by have := HN.out; omega)
      have HW5 := Aside0.mk hw5
      have HOK := Aside0.mk hoki
      have HH := Aside0.mk hH
      have HLN := Aside0.mk hlen
      have hcall := markIntS_R w0 wr base _ m1 (m1 + (Ax.cntIntS y.f0 : Nat)) v0 y.f0 HB.out HBB.out hR0 (by have := HM1.out; have := H0.out; omega) ⟨rfl, by have := HM1.out; have := HM.out; omega⟩
      have hcall2 := fun (W : World) (hB' : Below w0.heap.size w0 W) (h : (Kd.int .i64).R 3 W base (fun k => oki k ∧ gt k = true) v1 y.f1) => markIntS_R w0 W base _ (m1 + (Ax.cntIntS y.f0 : Nat)) (m1 + (Ax.cntIntS y.f0 : Nat) + (Ax.cntIntS y.f1 : Nat)) v1 y.f1 hB' HBB.out h (by have := HM1.out; have := H0.out; omega) ⟨rfl, by have := HM1.out; have := HM.out; omega⟩
      have HCY := Aside0.mk hcy
      have HR0 := Aside0.mk hR0
      have HR1 := Aside0.mk hR1
      obtain ⟨Ai, ci, rfl⟩ := Kd.R_slice hR0
      obtain ⟨Aj, cj, rfl⟩ := Kd.R_slice hR1
      have X1 := Aside0.mk x1
      have HC1 := Aside0.mk hcall
      have HC2 := Aside0.mk hcall2
      clear hw5 hoki hH hcc hml hlen hcnt hcy hR0 hR1 hv2 hg hgl hcl x1 hcall hcall2
      go_wp2_with (first | (go_at_call 31; refine HC1.out.mono ?_; clear HC1; rintro e w2 ⟨rfl, hR2, hB2, hK2⟩; have HR2 := Aside0.mk hR2; have HB2 := Aside0.mk hB2; have HK2 := Aside0.mk hK2; have x1 := cell_kept X1.out hK2 (fun hs => (HOK.out _ (HR0.out.1 _ hs.symm).1).2 rfl); clear hR2 hB2 hK2))
      go_wp2_with (first | (go_at_call 31; refine (HC2.out w2 HB2.out (Kd.R_kept HR1.out HK2.out (fun k hk hs => by have := (HR0.out.1 k hs.symm).2; rw [hk.2] at this; cases this))).mono ?_; clear HC2; rintro e w3 ⟨rfl, hR3, hB3, hK3⟩; have HR3 := Aside0.mk hR3; have HB3 := Aside0.mk hB3; have HK3 := Aside0.mk hK3; clear hR3 hB3 hK3))
      go_roundg (post.length + 1)
      case measure => have := HG.out; simp at this; omega
      case rel =>
        have hs0 : ∀ k, some k = (Value.slice Ai y.f0.length ci).ownBlock → oki k ∧ gt k = false := fun k hk => HR0.out.1 k hk.symm
        have hs1 : ∀ k, some k = (Value.slice Aj y.f1.length cj).ownBlock → oki k ∧ gt k = true := fun k hk => HR1.out.1 k hk.symm
        refine ⟨pre ++ [y], post, _, rfl, ?_, ⟨?_⟩, ⟨?_⟩, ⟨Nat.le_refl _⟩, ⟨?_⟩, ⟨?_⟩, HB3⟩
        · rw [HW5.out]; simp
        · rw [HM1.out]; simp only [Ax.cntDepS, Ax.cntOf_snoc, HCY.out]; omega
        · rw [HL.out]; simp
        · have k0 := Kd.R_kept HR2.out HK3.out (fun k hk hs => by have := (hs1 k hs).2; rw [hk.2] at this; cases this)
          have hb2 := Kd.H_back (Kd.H_kept (Kd.H_kept HH.out HK2.out (fun k hk hn hs => hn (hs0 k hs).1)) HK3.out (fun k hk hn hs => hn (hs1 k hs).1)) (x' := Ax.mD y m1) (okp := oki) (show kA.M w3 base oki (Ax.mD y m1) [Value.slice Ai y.f0.length ci, Value.slice Aj y.f1.length cj] from ⟨gt, [_], [_], rfl, ⟨_, rfl, k0⟩, ⟨_, rfl, HR3.out⟩⟩) (fun _ h => h)
          rw [Int.toNat_natCast, HM1.out, Ax.mkOf_set] at hb2
          exact hb2
        · exact (HK.out.then_ HK2.out (fun k hk => .inl (HOK.out k (hs0 k hk).1).1)).then_ HK3.out (fun k hk => .inl (HOK.out k (hs1 k hk).1).1)
theorem markDepS (w0 w : World) (lo hi : Nat) (m M : Int) (v : Value) (l : List S42) {q : Nat → Prop} (hB : Below w0.heap.size w0 w) (hlo : w0.heap.size ≤ lo) (o : Iv.Ob kA 42 w lo hi q v l) (h0 : 0 ≤ m) (h1 : m + (Ax.cntDepS l : Nat) = M ∧ M < 9223372036854775807) :
    Calls Try.prog 11 #[v, .int .i64 m] w fun e w' => e = .returned (.int .i64 M) ∧ Iv.Ob kA 42 w' lo hi q v (Ax.mkDepS l m) ∧ Below w0.heap.size w0 w' ∧ Kept w w' (fun k => lo ≤ k ∧ k < hi) := by
  refine (markDepS_S w0 w lo _ m M v l hB hlo (Kd.S_bound o.1) h0 h1).mono ?_
  rintro e w' ⟨rfl, h2, h3, h4⟩
  exact ⟨rfl, ⟨Kd.S_mono h2 (fun k hk => hk.1), Nat.le_trans o.2 h4.1⟩, h3, h4.mono (fun k hk => ⟨hk.2.1, hk.1.1⟩)⟩
end Go.Proofs.Ytdnidldinafakaa.Mk

/- How many marks a row of sentences takes. No condition. -/
namespace Go.Proofs.Ytdnidldinafakaa.Ax
open Go.RowKit Go.Proofs.Ytdnidldinafakaa.Pr Go.Proofs.Ytdnidldinafakaa.Pl Go.Proofs.YtdnidldinafakaaW.PrintWords Go.Proofs.YtdnidldinafakaaW.PrintLast Go.Proofs.YtdnidldinafakaaW.PrintMore
set_option linter.unusedVariables false
theorem cntDepS_bd {l : List S39} (h : BdDepS l) : cntDepS (l.map cvDep) ≤ 2199023255552 := by
  have h1 := cnt_le (c := cD) 2097152 (l.map cvDep) (fun x hx => by
    obtain ⟨y, hy, rfl⟩ := List.mem_map.1 hx
    exact cntDep_bd (h.2 y hy).1 (h.2 y hy).2)
  rw [List.length_map] at h1
  exact Nat.le_trans h1 (Nat.mul_le_mul_right 2097152 h.1)
end Go.Proofs.Ytdnidldinafakaa.Ax
