/- What the laws' own helpers tell: sizes, copies, a comparison of a thing with itself, marks. Written by cv.py. Conditions: lengths that Go can hold. -/
import Derived.Test.YtdnidldinafakaaPr0
import Derived.Test.YtdnidldinafakaaPr10
import Derived.Test.YtdnidldinafakaaPr11
import Derived.Test.YtdnidldinafakaaPr5
import Derived.Test.YtdnidldinafakaaMx14
import Derived.Test.YtdnidldinafakaaMx17
namespace Go.Proofs.Ytdnidldinafakaa.Ax
open Go.RowKit Go.Proofs.Ytdnidldinafakaa.Pr Go.Proofs.Ytdnidldinafakaa.Pl Go.Proofs.Ytdnidldinafakaa.Ops Go.Proofs.YtdnidldinafakaaW.PrintWords Go.Proofs.YtdnidldinafakaaW.PrintLast Go.Proofs.YtdnidldinafakaaW.PrintMore
set_option linter.unusedVariables false
set_option linter.unusedSimpArgs false
theorem rd_T42_drop {xs ys : List S42} {j : Nat} {y : S42} (h : xs.drop j = y :: ys) : rd_T42 xs (j : Int) = y := by
  have := (drop_cons h).2.1
  simp [rd_T42, List.getD_eq_getElem?_getD, this]
theorem rd_T39_drop {xs ys : List S39} {j : Nat} {y : S39} (h : xs.drop j = y :: ys) : rd_T39 xs (j : Int) = y := by
  have := (drop_cons h).2.1
  simp [rd_T39, List.getD_eq_getElem?_getD, this]
def BdInt (n : Int) : Prop := True
def BdIntS (l : List Int) : Prop := l.length ≤ 1048576 ∧ ∀ e ∈ l, BdInt e
def OkInt (n : Int) : Prop := True
def OkIntS (l : List Int) : Prop := l.length < 9223372036854775807 ∧ ∀ e ∈ l, OkInt e
theorem ok_IntS {l : List Int} (h : BdIntS l) : OkIntS l := ⟨by have := h.1; omega, fun _ _ => trivial⟩
def cvDep (x : S39) : S42 := ⟨x.f0, x.f1⟩
def BdDep (x : S39) : Prop := BdIntS x.f0 ∧ BdIntS x.f1
def BdDepS (l : List S39) : Prop := l.length ≤ 1048576 ∧ ∀ e ∈ l, BdDep e
def OkDep (x : S42) : Prop := OkIntS x.f0 ∧ OkIntS x.f1
def OkDepS (l : List S42) : Prop := l.length < 9223372036854775807 ∧ ∀ e ∈ l, OkDep e
theorem ok_Dep {x : S39} (h : BdDep x) : OkDep (cvDep x) := ⟨ok_IntS h.1, ok_IntS h.2⟩
theorem ok_DepS {l : List S39} (h : BdDepS l) : OkDepS (l.map cvDep) := ⟨by have := h.1; simp; omega, fun e he => by obtain ⟨x, hx, rfl⟩ := List.mem_map.1 he; exact ok_Dep (h.2 x hx)⟩
theorem szIntS_ev (l : (List Int)) (n : Int) (hF : FLii64 l) (h0 : 0 ≤ n) (h1 : n ≤ 1048576) : ∃ r, Ev (fun k => laws_szIntS.f l n) r ∧ r ≤ 1048576 ∧ (0 ≤ r → BdIntS l) := by
  have h2 := hF.1
  simp only [laws_szIntS.f]
  rw [wrap_in (by omega) (by omega)]
  by_cases h : n - (l.length : Int) < 0
  · exact ⟨-1, by simp only [if_pos h]; exact ev_now rfl, by omega, fun h => by omega⟩
  · exact ⟨n - l.length, by simp only [if_neg h]; exact ev_now rfl, by omega, fun _ => ⟨by omega, fun _ _ => trivial⟩⟩
theorem toIntS_l0 (xs : (List Int)) (hb : xs.length < 9223372036854775807) : ∀ (ys : (List Int)) (j : Nat) (out : (List Int)), xs.drop j = ys → (∀ e ∈ ys, BdInt e) → j ≤ xs.length → out.length = xs.length → out.take j = xs.take j →
    Ev (fun k => laws_toIntS.l0 k xs out (j : Int)) xs
  | [], j, out, h, hB, hj, ho, hp => by
    have h1 := drop_nil h
    refine ev_succ ?_
    simp only [laws_toIntS.l0]
    simp only [if_neg (show ¬ ((j : Int) < (xs.length : Int)) by omega)]
    refine ev_now ?_
    have e1 : out.take j = out := List.take_of_length_le (by omega)
    have e2 : xs.take j = xs := List.take_of_length_le (by omega)
    rw [← e1, hp, e2]
  | y :: ys, j, out, h, hB, hj, ho, hp => by
    obtain ⟨h1, h2, h3⟩ := drop_cons h
    have hs := set_end (xs := xs) (y := y) h (by rw [ho]) hp
    refine ev_succ ?_
    simp only [laws_toIntS.l0]
    simp only [if_pos (show (j : Int) < (xs.length : Int) by omega), if_pos (show (0 : Int) ≤ (j : Int) by omega), rd_drop h]
    simp only [if_pos (show (j : Int) < (out.length : Int) by omega), wrap_succ (show j < 9223372036854775807 by omega), Int.toNat_natCast]
    exact toIntS_l0 xs hb ys (j + 1) (out.set j y) h3 (fun e he => hB e (by simp [he])) (by omega) (by rw [List.length_set]; exact ho) hs.2
theorem toIntS_ev (xs : (List Int)) (hB : BdIntS xs) : Ev (fun k => laws_toIntS.f k xs) (xs) := by
  have h1 := hB.1
  simp only [laws_toIntS.f]
  simp only [if_pos (show (0 : Int) ≤ (xs.length : Int) by omega), Int.toNat_natCast, if_pos (show xs.length ≤ 35184372088832 by omega)]
  exact toIntS_l0 xs (by omega) xs 0 _ rfl hB.2 (by omega) (by simp) (by simp)
theorem eqIntS_l0 (xs : (List Int)) (hb : xs.length < 9223372036854775807) : ∀ (ys : (List Int)) (j : Nat), xs.drop j = ys → (∀ e ∈ ys, OkInt e) → Ev (fun k => laws_eqIntS.l0 k xs xs (j : Int)) true
  | [], j, h, hO => by
    have h1 := drop_nil h
    refine ev_succ ?_
    simp only [laws_eqIntS.l0]
    simp only [if_neg (show ¬ ((j : Int) < (xs.length : Int)) by omega)]
    exact ev_now rfl
  | y :: ys, j, h, hO => by
    obtain ⟨h1, h2, h3⟩ := drop_cons h
    refine ev_succ ?_
    simp only [laws_eqIntS.l0]
    simp only [if_pos (show (j : Int) < (xs.length : Int) by omega), if_pos (show (0 : Int) ≤ (j : Int) by omega), rd_drop h, wrap_succ (show j < 9223372036854775807 by omega)]
    simp only [if_true]
    exact eqIntS_l0 xs hb ys (j + 1) h3 (fun e he => hO e (by simp [he]))
theorem eqIntS_ev (xs : (List Int)) (hO : OkIntS xs) : Ev (fun k => laws_eqIntS.f k xs xs) true := by
  have h1 := hO.1
  simp only [laws_eqIntS.f]
  simp only [if_true]
  exact eqIntS_l0 xs h1 xs 0 rfl hO.2
theorem szDep_ev (x : S39) (n : Int) (hF : F39 x) (h0 : 0 ≤ n) (h1 : n ≤ 1048576) : ∃ r, Ev (fun k => laws_szDep.f x.f0 x.f1 n) r ∧ r ≤ 1048576 ∧ (0 ≤ r → BdDep x) := by
  simp only [laws_szDep.f]
  obtain ⟨r0, e0, l0, b0⟩ := szIntS_ev x.f0 n hF.1 h0 h1
  by_cases c0 : r0 < 0
  · refine ⟨-1, ?_, by omega, fun h => by omega⟩
    refine Ev.bind e0 ?_
    simp only [if_pos c0]
    exact ev_now rfl
  obtain ⟨r1, e1, l1, b1⟩ := szIntS_ev x.f1 r0 hF.2 (by omega) l0
  by_cases c1 : r1 < 0
  · refine ⟨-1, ?_, by omega, fun h => by omega⟩
    refine Ev.bind e0 ?_
    simp only [if_neg c0]
    refine Ev.bind e1 ?_
    simp only [if_pos c1]
    exact ev_now rfl
  refine ⟨r1, ?_, l1, fun h => ⟨b0 (by omega), b1 (by omega)⟩⟩
  refine Ev.bind e0 ?_
  simp only [if_neg c0]
  refine Ev.bind e1 ?_
  simp only [if_neg c1]
  exact ev_now rfl
theorem szDepS_l0 (xs : (List S39)) (hb : xs.length < 9223372036854775807) : ∀ (ys : (List S39)) (j : Nat) (n : Int), xs.drop j = ys → (∀ e ∈ ys, F39 e) → 0 ≤ n → n ≤ 1048576 → ∃ r, Ev (fun k => laws_szDepS.l0 k xs n (j : Int)) r ∧ r ≤ 1048576 ∧ (0 ≤ r → ∀ e ∈ ys, BdDep e)
  | [], j, n, h, hF, h0, h1 => by
    have h2 := drop_nil h
    refine ⟨n, ev_succ ?_, h1, fun _ e he => absurd he (by simp)⟩
    simp only [laws_szDepS.l0]
    simp only [if_neg (show ¬ ((j : Int) < (xs.length : Int)) by omega)]
    exact ev_now rfl
  | y :: ys, j, n, h, hF, h0, h1 => by
    obtain ⟨h2, h3, h4⟩ := drop_cons h
    obtain ⟨r1, e1, l1, b1⟩ := szDep_ev y n (hF y (by simp)) h0 h1
    by_cases hr : r1 < 0
    · refine ⟨-1, ev_succ ?_, by omega, fun h => by omega⟩
      simp only [laws_szDepS.l0]
      simp only [if_pos (show (j : Int) < (xs.length : Int) by omega), if_pos (show (0 : Int) ≤ (j : Int) by omega), rd_T39_drop h]
      refine Ev.bind e1 ?_
      simp only [if_pos hr]
      exact ev_now rfl
    · obtain ⟨r2, e2, l2, b2⟩ := szDepS_l0 xs hb ys (j + 1) r1 h4 (fun e he => hF e (by simp [he])) (by omega) l1
      refine ⟨r2, ev_succ ?_, l2, fun h e he => ?_⟩
      · simp only [laws_szDepS.l0]
        simp only [if_pos (show (j : Int) < (xs.length : Int) by omega), if_pos (show (0 : Int) ≤ (j : Int) by omega), rd_T39_drop h]
        refine Ev.bind e1 ?_
        simp only [if_neg hr, wrap_succ (show j < 9223372036854775807 by omega)]
        exact e2
      · rcases List.mem_cons.1 he with rfl | he
        · exact b1 (by omega)
        · exact b2 h e he
theorem szDepS_ev (l : (List S39)) (n : Int) (hF : FL39 l) (h0 : 0 ≤ n) (h1 : n ≤ 1048576) : ∃ r, Ev (fun k => laws_szDepS.f k l n) r ∧ r ≤ 1048576 ∧ (0 ≤ r → BdDepS l) := by
  have h2 := hF.1
  simp only [laws_szDepS.f]
  rw [wrap_in (by omega) (by omega)]
  by_cases h : n - (l.length : Int) < 0
  · exact ⟨-1, by simp only [if_pos h]; exact ev_now rfl, by omega, fun h => by omega⟩
  · obtain ⟨r, e, l1, b⟩ := szDepS_l0 l (by omega) l 0 (n - l.length) rfl hF.2 (by omega) (by omega)
    exact ⟨r, by simp only [if_neg h]; exact e, l1, fun h => ⟨by omega, b h⟩⟩
theorem toDep_ev (x : S39) (hB : BdDep x) : Ev (fun k => laws_toDep.f k x.f0 x.f1) ((cvDep x).f0, (cvDep x).f1) := by
  simp only [laws_toDep.f]
  refine Ev.bind (toIntS_ev x.f0 hB.1) ?_
  refine Ev.bind (toIntS_ev x.f1 hB.2) ?_
  exact ev_now rfl
theorem toDepS_l0 (xs : (List S39)) (hb : xs.length < 9223372036854775807) : ∀ (ys : (List S39)) (j : Nat) (out : (List S42)), xs.drop j = ys → (∀ e ∈ ys, BdDep e) → j ≤ xs.length → out.length = xs.length → out.take j = (xs.map cvDep).take j →
    Ev (fun k => laws_toDepS.l0 k xs out (j : Int)) (xs.map cvDep)
  | [], j, out, h, hB, hj, ho, hp => by
    have h1 := drop_nil h
    refine ev_succ ?_
    simp only [laws_toDepS.l0]
    simp only [if_neg (show ¬ ((j : Int) < (xs.length : Int)) by omega)]
    refine ev_now ?_
    have e1 : out.take j = out := List.take_of_length_le (by omega)
    have e2 : (xs.map cvDep).take j = xs.map cvDep := List.take_of_length_le (by simp only [List.length_map]; omega)
    rw [← e1, hp, e2]
  | y :: ys, j, out, h, hB, hj, ho, hp => by
    obtain ⟨h1, h2, h3⟩ := drop_cons h
    have hs := set_end (xs := xs.map cvDep) (y := (cvDep y)) (by rw [← List.map_drop, h]; rfl) (by rw [ho, List.length_map]) hp
    refine ev_succ ?_
    simp only [laws_toDepS.l0]
    simp only [if_pos (show (j : Int) < (xs.length : Int) by omega), if_pos (show (0 : Int) ≤ (j : Int) by omega), rd_T39_drop h]
    refine Ev.bind (toDep_ev y (hB y (by simp))) ?_
    simp only [if_pos (show (j : Int) < (out.length : Int) by omega), wrap_succ (show j < 9223372036854775807 by omega), Int.toNat_natCast]
    exact toDepS_l0 xs hb ys (j + 1) (out.set j (cvDep y)) h3 (fun e he => hB e (by simp [he])) (by omega) (by rw [List.length_set]; exact ho) hs.2
theorem toDepS_ev (xs : (List S39)) (hB : BdDepS xs) : Ev (fun k => laws_toDepS.f k xs) (xs.map cvDep) := by
  have h1 := hB.1
  simp only [laws_toDepS.f]
  simp only [if_pos (show (0 : Int) ≤ (xs.length : Int) by omega), Int.toNat_natCast, if_pos (show xs.length ≤ 5864062014805 by omega)]
  exact toDepS_l0 xs (by omega) xs 0 _ rfl hB.2 (by omega) (by simp) (by simp)
theorem eqDep_ev (x : S42) (hO : OkDep x) : Ev (fun k => laws_eqDep.f k x.f0 x.f1 x.f0 x.f1) true := by
  simp only [laws_eqDep.f, if_true, bne_self_eq_false, Bool.false_eq_true, if_false]
  refine Ev.bind (eqIntS_ev x.f0 hO.1) ?_
  simp only [if_true, bne_self_eq_false, Bool.false_eq_true, if_false]
  refine Ev.bind (eqIntS_ev x.f1 hO.2) ?_
  simp only [if_true, bne_self_eq_false, Bool.false_eq_true, if_false]
  exact ev_now rfl
theorem eqDepS_l0 (xs : (List S42)) (hb : xs.length < 9223372036854775807) : ∀ (ys : (List S42)) (j : Nat), xs.drop j = ys → (∀ e ∈ ys, OkDep e) → Ev (fun k => laws_eqDepS.l0 k xs xs (j : Int)) true
  | [], j, h, hO => by
    have h1 := drop_nil h
    refine ev_succ ?_
    simp only [laws_eqDepS.l0]
    simp only [if_neg (show ¬ ((j : Int) < (xs.length : Int)) by omega)]
    exact ev_now rfl
  | y :: ys, j, h, hO => by
    obtain ⟨h1, h2, h3⟩ := drop_cons h
    refine ev_succ ?_
    simp only [laws_eqDepS.l0]
    simp only [if_pos (show (j : Int) < (xs.length : Int) by omega), if_pos (show (0 : Int) ≤ (j : Int) by omega), rd_T42_drop h, wrap_succ (show j < 9223372036854775807 by omega)]
    refine Ev.bind (eqDep_ev y (hO y (by simp))) ?_
    simp only [if_true]
    exact eqDepS_l0 xs hb ys (j + 1) h3 (fun e he => hO e (by simp [he]))
theorem eqDepS_ev (xs : (List S42)) (hO : OkDepS xs) : Ev (fun k => laws_eqDepS.f k xs xs) true := by
  have h1 := hO.1
  simp only [laws_eqDepS.f]
  simp only [if_true]
  exact eqDepS_l0 xs h1 xs 0 rfl hO.2
end Go.Proofs.Ytdnidldinafakaa.Ax
