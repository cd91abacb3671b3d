/- Several small texts together: FIdxDep, Ar. No condition but those they name. -/
import Derived.Test.YtcengijoicmldaaGreatPr0
import Derived.Test.YtcengijoicmldaaGreatMx11
import Derived.Test.YtcengijoicmldaaGreatPr1
import Derived.Test.YtcengijoicmldaaGreatPr5
import Derived.Test.YtcengijoicmldaaGreatMx5
/- slices.IndexFunc and slices.ContainsFunc over deps, whatever predicate is handed in: contracts that lean on the predicate's own. -/
namespace Go.Proofs.YtcengijoicmldaaGreat.Pr
open Go.RowKit Go.Proofs.YtcengijoicmldaaGreatW.PrintWords Go.Proofs.YtcengijoicmldaaGreatW.PrintLast Go.Proofs.YtcengijoicmldaaGreatW.PrintMore
set_option linter.unusedVariables false
set_option linter.unusedSimpArgs false
theorem rdDep_get {l : List S35} {kk : Nat} (h : kk < l.length) : l[kk]? = some (rd_T35 l (kk : Int)) := by
  simp [rd_T35, List.getD_eq_getElem?_getD, List.getElem?_eq_getElem h]
set_option maxHeartbeats 1000000 in
set_option maxRecDepth 100000 in
theorem IdxDep (g : Nat) (lb : Array Value) (eg : ∀ args w, (callFunc g args).run Tryz.prog w = .ok (.enter g args) w) (p : S35 → Bool) (A : Option Addr) (c : Nat) (l : List S35) (w : World) (hr : Kd.C k35 w A l.length l)
    (hp : ∀ (W : World) (x : S35) (B0 : Option Addr) (b0 : Nat) (B1 : Option Addr) (b1 : Nat), Below w.heap.size w W → x ∈ l → x.f0.length ≤ b0 → Kd.C (Kd.int .i64) w B0 x.f0.length x.f0 → x.f1.length ≤ b1 → Kd.C (Kd.int .i64) w B1 x.f1.length x.f1 → Calls Tryz.prog g (#[.agg #[.slice B0 x.f0.length b0, .slice B1 x.f1.length b1]] ++ lb) W fun e w' => e = .returned (.bool (p x)) ∧ Below W.heap.size W w') :
    Calls Tryz.prog 60 #[.slice A l.length c, .func (.func g) #[] lb] w (IdxPost p l w) := by
  have HR := Aside0.mk hr
  have HP := Aside0.mk hp
  have HN := Aside0.mk hr.2.1
  clear hr hp
  go_enter Tryz.func60, Tryz.ntmps60
  go_wp2
  go_loopg [8] (l.length + 1) (fun gg v8 wr => ∃ kk : Nat, v8 = .int .i64 kk ∧ Aside0 (kk ≤ l.length) ∧ Aside0 (l.length + 1 - kk ≤ gg) ∧ Aside0 (∀ y ∈ l.take kk, p y = false) ∧ Aside0 (Below w.heap.size w wr))
  case atStart => exact ⟨0, rfl, ⟨Nat.zero_le _⟩, ⟨by omega⟩, ⟨by simp⟩, ⟨Below.refl _ _⟩⟩
  case round =>
    obtain ⟨kk, rfl, HK, HG, HF, HB⟩ := hrel
    by_cases hlt : kk < l.length
    · have h0 : (0 : Int) ≤ (kk : Int) := by omega
      have h1 : (kk : Int) < (l.length : Int) := by omega
      obtain ⟨ad, A0, c0, A1, c1, e1, x0, x1, hl0, hi0, hl1, hi1⟩ := at_T35 HR.out (kk : Int) h0 h1
      have hN := HN.out
      have hw : wrap64 ((kk : Int) + 1) = ((kk + 1 : Nat) : Int) := Pl.wrap_succ (by omega)
      have HW := Aside0.mk hw
      have hx := rdDep_get hlt
      have hlt := Aside0.mk hlt
      clear hw hN
      cases e1
      simp only [Int.toNat_natCast] at x0 x1
      replace x0 := (HB.out.cell (World.block_lt_of_cell? w _ x0)).trans x0
      replace x1 := (HB.out.cell (World.block_lt_of_cell? w _ x1)).trans x1
      have hcall := HP.out wr (rd_T35 l kk) A0 c0 A1 c1 HB.out (List.mem_of_getElem? hx) hl0 hi0 hl1 hi1
      generalize rd_T35 l (kk : Int) = x at x0 x1 hcall hx hl0 hi0 hl1 hi1
      have HX := Aside0.mk hx
      clear hx hl0 hi0 hl1 hi1
      cases hq : p x with
      | true =>
        rw [hq] at hcall
        have HQ := Aside0.mk hq
        clear hq
        go_wp2_with (first | (go_at_fn g; refine hcall.mono ?_; rintro e w' ⟨rfl, hb'⟩; have HB' := Aside0.mk hb'; clear hb'))
        go_ret
        exact ⟨(kk : Int), rfl, IsIdx_hit hlt.out HX.out HQ.out HF.out, below_step HB.out HB'.out⟩
      | false =>
        rw [hq] at hcall
        have HQ := Aside0.mk hq
        clear hq
        go_wp2_with (first | (go_at_fn g; refine hcall.mono ?_; rintro e w' ⟨rfl, hb'⟩; have HB' := Aside0.mk hb'; clear hb'))
        go_roundg (l.length - kk)
        case measure => have := HG.out; have := hlt.out; omega
        case rel =>
          exact ⟨kk + 1, by rw [HW.out], ⟨hlt.out⟩, ⟨by omega⟩, ⟨IsIdx_step hlt.out HX.out HQ.out HF.out⟩, ⟨below_step HB.out HB'.out⟩⟩
    · have h1 : ¬ (kk : Int) < (l.length : Int) := by omega
      have hge : l.length ≤ kk := by omega
      have HGE := Aside0.mk hge
      clear hge hlt
      go_wp2
      go_ret
      exact ⟨-1, rfl, IsIdx_miss HGE.out HF.out, HB.out⟩
set_option maxHeartbeats 1000000 in
theorem ConDep (g : Nat) (lb : Array Value) (eg : ∀ args w, (callFunc g args).run Tryz.prog w = .ok (.enter g args) w) (p : S35 → Bool) (A : Option Addr) (c : Nat) (l : List S35) (w : World) (hr : Kd.C k35 w A l.length l)
    (hp : ∀ (W : World) (x : S35) (B0 : Option Addr) (b0 : Nat) (B1 : Option Addr) (b1 : Nat), Below w.heap.size w W → x ∈ l → x.f0.length ≤ b0 → Kd.C (Kd.int .i64) w B0 x.f0.length x.f0 → x.f1.length ≤ b1 → Kd.C (Kd.int .i64) w B1 x.f1.length x.f1 → Calls Tryz.prog g (#[.agg #[.slice B0 x.f0.length b0, .slice B1 x.f1.length b1]] ++ lb) W fun e w' => e = .returned (.bool (p x)) ∧ Below W.heap.size W w') :
    Calls Tryz.prog 43 #[.slice A l.length c, .func (.func g) #[] lb] w fun e w' => e = .returned (.bool (l.any p)) ∧ Below w.heap.size w w' := by
  have hi := IdxDep g lb eg p A c l w hr hp
  clear hr hp
  go_enter Tryz.func43, Tryz.ntmps43
  go_wp2_with (first | (go_at_call 60; refine hi.mono ?_; rintro e w' ⟨i, rfl, hx, hb'⟩; have HB' := Aside0.mk hb'; have HX := Aside0.mk (IsIdx_any hx); clear hb' hi hx))
  go_ret
  exact ⟨by rw [← HX.out]; first | rfl | simp | (congr 2; simp) , HB'.out⟩
end Go.Proofs.YtcengijoicmldaaGreat.Pr

/- What rising numbers tell. Conditions: lengths that Go can hold. -/
namespace Go.Proofs.YtcengijoicmldaaGreat.Ax
open Go.RowKit Go.Proofs.YtcengijoicmldaaGreat.Pr Go.Proofs.YtcengijoicmldaaGreat.Pl Go.Proofs.YtcengijoicmldaaGreatW.PrintWords Go.Proofs.YtcengijoicmldaaGreatW.PrintLast Go.Proofs.YtcengijoicmldaaGreatW.PrintMore
set_option linter.unusedVariables false
set_option linter.unusedSimpArgs false
def rs (lo hi : Int) : Option Int → List Int → Bool
  | _, [] => true
  | p, x :: xs => win x lo hi && (match p with | none => true | some q => decide (q < x)) && rs lo hi (some x) xs
theorem rs_nil (lo hi : Int) (p : Option Int) : rs lo hi p [] = true := by cases p <;> rfl
theorem rs_cons (lo hi : Int) (p : Option Int) (x : Int) (xs : List Int) : rs lo hi p (x :: xs) = (win x lo hi && (match p with | none => true | some q => decide (q < x)) && rs lo hi (some x) xs) := by cases p <;> rfl
theorem isRising_l0 (lo hi : Int) (xs : List Int) (hb : xs.length ≤ 9223372036854775807) : ∀ (ys : List Int) (j : Nat), xs.drop j = ys →
    Ev (fun k => impl_isRising.l0 k xs lo hi xs (xs.length : Int) (j : Int)) (rs lo hi (if j = 0 then none else some (rd xs ((j : Int) - 1))) ys)
  | [], j, h => by
    have h1 := drop_nil h
    refine ev_succ ?_
    simp only [impl_isRising.l0]
    simp only [if_neg (show ¬ ((j : Int) < (xs.length : Int)) by omega)]
    exact ev_now (rs_nil _ _ _).symm
  | y :: ys, j, h => by
    obtain ⟨h1, h2, h3⟩ := drop_cons h
    have ih := isRising_l0 lo hi xs hb ys (j + 1) h3
    have ep : rd xs (((j + 1 : Nat) : Int) - 1) = y := by rw [show ((j + 1 : Nat) : Int) - 1 = (j : Int) by omega]; exact rd_drop h
    rw [if_neg (by omega), ep] at ih
    refine ev_succ ?_
    simp only [impl_isRising.l0]
    simp only [if_pos (show (j : Int) < (xs.length : Int) by omega), if_pos (show (0 : Int) ≤ (j : Int) by omega), rd_drop h, within_eq, Option.bind_some, wrap_succ (show j < 9223372036854775807 by omega)]
    rw [rs_cons]
    cases e : win y lo hi
    · simp only [Bool.false_eq_true, if_false]
      exact ev_now (by simp)
    · simp only [if_true]
      by_cases hj : j = 0
      · subst hj
        simp only [if_neg (show ¬ (((0 : Nat) : Int) > 0) by omega)]
        simpa using ih
      · simp only [if_pos (show (j : Int) > 0 by omega), wrap_in (show -9223372036854775808 ≤ (j : Int) - 1 by omega) (show (j : Int) - 1 < 9223372036854775808 by omega), if_pos (show 0 ≤ (j : Int) - 1 by omega), if_pos (show (j : Int) - 1 < (xs.length : Int) by omega), if_neg hj]
        by_cases hk : rd xs ((j : Int) - 1) ≥ y
        · simp only [if_pos hk]
          exact ev_now (by simp; intro h; omega)
        · simp only [if_neg hk]
          simpa [show rd xs ((j : Int) - 1) < y by omega] using ih
theorem isRising_ev (xs : List Int) (lo hi : Int) (hb : xs.length < 9223372036854775807) : Ev (fun k => impl_isRising.f k xs lo hi) (rs lo hi none xs) := isRising_l0 lo hi xs (by omega) xs 0 rfl
theorem isRising_ev' (xs : List Int) (lo hi : Int) (hb : xs.length ≤ 9223372036854775807) : Ev (fun k => impl_isRising.f k xs lo hi) (rs lo hi none xs) := isRising_l0 lo hi xs hb xs 0 rfl
theorem rising_eq : ∀ k xs lo hi ys n j, spec_l1Rising.l0 k xs lo hi ys n j = impl_isRising.l0 k xs lo hi ys n j
  | 0, _, _, _, _, _, _ => by simp only [spec_l1Rising.l0, impl_isRising.l0]
  | k + 1, _, _, _, _, _, _ => by simp only [spec_l1Rising.l0, impl_isRising.l0, rising_eq k, l1In_eq, within_eq]
theorem l1Rising_ev (xs : List Int) (lo hi : Int) (hb : xs.length < 9223372036854775807) : Ev (fun k => spec_l1Rising.f k xs lo hi) (rs lo hi none xs) := by
  simp only [spec_l1Rising.f, rising_eq]
  exact isRising_l0 lo hi xs (by omega) xs 0 rfl
end Go.Proofs.YtcengijoicmldaaGreat.Ax
