/- Several small texts together: ECloneValue, ASum. No condition but those they name. -/
import Derived.Test.YtmlbihhaikknnaaPr0
import Derived.Test.YtmlbihhaikknnaaMx5
import Derived.Lib.LazyBuf
import Derived.Lib.BufferMore
import Derived.Test.YtmlbihhaikknnaaPr10
import Derived.Test.YtmlbihhaikknnaaPr5
import Derived.Test.YtmlbihhaikknnaaMerge0
/- slices.Clone at values: a new slice with the same elements (nil for nil). Condition: a length that Go can make room for. -/
namespace Go.Proofs.Ytmlbihhaikknnaa.Pr
open Go.RowKit Go.Proofs.YtmlbihhaikknnaaW.PrintWords Go.Proofs.YtmlbihhaikknnaaW.PrintLast Go.Proofs.YtmlbihhaikknnaaW.PrintMore
set_option linter.unusedVariables false
set_option linter.unusedSimpArgs false
def impl_CloneV.f (l0 : List S43) : Option (List S43) := if l0.length * 16 ≤ 140737488355328 then some l0 else none
set_option maxHeartbeats 1000000 in
set_option maxRecDepth 100000 in
theorem impl_CloneV.calls (A0 : Option Addr) (c0 : Nat) (l0 : List S43) (r : List S43) (w : World) (hr0 : Kd.C k43 w A0 l0.length l0) (hc0 : l0.length ≤ c0) (h : impl_CloneV.f l0 = some r) :
    Calls Try.prog 43 #[.slice A0 l0.length c0] w fun e w' => ∃ v0_ : Value, e = .returned (v0_) ∧ Kd.R k43 43 w' w.heap.size (fun _ => True) v0_ r ∧ Below w.heap.size w w' := by
  unfold impl_CloneV.f at h
  by_cases hb : l0.length * 16 ≤ 140737488355328
  · rw [if_pos hb] at h
    obtain rfl := Option.some.inj h
    clear h
    have hnil := fun (W : World) => run_eql_slice_nil (P := Try.prog) W 24 43 A0 l0.length c0 Try.underlying24
    cases A0 with
    | none =>
      have h0 : l0 = [] := by
        rcases Nat.eq_zero_or_pos l0.length with h0 | h0
        · exact List.eq_nil_of_length_eq_zero h0
        · obtain ⟨ad, e1, _⟩ := hr0.2.2 h0
          cases e1
      subst h0
      have hnil2 := fun (W : World) => Lib.run_eql_slice_nil_nil (P := Try.prog) W 0 c0 Try.underlying24
      clear hb hr0 hc0 hnil
      go_enter Try.func43, Try.ntmps43
      go_wp2
      go_ret
      exact ⟨_, rfl, Kd.R_nil _ _ _ _ _, Below.refl _ _⟩
    | some ad =>
      have HR := Aside0.mk hr0
      have HL := Aside0.mk hb
      have HB := Aside0.mk (Below.refl w.heap.size w)
      clear hr0 hb
      go_enter Try.func43, Try.ntmps43
      go_wp2_with (first | ((with_reducible refine gate_dst (N := 5) rfl ?_); refine Kd.R_lit k43 _ 43 ?hg (N := 5) ?hd (xs := ([] : List S43)) (inner := []) (ok := fun _ => True) (okp := fun _ => True) ?hr ?hp (fun _ hk => hk) trivial (Below.refl _ _) (Nat.le_refl _) (by simp) ?_; (case hd => rfl); (case hg => rfl); (case hr => first | (go_simp; done) | (go_simp; rfl)); (case hp => exact (Reps.none _ _)); intro v5 w5 ho5 hb5 hg_ hnew_; clear hg_ hnew_; have HO := Aside0.mk ho5; have HB5 := Aside0.mk hb5; clear ho5 hb5 HB) | ((with_reducible refine gate_builtin (b := .append) (xs := #[.tmp 5, .tmp 6]) rfl ?_); at_builtin; refine Kd.R_append_rows k43 (w0 := w) w.heap.size rfl (.tmp 5) (.tmp 6) 24 43 (.agg #[(.bool false), (.int .i64 0)]) 16 rfl Try.underlying24 info43 rfl (by decide) (by omega) v5 [] l0 _ _ _ (fun _ => True) (fun _ => False) rfl rfl ?aO ?aR (fun _ _ h => h) (fun _ h => h.elim) (fun _ _ => trivial) ?aB ?aS ?aL ?_; (case aR => exact Kd.C_below HR.out HB5.out); (case aB => exact HB5.out); (case aO => exact HO.out); (case aS => exact HB5.out.size); (case aL => have := HL.out; simpa using this); intro v6 w6 ho hb6 hg6 hat6; have HO6 := Aside0.mk ho; have HB6 := Aside0.mk hb6; clear ho hb6 hg6 hat6 HO HB5))
      go_ret
      exact ⟨_, rfl, by simpa using HO6.out, HB6.out⟩
  · rw [if_neg hb] at h
    cases h
end Go.Proofs.Ytmlbihhaikknnaa.Pr

/- The sum of values: what one step of the reference adds, what the program's loop comes to. Conditions: good values, no more than 40. -/
namespace Go.Proofs.Ytmlbihhaikknnaa.Ax
open Go.RowKit Go.Proofs.Ytmlbihhaikknnaa.Pr Go.Proofs.Ytmlbihhaikknnaa.Pl Go.Proofs.YtmlbihhaikknnaaW.PrintWords Go.Proofs.YtmlbihhaikknnaaW.PrintLast Go.Proofs.YtmlbihhaikknnaaW.PrintMore
set_option linter.unusedVariables false
set_option linter.unusedSimpArgs false
def sumF : List S43 → Int → Int → Bool → Int → Bool → Int → Int × Int × Bool × Int × Bool × Int
  | [], k, t, a, lo, b, hi => (k, t, a, lo, b, hi)
  | y :: ys, k, t, a, lo, b, hi => if y.f0 = true then sumF ys k t a lo b hi else if k = 0 then sumF ys (k + 1) (t + y.f1) y.f0 (mn y.f1 y.f1) y.f0 (mx y.f1 y.f1) else sumF ys (k + 1) (t + y.f1) a (mn lo y.f1) b (mx hi y.f1)
theorem mn_self (x : Int) : mn x x = x := by unfold mn; split <;> rfl
theorem mx_self (x : Int) : mx x x = x := by unfold mx; split <;> rfl
theorem add_ev (r k t lo hi : Int) (a b : Bool) (y : S43) (hr : 0 ≤ r ∧ r ≤ 1000) (hk : 0 ≤ k ∧ k ≤ 1000) (ht : -1000000 ≤ t ∧ t ≤ 1000000) (hy : y.f0 = true ∨ (-1000 ≤ y.f1 ∧ y.f1 ≤ 1000)) (hab : k ≠ 0 → a = false ∧ b = false) :
    Ev (fun n => spec_l4Add.f n r k t a lo b hi y.f0 y.f1) (if y.f0 = true then (r + 1, k, t, a, lo, b, hi) else if k = 0 then (r + 1, k + 1, t + y.f1, y.f0, mn y.f1 y.f1, y.f0, mx y.f1 y.f1) else (r + 1, k + 1, t + y.f1, a, mn lo y.f1, b, mx hi y.f1)) := by
  simp only [spec_l4Add.f, wrap_in (x := r + 1) (by omega) (by omega), wrap_in (x := k + 1) (by omega) (by omega)]
  cases h0 : y.f0
  · have hv : -1000 ≤ y.f1 ∧ y.f1 ≤ 1000 := by
      rcases hy with h | h
      · rw [h0] at h
        cases h
      · exact h
    simp only [Bool.false_eq_true, if_false, wrap_in (x := t + y.f1) (by omega) (by omega)]
    by_cases hk0 : k = 0
    · subst hk0
      simp only [Int.zero_add, if_true]
      refine ev_succ ?_
      simp only [spec_l4Add.j0, if_true]
      exact ev_now (by rw [mn_self, mx_self])
    · simp only [if_neg hk0, if_neg (show ¬ (k + 1 = 1) by omega)]
      obtain ⟨rfl, rfl⟩ := hab hk0
      refine ev_succ ?_
      simp only [spec_l4Add.j0]
      have hm : mn lo y.f1 = if y.f1 < lo then y.f1 else lo := by unfold mn; split <;> first | rfl | (split <;> omega)
      have hM : mx hi y.f1 = if y.f1 > hi then y.f1 else hi := by unfold mx; split <;> first | rfl | (split <;> omega)
      rw [hm, hM]
      by_cases e1 : y.f1 < lo <;> by_cases e2 : y.f1 > hi <;> simp only [e1, e2, decide_true, decide_false, Bool.false_eq_true, if_true, if_false, if_neg (show ¬ (k + 1 = 1) by omega)] <;> exact ev_now rfl
  · simp only [if_pos rfl, if_true]
    exact ev_now rfl
def res7 (n : Int) (F : Int × Int × Bool × Int × Bool × Int) : Int × Int × Int × Bool × Int × Bool × Int := (n, F.1, F.2.1, F.2.2.1, F.2.2.2.1, F.2.2.2.2.1, F.2.2.2.2.2)
theorem gv_or {y : S43} (h : gvS y = true) : y.f0 = true ∨ (-1000 ≤ y.f1 ∧ y.f1 ≤ 1000) := by
  unfold gvS gv at h
  split at h
  · rename_i h2
    exact Or.inl h2
  · simp only [win, decide_eq_true_eq] at h
    exact Or.inr h
theorem iSum_l0 (xs : List S43) (hb : xs.length ≤ 40) (hx : xs.all gvS = true) (R : Int) : ∀ (ys : List S43) (j : Nat) (k t lo hi : Int) (a b : Bool), xs.drop j = ys → j ≤ xs.length → 0 ≤ k ∧ k ≤ j → -1000 * (j : Int) ≤ t ∧ t ≤ 1000 * (j : Int) →
    Ev (fun n => impl_sumOf.l0 n xs (xs.length : Int) (j : Int) R k t a lo b hi) (res7 R (sumF ys k t a lo b hi))
  | [], j, k, t, lo, hi, a, b, h, hj, hk, ht => by
    have h1 := drop_nil h
    refine ev_succ ?_
    simp only [impl_sumOf.l0]
    simp only [if_neg (show ¬ ((j : Int) < (xs.length : Int)) by omega)]
    exact ev_now rfl
  | y :: ys, j, k, t, lo, hi, a, b, h, hj, hk, ht => by
    obtain ⟨h1, h2, h3⟩ := drop_cons h
    have hy := gv_or (List.all_eq_true.1 hx y (List.mem_of_getElem? h2))
    refine ev_succ ?_
    simp only [impl_sumOf.l0]
    simp only [if_pos (show (j : Int) < (xs.length : Int) by omega), if_pos (show (0 : Int) ≤ (j : Int) by omega), rd_T43_drop h, wrap_succ (show j < 9223372036854775807 by omega)]
    rw [sumF]
    by_cases h0 : y.f0 = true
    · simp only [if_pos h0]
      exact iSum_l0 xs hb hx R ys (j + 1) k t lo hi a b h3 h1 (by omega) (by omega)
    · have hv : -1000 ≤ y.f1 ∧ y.f1 ≤ 1000 := by
        rcases hy with h | h
        · exact absurd h h0
        · exact h
      simp only [if_neg h0, wrap_in (x := k + 1) (by omega) (by omega), wrap_in (x := t + y.f1) (by omega) (by omega)]
      by_cases hk0 : k = 0
      · simp only [if_pos hk0]
        exact iSum_l0 xs hb hx R ys (j + 1) (k + 1) (t + y.f1) _ _ y.f0 y.f0 h3 h1 (by omega) (by omega)
      · simp only [if_neg hk0]
        exact iSum_l0 xs hb hx R ys (j + 1) (k + 1) (t + y.f1) _ _ a b h3 h1 (by omega) (by omega)
end Go.Proofs.Ytmlbihhaikknnaa.Ax
