/- Several small texts together: Pl, ECloneInt. No condition but those they name. -/
import Derived.Test.YtdnidldinafakaaWWords
import Derived.Test.YtdnidldinafakaaWMore
import Derived.Test.YtdnidldinafakaaPr0
import Derived.Lib.LazyBuf
import Derived.Lib.BufferMore
/- Small plain words for the pure side: lists read by an index, rounds of loops. No condition. -/
namespace Go.Proofs.Ytdnidldinafakaa.Pl
open Go.RowKit Go.Proofs.YtdnidldinafakaaW.PrintWords Go.Proofs.YtdnidldinafakaaW.PrintLast Go.Proofs.YtdnidldinafakaaW.PrintMore
set_option linter.unusedVariables false
set_option linter.unusedSimpArgs false
theorem drop_cons {α : Type} {xs ys : List α} {j : Nat} {y : α} (h : xs.drop j = y :: ys) : j < xs.length ∧ xs[j]? = some y ∧ xs.drop (j + 1) = ys := by
  have h1 : j < xs.length := by
    rcases Nat.lt_or_ge j xs.length with h1 | h1
    · exact h1
    · rw [List.drop_of_length_le h1] at h
      cases h
  refine ⟨h1, ?_, ?_⟩
  · have := List.getElem?_drop (xs := xs) (i := j) (j := 0)
    rw [h] at this
    simpa using this.symm
  · have := List.drop_drop (l := xs) (i := 1) (j := j)
    rw [h] at this
    simpa using this.symm
theorem drop_nil {α : Type} {xs : List α} {j : Nat} (h : xs.drop j = []) : xs.length ≤ j := by
  simpa using h
theorem rd_drop {xs ys : List Int} {j : Nat} {y : Int} (h : xs.drop j = y :: ys) : rd xs (j : Int) = y := by
  have := (drop_cons h).2.1
  simp [rd, List.getD_eq_getElem?_getD, this]
theorem wrap_nat {j : Nat} (h : j < 9223372036854775808) : wrap64 (j : Int) = (j : Int) := by
  unfold wrap64
  omega
theorem wrap_succ {j : Nat} (h : j < 9223372036854775807) : wrap64 ((j : Int) + 1) = ((j + 1 : Nat) : Int) := by
  unfold wrap64
  omega
theorem wrap_in {x : Int} (h1 : -9223372036854775808 ≤ x) (h2 : x < 9223372036854775808) : wrap64 x = x := by
  unfold wrap64
  omega
theorem ev_succ {α : Type} {g : Nat → Option α} {r : α} (h : Ev (fun k => g (k + 1)) r) : Ev g r := by
  obtain ⟨K, h⟩ := h
  refine ⟨K + 1, fun n hn => ?_⟩
  obtain ⟨m, rfl⟩ : ∃ m, n = m + 1 := ⟨n - 1, by omega⟩
  exact h m (by omega)
theorem ev_now {α : Type} {r s : α} (h : r = s) : Ev (fun _ => some r) s := h ▸ Ev.now r
theorem ev_eq {α : Type} {g : Option α} {r : α} (h : g = some r) : Ev (fun _ => g) r := ⟨0, fun _ _ => h⟩
theorem set_end {α : Type} {xs ys out : List α} {j : Nat} {y : α} (h : xs.drop j = y :: ys) (ho : out.length = xs.length) (hp : out.take j = xs.take j) : (out.set j y).length = xs.length ∧ (out.set j y).take (j + 1) = xs.take (j + 1) := by
  obtain ⟨h1, h2, _⟩ := drop_cons h
  refine ⟨by rw [List.length_set, ho], ?_⟩
  rw [List.take_add_one, List.take_add_one, h2, List.getElem?_set_self (by omega)]
  rw [List.take_set_of_le (Nat.le_refl _), hp]
end Go.Proofs.Ytdnidldinafakaa.Pl

/- slices.Clone at numbers: a new slice with the same elements (nil for nil). Condition: a length that Go can make room for. -/
namespace Go.Proofs.Ytdnidldinafakaa.Pr
open Go.RowKit Go.Proofs.YtdnidldinafakaaW.PrintWords Go.Proofs.YtdnidldinafakaaW.PrintLast Go.Proofs.YtdnidldinafakaaW.PrintMore
set_option linter.unusedVariables false
set_option linter.unusedSimpArgs false
def slices_Clone_int_int.f (l0 : List Int) : Option (List Int) := if l0.length * 8 ≤ 140737488355328 then some l0 else none
set_option maxHeartbeats 1000000 in
set_option maxRecDepth 100000 in
theorem slices_Clone_int_int.calls (A0 : Option Addr) (c0 : Nat) (l0 : List Int) (r : List Int) (w : World) (hr0 : Kd.C (Kd.int .i64) w A0 l0.length l0) (hc0 : l0.length ≤ c0) (h : slices_Clone_int_int.f l0 = some r) :
    Calls Try.prog 29 #[.slice A0 l0.length c0] w fun e w' => ∃ v0_ : Value, e = .returned (v0_) ∧ Kd.R (Kd.int .i64) 3 w' w.heap.size (fun _ => True) v0_ r ∧ Below w.heap.size w w' := by
  unfold slices_Clone_int_int.f at h
  by_cases hb : l0.length * 8 ≤ 140737488355328
  · rw [if_pos hb] at h
    obtain rfl := Option.some.inj h
    clear h
    have hnil := fun (W : World) => run_eql_slice_nil (P := Try.prog) W 37 3 A0 l0.length c0 Try.underlying37
    cases A0 with
    | none =>
      have h0 : l0 = [] := by
        rcases Nat.eq_zero_or_pos l0.length with h0 | h0
        · exact List.eq_nil_of_length_eq_zero h0
        · obtain ⟨ad, e1, _⟩ := hr0.2.2 h0
          cases e1
      subst h0
      have hnil2 := fun (W : World) => Lib.run_eql_slice_nil_nil (P := Try.prog) W 0 c0 Try.underlying37
      clear hb hr0 hc0 hnil
      go_enter Try.func29, Try.ntmps29
      go_wp2
      go_ret
      exact ⟨_, rfl, Kd.R_nil _ _ _ _ _, Below.refl _ _⟩
    | some ad =>
      have HR := Aside0.mk hr0
      have HL := Aside0.mk hb
      have HB := Aside0.mk (Below.refl w.heap.size w)
      clear hr0 hb
      go_enter Try.func29, Try.ntmps29
      go_wp2_with (first | ((with_reducible refine gate_dst (N := 5) rfl ?_); refine Kd.R_lit (Kd.int .i64) _ 3 ?hg (N := 5) ?hd (xs := ([] : List Int)) (inner := []) (ok := fun _ => True) (okp := fun _ => True) ?hr ?hp (fun _ hk => hk) trivial (Below.refl _ _) (Nat.le_refl _) (by simp) ?_; (case hd => rfl); (case hg => rfl); (case hr => first | (go_simp; done) | (go_simp; rfl)); (case hp => exact (Reps.none _ _)); intro v5 w5 ho5 hb5 hg_ hnew_; clear hg_ hnew_; have HO := Aside0.mk ho5; have HB5 := Aside0.mk hb5; clear ho5 hb5 HB) | ((with_reducible refine gate_builtin (b := .append) (xs := #[.tmp 5, .tmp 6]) rfl ?_); at_builtin; refine Kd.R_append_rows (Kd.int .i64) (w0 := w) w.heap.size rfl (.tmp 5) (.tmp 6) 37 3 (.int .i64 0) 8 rfl Try.underlying37 info3 rfl (by decide) (by omega) v5 [] l0 _ _ _ (fun _ => True) (fun _ => False) rfl rfl ?aO ?aR (fun _ _ h => h) (fun _ h => h.elim) (fun _ _ => trivial) ?aB ?aS ?aL ?_; (case aR => exact Kd.C_below HR.out HB5.out); (case aB => exact HB5.out); (case aO => exact HO.out); (case aS => exact HB5.out.size); (case aL => have := HL.out; simpa using this); intro v6 w6 ho hb6 hg6 hat6; have HO6 := Aside0.mk ho; have HB6 := Aside0.mk hb6; clear ho hb6 hg6 hat6 HO HB5))
      go_ret
      exact ⟨_, rfl, by simpa using HO6.out, HB6.out⟩
  · rw [if_neg hb] at h
    cases h
end Go.Proofs.Ytdnidldinafakaa.Pr
