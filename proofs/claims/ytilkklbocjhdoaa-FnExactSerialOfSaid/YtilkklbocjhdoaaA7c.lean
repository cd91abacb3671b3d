/- What counting the clashes of a good play tells. No condition. -/
import Derived.Test.YtilkklbocjhdoaaPr0
import Derived.Test.YtilkklbocjhdoaaPr3
import Derived.Test.YtilkklbocjhdoaaPr4
import Derived.Test.YtilkklbocjhdoaaA7
namespace Go.Proofs.Ytilkklbocjhdoaa.Ax
open Go.RowKit Go.Proofs.Ytilkklbocjhdoaa.Pr Go.Proofs.Ytilkklbocjhdoaa.Pl Go.Proofs.YtilkklbocjhdoaaW.PrintWords Go.Proofs.YtilkklbocjhdoaaW.PrintLast Go.Proofs.YtilkklbocjhdoaaW.PrintMore
set_option linter.unusedVariables false
set_option linter.unusedSimpArgs false
theorem clash_eq (a b : Int) (c : Bool) (d e : Int) (f : Bool) : impl_clash.f a b c d e f = spec_l7Clash.f a b c d e f := rfl
theorem conflicts_eq : ∀ k, (∀ a b c d e, impl_conflicts.l0 k a b c d e = spec_l7Conflicts.l0 k a b c d e) ∧ (∀ a b c d e f g h i j l, impl_conflicts.l1 k a b c d e f g h i j l = spec_l7Conflicts.l1 k a b c d e f g h i j l)
  | 0 => ⟨fun _ _ _ _ _ => by simp only [impl_conflicts.l0, spec_l7Conflicts.l0], fun _ _ _ _ _ _ _ _ _ _ _ => by simp only [impl_conflicts.l1, spec_l7Conflicts.l1]⟩
  | k + 1 => ⟨fun a b c d e => by simp only [impl_conflicts.l0, spec_l7Conflicts.l0, (conflicts_eq k).1, (conflicts_eq k).2], fun _ _ _ _ _ _ _ _ _ _ _ => by simp only [impl_conflicts.l1, spec_l7Conflicts.l1, (conflicts_eq k).1, (conflicts_eq k).2, clash_eq]⟩
theorem iConflicts_eq (k : Nat) (l : List S47) : impl_conflicts.f k l = spec_l7Conflicts.f k l := by
  simp only [impl_conflicts.f, spec_l7Conflicts.f, (conflicts_eq k).1]
theorem conf_l1 (xs zs : List S47) (i : Nat) (a b : Int) (c : Bool) (ha : 0 ≤ a ∧ a ≤ 3) (hl : zs.length ≤ 16) (r : List Int)
    (next : ∀ out : List Int, out.length = 16 → ∃ r, r.length = 16 ∧ Ev (fun k => spec_l7Conflicts.l0 k xs out xs (xs.length : Int) (wrap64 ((i : Int) + 1))) r) :
    ∀ (ys : List S47) (j : Nat) (out : List Int), zs.drop j = ys → (∀ y ∈ ys, 0 ≤ y.f0 ∧ y.f0 ≤ 3) → out.length = 16 →
      ∃ r, r.length = 16 ∧ Ev (fun k => spec_l7Conflicts.l1 k xs out xs (xs.length : Int) (i : Int) zs (zs.length : Int) (j : Int) a b c) r
  | [], j, out, h, hy, ho => by
    have h1 := drop_nil h
    obtain ⟨r, h2, h3⟩ := next out ho
    refine ⟨r, h2, ev_succ ?_⟩
    simp only [spec_l7Conflicts.l1]
    simp only [if_neg (show ¬ ((j : Int) < (zs.length : Int)) by omega)]
    exact h3
  | y :: ys, j, out, h, hy, ho => by
    obtain ⟨h1, h2, h3⟩ := drop_cons h
    have hy0 := hy y (by simp)
    obtain ⟨bb, hbb⟩ : ∃ bb, spec_l7Clash.f a b c y.f0 y.f1 y.f2 = some bb := by
      unfold spec_l7Clash.f
      split <;> (try split) <;> (try split) <;> exact ⟨_, rfl⟩
    have hw : wrap64 (wrap64 (4 * a) + y.f0) = 4 * a + y.f0 := by rw [wrap_in (x := 4 * a) (by omega) (by omega), wrap_in (by omega) (by omega)]
    have run : ∀ out' : List Int, out'.length = 16 → ∃ r, r.length = 16 ∧ Ev (fun k => spec_l7Conflicts.l1 k xs out' xs (xs.length : Int) (i : Int) zs (zs.length : Int) ((j + 1 : Nat) : Int) a b c) r :=
      fun out' ho' => conf_l1 xs zs i a b c ha hl r next ys (j + 1) out' h3 (fun e he => hy e (by simp [he])) ho'
    obtain ⟨r, h4, h5⟩ := run (if bb = true then out.set (4 * a + y.f0).toNat (wrap64 (rd out (4 * a + y.f0) + 1)) else out) (by split <;> simp [ho])
    refine ⟨r, h4, ev_succ ?_⟩
    simp only [spec_l7Conflicts.l1]
    simp only [if_pos (show (j : Int) < (zs.length : Int) by omega), if_pos (show (0 : Int) ≤ (j : Int) by omega), rd_T47_drop h, hbb, Option.bind_some, wrap_succ (show j < 9223372036854775807 by omega), hw, if_pos (show 0 ≤ 4 * a + y.f0 by omega), if_pos (show 4 * a + y.f0 < (out.length : Int) by omega)]
    cases bb
    · simpa using h5
    · simpa using h5
theorem conf_l0 (xs : List S47) (hl : xs.length ≤ 16) (hx : ∀ x ∈ xs, 0 ≤ x.f0 ∧ x.f0 ≤ 3) : ∀ (ys : List S47) (j : Nat) (out : List Int), xs.drop j = ys → out.length = 16 →
    ∃ r, r.length = 16 ∧ Ev (fun k => spec_l7Conflicts.l0 k xs out xs (xs.length : Int) (j : Int)) r
  | [], j, out, h, ho => by
    have h1 := drop_nil h
    refine ⟨out, ho, ev_succ ?_⟩
    simp only [spec_l7Conflicts.l0]
    simp only [if_neg (show ¬ ((j : Int) < (xs.length : Int)) by omega)]
    exact ev_now rfl
  | y :: ys, j, out, h, ho => by
    obtain ⟨h1, h2, h3⟩ := drop_cons h
    have hm : y ∈ xs := List.mem_of_getElem? h2
    have hw := wrap_succ (show j < 9223372036854775807 by omega)
    obtain ⟨r, h4, h5⟩ := conf_l1 xs (xs.drop (j + 1)) j y.f0 y.f1 y.f2 (hx y hm) (by simp; omega) [] (fun out' ho' => by rw [hw]; exact conf_l0 xs hl hx ys (j + 1) out' h3 ho') (xs.drop (j + 1)) 0 out rfl (fun z hz => hx z (List.mem_of_mem_drop hz)) ho
    refine ⟨r, h4, ev_succ ?_⟩
    simp only [spec_l7Conflicts.l0]
    simp only [if_pos (show (j : Int) < (xs.length : Int) by omega), if_pos (show (0 : Int) ≤ (j : Int) by omega), rd_T47_drop h, hw, if_pos (show (0 : Int) ≤ ((j + 1 : Nat) : Int) by omega), if_pos (show ((j + 1 : Nat) : Int) ≤ (xs.length : Int) by omega), Int.toNat_natCast, Option.bind_some]
    exact h5
theorem conflicts_ev {l : List S47} (h : gp l = true) : ∃ r : List Int, r.length = 16 ∧ Ev (fun k => spec_l7Conflicts.f k l) r ∧ Ev (fun k => impl_conflicts.f k l) r := by
  obtain ⟨r, h1, h2⟩ := conf_l0 l (gp_len h) (fun x hx => (gp_all h x hx).1) l 0 (List.replicate 16 0) rfl (by simp)
  have h3 : Ev (fun k => spec_l7Conflicts.f k l) r := by
    simp only [spec_l7Conflicts.f]
    simpa using h2
  refine ⟨r, h1, h3, ?_⟩
  have : (fun k => impl_conflicts.f k l) = fun k => spec_l7Conflicts.f k l := funext fun k => iConflicts_eq k l
  rw [this]
  exact h3
end Go.Proofs.Ytilkklbocjhdoaa.Ax
