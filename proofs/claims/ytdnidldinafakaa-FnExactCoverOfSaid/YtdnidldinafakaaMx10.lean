/- Several small texts together: A5, Mx5. No condition but those they name. -/
import Derived.Test.YtdnidldinafakaaPr0
import Derived.Test.YtdnidldinafakaaPr6
import Derived.Test.YtdnidldinafakaaMx14
import Derived.Test.YtdnidldinafakaaCv
import Derived.Test.YtdnidldinafakaaEGoodDeps
import Derived.Test.YtdnidldinafakaaMx17
import Derived.Test.YtdnidldinafakaaPr12
/- What GoodDeps tells. Conditions: lengths that Go can hold. -/
namespace Go.Proofs.Ytdnidldinafakaa.Ax
open Go.RowKit Go.Proofs.Ytdnidldinafakaa.Pr Go.Proofs.Ytdnidldinafakaa.Pl Go.Proofs.YtdnidldinafakaaW.PrintWords Go.Proofs.YtdnidldinafakaaW.PrintLast Go.Proofs.YtdnidldinafakaaW.PrintMore
set_option linter.unusedVariables false
set_option linter.unusedSimpArgs false
theorem l5Dep_ev (a : Int) (x : S42) (hO : OkDep x) : Ev (fun k => spec_l5Dep.f k a x.f0 x.f1) (okD a x) := by
  simp only [spec_l5Dep.f, okD]
  refine Ev.bind (l1Rising_ev x.f0 _ _ hO.1.1) ?_
  cases rs 0 (wrap64 (a - 1)) none x.f0
  · simp only [Bool.false_eq_true, if_false]
    exact ev_now rfl
  · simp only [if_true]
    exact Ev.bind (l1Rising_ev x.f1 _ _ hO.2.1) (ev_now (by simp))
theorem sGD_l0 (a : Int) (xs : List S42) (hO : OkDepS xs) : ∀ (ys : List S42) (j : Nat), xs.drop j = ys → Ev (fun k => spec_GoodDeps.l0 k a xs (xs.length : Int) (j : Int)) (ys.all (okD a))
  | [], j, h => by
    have h1 := drop_nil h
    refine ev_succ ?_
    simp only [spec_GoodDeps.l0]
    simp only [if_neg (show ¬ ((j : Int) < (xs.length : Int)) by omega)]
    exact ev_now rfl
  | y :: ys, j, h => by
    obtain ⟨h1, h2, h3⟩ := drop_cons h
    have hb := hO.1
    have ih := sGD_l0 a xs hO ys (j + 1) h3
    refine ev_succ ?_
    simp only [spec_GoodDeps.l0]
    simp only [if_pos (show (j : Int) < (xs.length : Int) by omega), if_pos (show (0 : Int) ≤ (j : Int) by omega), rd_T42_drop h, wrap_succ (show j < 9223372036854775807 by omega)]
    refine Ev.bind (l5Dep_ev a y (hO.2 y (List.mem_of_getElem? h2))) ?_
    cases e : okD a y
    · simp only [Bool.false_eq_true, if_false]
      exact ev_now (by simp [e])
    · simp only [if_true]
      simpa [e] using ih
def gdV (a : Int) (l : List S42) : Bool := win a 1 6 && (decide (l.length ≤ 8) && l.all (okD a))
theorem sGD_ev (a : Int) (xs : List S42) (hO : OkDepS xs) : Ev (fun k => spec_GoodDeps.f k a xs) (gdV a xs) := by
  simp only [spec_GoodDeps.f, l1In_eq, Option.bind_some, gdV]
  cases e : win a 1 6
  · simp only [Bool.false_eq_true, if_false]
    refine ev_succ ?_
    simp only [spec_GoodDeps.j0, if_true]
    exact ev_now rfl
  · simp only [if_true]
    refine ev_succ ?_
    simp only [spec_GoodDeps.j0]
    by_cases h8 : xs.length ≤ 8
    · simp only [decide_eq_false (show ¬ ((xs.length : Int) > 8) by omega), Bool.false_eq_true, if_false]
      have := sGD_l0 a xs hO xs 0 rfl
      simpa [h8] using this
    · simp only [decide_eq_true (show ((xs.length : Int) > 8) by omega), if_true]
      exact ev_now (by simp [h8])
end Go.Proofs.Ytdnidldinafakaa.Ax

/- Several small texts together: Ahs, MkI. No condition but those they name. -/
/- What looking for a number in a list tells. Conditions: lengths that Go can hold. -/
namespace Go.Proofs.Ytdnidldinafakaa.Ax
open Go.RowKit Go.Proofs.Ytdnidldinafakaa.Pr Go.Proofs.Ytdnidldinafakaa.Pl Go.Proofs.YtdnidldinafakaaW.PrintWords Go.Proofs.YtdnidldinafakaaW.PrintLast Go.Proofs.YtdnidldinafakaaW.PrintMore
set_option linter.unusedVariables false
set_option linter.unusedSimpArgs false
theorem l1Has_l0 (a : Int) (xs : List Int) (hb : xs.length ≤ 9223372036854775807) : ∀ (ys : List Int) (j : Nat), xs.drop j = ys → Ev (fun k => spec_l1Has.l0 k a xs (xs.length : Int) (j : Int)) (ys.contains a)
  | [], j, h => by
    have h1 := drop_nil h
    refine ev_succ ?_
    simp only [spec_l1Has.l0]
    simp only [if_neg (show ¬ ((j : Int) < (xs.length : Int)) by omega)]
    exact ev_now rfl
  | y :: ys, j, h => by
    obtain ⟨h1, h2, h3⟩ := drop_cons h
    refine ev_succ ?_
    simp only [spec_l1Has.l0]
    simp only [if_pos (show (j : Int) < (xs.length : Int) by omega), if_pos (show (0 : Int) ≤ (j : Int) by omega), rd_drop h, wrap_succ (show j < 9223372036854775807 by omega)]
    by_cases e : y = a
    · simp only [if_pos e]
      exact ev_now (by simp [e])
    · simp only [if_neg e]
      have := l1Has_l0 a xs hb ys (j + 1) h3
      have e2 : (y :: ys).contains a = ys.contains a := by simp [List.contains_cons, show ¬ a = y from fun h => e h.symm]
      rw [e2]
      exact this
theorem l1Has_ev (xs : List Int) (a : Int) (hb : xs.length ≤ 9223372036854775807) : Ev (fun k => spec_l1Has.f k xs a) (xs.contains a) := l1Has_l0 a xs hb xs 0 rfl
end Go.Proofs.Ytdnidldinafakaa.Ax

/- The marks in rows of numbers, and in rows of such rows, of the call's own: contracts. Conditions: marks that Go can hold. -/
namespace Go.Proofs.Ytdnidldinafakaa.Mk
open Go.RowKit Go.Proofs.Ytdnidldinafakaa Go.Proofs.Ytdnidldinafakaa.Pr Go.Proofs.Ytdnidldinafakaa.Pl Go.Proofs.YtdnidldinafakaaW.PrintWords Go.Proofs.YtdnidldinafakaaW.PrintLast Go.Proofs.YtdnidldinafakaaW.PrintMore
set_option linter.unusedVariables false
set_option linter.unusedSimpArgs false
theorem R_base_up {k : IntKind} {e b b' : Nat} {w : World} {ok : Nat → Prop} {v : Value} {xs : List Int} (h : (Kd.int k).R e w b ok v xs) (hb : ∀ k, v.ownBlock = some k → b' ≤ k) : (Kd.int k).R e w b' ok v xs :=
  Kd.R_raise (d := Kd.int k) (b := b) (b' := b') (fun _ _ _ _ h_ => h_) h hb
set_option maxHeartbeats 1000000 in
theorem markIntS_R (w0 w : World) (base : Nat) (ok : Nat → Prop) (m M : Int) (v : Value) (l : List Int) (hB : Below w0.heap.size w0 w) (hb : w0.heap.size ≤ base)
    (ho : (Kd.int .i64).R 3 w base ok v l) (h0 : 0 ≤ m) (h1 : m + (Ax.cntIntS l : Nat) = M ∧ M < 9223372036854775807) :
    Calls Try.prog 31 #[v, .int .i64 m] w fun e w' => e = .returned (.int .i64 M) ∧ (Kd.int .i64).R 3 w' base ok v (Ax.mkIntS l m) ∧ Below w0.heap.size w0 w' ∧ Kept w w' (fun k => some k = v.ownBlock) := by
  obtain ⟨rfl, hM⟩ := h1
  obtain ⟨k, hk⟩ := Ev.rounds (Ax.markIntS_ev l m h0 hM)
  refine (laws_markIntS.calls k (fun k => some k = v.ownBlock) v l m _ _ w0 w hB (Kd.R_lower (Kd.R_tight rfl ho) hb) hk).mono ?_
  rintro e w' ⟨rfl, h2, h3, h4⟩
  refine ⟨rfl, ?_, h3, h4⟩
  exact R_base_up (Kd.R_reok rfl h2 (fun k hk => ho.1 k hk)) (fun k hk => Kd.R_base ho k hk)
end Go.Proofs.Ytdnidldinafakaa.Mk
