/- The law FnExactAddSums over numbers and lists alone. No condition. -/
import Derived.Test.YtmjcaajlklidmaaPr0
import Derived.Test.YtmjcaajlklidmaaPr1
import Derived.Test.YtmjcaajlklidmaaPr2
import Derived.Test.YtmjcaajlklidmaaPr4
import Derived.Test.YtmjcaajlklidmaaPr5
import Derived.Test.YtmjcaajlklidmaaPr6
import Derived.Test.YtmjcaajlklidmaaOps
import Derived.Test.YtmjcaajlklidmaaA1
import Derived.Test.YtmjcaajlklidmaaA4g
namespace Go.Proofs.Ytmjcaajlklidmaa.Pu
open Go.RowKit Go.Proofs.Ytmjcaajlklidmaa.Pr Go.Proofs.Ytmjcaajlklidmaa.Pl Go.Proofs.Ytmjcaajlklidmaa.Ax Go.Proofs.Ytmjcaajlklidmaa.Ops Go.Proofs.YtmjcaajlklidmaaW.PrintWords Go.Proofs.YtmjcaajlklidmaaW.PrintLast Go.Proofs.YtmjcaajlklidmaaW.PrintMore
set_option linter.unusedVariables false
set_option linter.unusedSimpArgs false
theorem win_iff (a lo hi : Int) : win a lo hi = true ↔ lo ≤ a ∧ a ≤ hi := by unfold win; simp
theorem gs_flags {r n t : Int} {lb : Bool} {ln : Int} {hb : Bool} {hn : Int} (h : gs r n t lb ln hb hn = true) (h0 : n ≠ 0) : lb = false ∧ hb = false := by
  unfold gs at h
  simp only [if_neg h0] at h
  cases lb <;> cases hb <;> simp_all
theorem gs_known {r n t : Int} {lb : Bool} {ln : Int} {hb : Bool} {hn : Int} (h : gs r n t lb ln hb hn = true) : 0 ≤ n := by
  unfold gs at h
  simp only [Bool.and_eq_true, win_iff] at h
  exact h.2.1.1
/-- The sum put together and looked at. -/
def fin (r n t : Int) (lb : Bool) (ln : Int) (hb : Bool) (hn : Int) : Int × Int × Int × Bool × Int × Bool × Int × Bool := if gs r n t lb ln hb hn = true then (r, n, t, lb, ln, hb, hn, true) else (0, 0, 0, false, 0, false, 0, false)
def ad (r n t : Int) (lb : Bool) (ln : Int) (hb : Bool) (hn : Int) (r' n' t' : Int) (lb' : Bool) (ln' : Int) (hb' : Bool) (hn' : Int) : Int × Int × Int × Bool × Int × Bool × Int × Bool :=
  if gs r n t lb ln hb hn = true ∧ gs r' n' t' lb' ln' hb' hn' = true then (if n = 0 then fin (wrap64 (r + r')) (wrap64 (n + n')) (wrap64 (t + t')) lb' ln' hb' hn' else if n' > 0 then fin (wrap64 (r + r')) (wrap64 (n + n')) (wrap64 (t + t')) lb (mn ln ln') hb (mx hn hn') else fin (wrap64 (r + r')) (wrap64 (n + n')) (wrap64 (t + t')) lb ln hb hn) else (0, 0, 0, false, 0, false, 0, false)
theorem iAdd (k : Nat) (r n t : Int) (lb : Bool) (ln : Int) (hb : Bool) (hn : Int) (r' n' t' : Int) (lb' : Bool) (ln' : Int) (hb' : Bool) (hn' : Int) :
    impl_AddSums.f (k + 2) r n t lb ln hb hn r' n' t' lb' ln' hb' hn' = some (ad r n t lb ln hb hn r' n' t' lb' ln' hb' hn') := by
  simp only [impl_AddSums.f, iGoodSum_eq, Option.bind_some, impl_AddSums.j0]
  cases h1 : gs r n t lb ln hb hn
  · simp [ad, h1]
  · cases h2 : gs r' n' t' lb' ln' hb' hn'
    · simp [ad, h1, h2]
    · simp only [ad, h1, h2, and_self, if_true, Bool.not_true, Bool.false_eq_true, if_false]
      by_cases h3 : n = 0
      · simp only [if_pos h3, fin]
        split <;> rfl
      · simp only [if_neg h3]
        by_cases h4 : n' > 0
        · simp only [if_pos h4, fin]
          split <;> rfl
        · simp only [if_neg h4, fin]
          split <;> rfl
theorem sAdd (k : Nat) (r n t : Int) (lb : Bool) (ln : Int) (hb : Bool) (hn : Int) (r' n' t' : Int) (lb' : Bool) (ln' : Int) (hb' : Bool) (hn' : Int) :
    spec_AddSums.f (k + 5) r n t lb ln hb hn r' n' t' lb' ln' hb' hn' = some (ad r n t lb ln hb hn r' n' t' lb' ln' hb' hn') := by
  simp only [spec_AddSums.f, sGoodSum_eq, Option.bind_some, spec_AddSums.j0]
  cases h1 : gs r n t lb ln hb hn
  · simp [ad, h1]
  · cases h2 : gs r' n' t' lb' ln' hb' hn'
    · simp [ad, h1, h2]
    · simp only [ad, h1, h2, and_self, if_true, Bool.not_true, Bool.false_eq_true, if_false]
      by_cases h3 : n = 0
      · simp only [if_pos h3, fin, spec_AddSums.j1, spec_AddSums.j2, spec_AddSums.j3, sGoodSum_eq, Option.bind_some, if_true]
        split <;> rfl
      · simp only [if_neg h3]
        by_cases h4 : n' > 0
        · obtain ⟨e1, e2⟩ := gs_flags h1 h3
          obtain ⟨e3, e4⟩ := gs_flags h2 (by omega)
          subst e1 e2 e3 e4
          simp only [if_pos h4, if_neg h3, fin, mn, mx, spec_AddSums.j1, spec_AddSums.j2, spec_AddSums.j3, sGoodSum_eq, Option.bind_some, decide_eq_true_eq]
          by_cases h5 : ln' < ln
          · by_cases h6 : hn' > hn
            · simp only [if_pos h5, if_pos h6, if_pos (show hn < hn' from h6)]
              split <;> rfl
            · simp only [if_pos h5, if_neg h6, if_neg (show ¬ hn < hn' from h6)]
              split <;> rfl
          · by_cases h6 : hn' > hn
            · simp only [if_neg h5, if_pos h6, if_pos (show hn < hn' from h6)]
              split <;> rfl
            · simp only [if_neg h5, if_neg h6, if_neg (show ¬ hn < hn' from h6)]
              split <;> rfl
        · simp only [if_neg h4, if_neg h3, fin, spec_AddSums.j1, spec_AddSums.j2, spec_AddSums.j3, sGoodSum_eq, Option.bind_some, Bool.false_eq_true, if_false]
          split <;> rfl
theorem AddSums (y0 : S38) (y1 : S38) (h0 : F38 y0) (h1 : F38 y1) : ∃ k, laws_FnExactAddSums.f k y0.f0 y0.f1 y0.f2 y0.f3.f0 y0.f3.f1 y0.f4.f0 y0.f4.f1 y1.f0 y1.f1 y1.f2 y1.f3.f0 y1.f3.f1 y1.f4.f0 y1.f4.f1 = some true :=
  ⟨5, by simp only [laws_FnExactAddSums.f, laws_toSum.f, laws_toValue.f, Option.bind_some, sAdd 0, iAdd 3, laws_eqSum.f, laws_eqValue.f, if_true, bne_self_eq_false, Bool.false_eq_true, if_false]⟩
end Go.Proofs.Ytmjcaajlklidmaa.Pu
