/- The law FnExactDistinctOf: for every input it returns true, and its arguments read as they did: the given statement out of the walk. No condition. -/
import Derived.Test.YtmlbihhaikknnaaRows
import Derived.Test.YtmlbihhaikknnaaKDistinctOf
import Derived.Test.YtmlbihhaikknnaaOps
import Derived.WalkKit
import Derived.ProofKit
import Derived.OpenShut
import Derived.ChangeOld
import Derived.Below
import Derived.SizedLaws
namespace Go.Proofs.Ytmlbihhaikknnaa.fnExactDistinctOf
open Go.ChangeShapes Go.WideShapes Go.ChangeAt Go.RowKit Go.Proofs.Ytmlbihhaikknnaa.Ops Go.Proofs.Ytmlbihhaikknnaa.Pr Go.Proofs.Ytmlbihhaikknnaa.Open Go.Proofs.YtmlbihhaikknnaaW.PrintWords
set_option linter.unusedVariables false
set_option linter.unusedSimpArgs false
theorem own : ownKnob Try.prog.godebug = none := by kernel_rfl
theorem laidOut : laidOutB Try.prog = true := by kernel_rfl
set_option maxRecDepth 100000 in
theorem lifted (os : Os) (started : os.Started) (H : Type) (enc : TypeId × Value → H) :
    ReturnsInHanded {} Try.checked os 3 .any (Rows.fnExactDistinctOfSpec.pre6 enc Try.prog Try.f3 Rows.fnExactDistinctOfRow.domain false) (Rows.fnExactDistinctOfSpec.post enc Try.prog Try.f3 false true false false) := by
  refine returnsInHanded_of_change_sized (C := Try.checked) own started (by kernel_rfl) Try.func3
    (ChangeSpec.witness6 (enc := enc) (C := Try.checked) false ⟨#[], #[.slice none 0 0], []⟩ 8 (by kernel_rfl) (by kernel_rfl) (by kernel_rfl) (by kernel_rfl)) ?_
  intro W base args ds gs before hval0 hW hcnd hsz0 _
  have hval : ∀ (j : Nat) t v, Try.f3.params[j]? = some t → args[j]? = some v → Value.okWide Try.prog W .any base t v := hval0
  have hW' := hW
  obtain ⟨p, q, hA0, hV, rfl, hfz, hnd⟩ := hW
  have hA : DataW.TrodAll enc Try.prog W 0 (fun _ => true) true Try.f3.params.toList args.toList ds p := hA0
  rw [Try.params3] at hA hval
  obtain ⟨v0, vs0, d0, ds0, p0, q0, hargs, rfl, rfl, g0, r0⟩ := trodAll_cons hA
  obtain ⟨rfl, rfl, rfl⟩ := trodAll_nil r0
  obtain rfl : args = #[v0] := by cases args; simp_all
  obtain ⟨rfl, rfl⟩ := trodVars_none hV
  obtain ⟨a0, len0, cap0, rfl⟩ := okWide_slice Try.underlying22 (hval 0 22 v0 rfl rfl)
  have k0 := g0
  have lt0 : ∀ x ∈ p0, x.block < W.heap.size := by obtain ⟨m, hm⟩ := k0; exact DataW.trod_lt m _ _ _ hm
  obtain ⟨y0, ⟨A0, c0, hcs0, hl0, hr0⟩, F0⟩ : ∃ y, Kd.K (Kd.slice 45 k45) W y [Value.slice a0 len0 cap0] ∧ FL45 y := by obtain ⟨fuel, hf⟩ := g0; exact (op_slice Try.underlying22 (by kernel_rfl) op45) _ enc W fuel _ _ hf
  obtain ⟨rfl, rfl, rfl⟩ : A0 = a0 ∧ y0.length = len0 ∧ c0 = cap0 := by simpa using hcs0.symm
  clear hA0 hval0 hsz0
  refine (K.DistinctOf A0 c0 y0 W hl0 hr0 F0).mono fun e W' ⟨he, bel⟩ => ?_
  subst he
  exact ⟨_, rfl, _, _, _, [], _, [], hW', trodAll_mk1 (shut_bool Try.underlying4 _), (trodAll_cons_mk (Below.trod laidOut (by kernel_rfl) (of_decide_eq_true (by kernel_rfl)) k0 bel lt0) trodAll_mk0), rfl, bel.frame _, fun h => by cases h⟩
theorem over : Rows.fnExactDistinctOfRow.holds Try.pinned (OpenSpec.ofChange Rows.fnExactDistinctOfSpec) :=
  OpenClaim.holds_of_wide 3 Try.f3 rfl rfl rfl rfl rfl rfl rfl ⟨rfl, rfl, rfl, rfl, rfl⟩ rfl rfl rfl rfl rfl (by kernel_rfl) Try.func3 (by kernel_rfl)
    (of_decide_eq_true (by kernel_rfl)) (by unfold Func.isWrapper; first | (rw [if_pos (by decide +kernel)]; kernel_rfl) | (rw [if_neg (by decide +kernel)]; exact ⟨rfl, rfl⟩))
    (fun os started H enc _ => lifted os started H enc)
theorem proved : Rows.FnExactDistinctOfSaid := over
end Go.Proofs.Ytmlbihhaikknnaa.fnExactDistinctOf
namespace Go.Proofs.Ytmlbihhaikknnaa
/-- The given statement. -/
theorem fnExactDistinctOf_holds : Rows.FnExactDistinctOfSaid := fnExactDistinctOf.proved
#print axioms fnExactDistinctOf_holds
end Go.Proofs.Ytmlbihhaikknnaa
