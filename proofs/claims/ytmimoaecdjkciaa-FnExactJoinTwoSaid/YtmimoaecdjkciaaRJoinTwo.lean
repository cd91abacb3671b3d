/- The law FnExactJoinTwo: for every input it returns true, and its arguments read as they did: the given statement out of the walk. No condition. -/
import Derived.Test.YtmimoaecdjkciaaRows
import Derived.Test.YtmimoaecdjkciaaMx4
import Derived.Test.YtmimoaecdjkciaaMx1
import Derived.WalkKit
import Derived.ProofKit
import Derived.OpenShut
import Derived.ChangeOld
import Derived.Below
import Derived.SizedLaws
namespace Go.Proofs.Ytmimoaecdjkciaa.fnExactJoinTwo
open Go.ChangeShapes Go.WideShapes Go.ChangeAt Go.RowKit Go.Proofs.Ytmimoaecdjkciaa.Ops Go.Proofs.Ytmimoaecdjkciaa.Pr Go.Proofs.Ytmimoaecdjkciaa.Open Go.Proofs.YtmimoaecdjkciaaW.PrintWords
set_option linter.unusedVariables false
set_option linter.unusedSimpArgs false
theorem own : ownKnob Try.prog.godebug = none := by kernel_rfl
theorem laidOut : laidOutB Try.prog = true := by kernel_rfl
set_option maxRecDepth 100000 in
theorem lifted (os : Os) (started : os.Started) (H : Type) (enc : TypeId × Value → H) :
    ReturnsInHanded {} Try.checked os 3 .any (Rows.fnExactJoinTwoSpec.pre6 enc Try.prog Try.f3 Rows.fnExactJoinTwoRow.domain false) (Rows.fnExactJoinTwoSpec.post enc Try.prog Try.f3 false true false false) := by
  refine returnsInHanded_of_change_sized (C := Try.checked) own started (by kernel_rfl) Try.func3
    (ChangeSpec.witness6 (enc := enc) (C := Try.checked) false ⟨#[], #[.agg #[.slice none 0 0, .slice none 0 0], .agg #[.slice none 0 0, .slice none 0 0]], []⟩ 8 (by kernel_rfl) (by kernel_rfl) (by kernel_rfl) (by kernel_rfl)) ?_
  intro W base args ds gs before hval0 hW hcnd hsz0 _
  have hval : ∀ (j : Nat) t v, Try.f3.params[j]? = some t → args[j]? = some v → Value.okWide Try.prog W .any base t v := hval0
  have hW' := hW
  obtain ⟨p, q, hA0, hV, rfl, hfz, hnd⟩ := hW
  have hA : DataW.TrodAll enc Try.prog W 0 (fun _ => true) true Try.f3.params.toList args.toList ds p := hA0
  rw [Try.params3] at hA hval
  obtain ⟨v0, vs0, d0, ds0, p0, q0, hargs, rfl, rfl, g0, r0⟩ := trodAll_cons hA
  obtain ⟨v1, vs1, d1, ds1, p1, q1, rfl, rfl, rfl, g1, r1⟩ := trodAll_cons r0
  obtain ⟨rfl, rfl, rfl⟩ := trodAll_nil r1
  obtain rfl : args = #[v0, v1] := by cases args; simp_all
  obtain ⟨rfl, rfl⟩ := trodVars_none hV
  obtain ⟨cs0, rfl, hsz0⟩ := okWide_struct Try.underlying25 (hval 0 25 v0 rfl rfl)
  have k0 := g0
  have lt0 : ∀ x ∈ p0, x.block < W.heap.size := by obtain ⟨m, hm⟩ := k0; exact DataW.trod_lt m _ _ _ hm
  obtain ⟨y0, K0, F0⟩ : ∃ y, Kd.K k25 W y cs0.toList ∧ F25 y := by obtain ⟨fuel, hf⟩ := g0; exact op25 _ enc W fuel _ _ hf
  obtain ⟨A0_0, c0_0, A0_1, c0_1, e0, hl0_0, hr0_0, hl0_1, hr0_1⟩ := k25_open K0
  obtain rfl : cs0 = #[.slice A0_0 y0.f0.length c0_0, .slice A0_1 y0.f1.length c0_1] := by cases cs0; simp_all
  obtain ⟨cs1, rfl, hsz1⟩ := okWide_struct Try.underlying25 (hval 1 25 v1 rfl rfl)
  have k1 := g1
  have lt1 : ∀ x ∈ p1, x.block < W.heap.size := by obtain ⟨m, hm⟩ := k1; exact DataW.trod_lt m _ _ _ hm
  obtain ⟨y1, K1, F1⟩ : ∃ y, Kd.K k25 W y cs1.toList ∧ F25 y := by obtain ⟨fuel, hf⟩ := g1; exact op25 _ enc W fuel _ _ hf
  obtain ⟨A1_0, c1_0, A1_1, c1_1, e1, hl1_0, hr1_0, hl1_1, hr1_1⟩ := k25_open K1
  obtain rfl : cs1 = #[.slice A1_0 y1.f0.length c1_0, .slice A1_1 y1.f1.length c1_1] := by cases cs1; simp_all
  clear hA0 hval0 hsz0
  refine (K.JoinTwo y0 A0_0 c0_0 A0_1 c0_1 y1 A1_0 c1_0 A1_1 c1_1 W hl0_0 hr0_0 hl0_1 hr0_1 F0 hl1_0 hr1_0 hl1_1 hr1_1 F1).mono fun e W' ⟨he, bel⟩ => ?_
  subst he
  exact ⟨_, rfl, _, _, _, [], _, [], hW', trodAll_mk1 (shut_bool Try.underlying4 _), (trodAll_cons_mk (Below.trod laidOut (by kernel_rfl) (of_decide_eq_true (by kernel_rfl)) k0 bel lt0) (trodAll_cons_mk (Below.trod laidOut (by kernel_rfl) (of_decide_eq_true (by kernel_rfl)) k1 bel lt1) trodAll_mk0)), rfl, bel.frame _, fun h => by cases h⟩
theorem over : Rows.fnExactJoinTwoRow.holds Try.pinned (OpenSpec.ofChange Rows.fnExactJoinTwoSpec) :=
  OpenClaim.holds_of_wide 3 Try.f3 rfl rfl rfl rfl rfl rfl rfl ⟨rfl, rfl, rfl, rfl, rfl⟩ rfl rfl rfl rfl rfl (by kernel_rfl) Try.func3 (by kernel_rfl)
    (of_decide_eq_true (by kernel_rfl)) (by unfold Func.isWrapper; first | (rw [if_pos (by decide +kernel)]; kernel_rfl) | (rw [if_neg (by decide +kernel)]; exact ⟨rfl, rfl⟩))
    (fun os started H enc _ => lifted os started H enc)
theorem proved : Rows.FnExactJoinTwoSaid := over
end Go.Proofs.Ytmimoaecdjkciaa.fnExactJoinTwo
namespace Go.Proofs.Ytmimoaecdjkciaa
/-- The given statement. -/
theorem fnExactJoinTwo_holds : Rows.FnExactJoinTwoSaid := fnExactJoinTwo.proved
#print axioms fnExactJoinTwo_holds
end Go.Proofs.Ytmimoaecdjkciaa
