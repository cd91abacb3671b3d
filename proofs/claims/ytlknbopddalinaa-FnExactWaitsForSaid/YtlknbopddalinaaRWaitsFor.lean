/- The law FnExactWaitsFor: for every input it returns true, and its arguments read as they did: the given statement out of the walk. No condition. -/
import Derived.Test.YtlknbopddalinaaRows
import Derived.Test.YtlknbopddalinaaKWaitsFor
import Derived.Test.YtlknbopddalinaaOps
import Derived.WalkKit
import Derived.ProofKit
import Derived.OpenShut
import Derived.ChangeOld
import Derived.Below
import Derived.SizedLaws
namespace Go.Proofs.Ytlknbopddalinaa.fnExactWaitsFor
open Go.ChangeShapes Go.WideShapes Go.ChangeAt Go.RowKit Go.Proofs.Ytlknbopddalinaa.Ops Go.Proofs.Ytlknbopddalinaa.Pr Go.Proofs.Ytlknbopddalinaa.Open Go.Proofs.YtlknbopddalinaaW.PrintWords
set_option linter.unusedVariables false
set_option linter.unusedSimpArgs false
theorem own : ownKnob Try.prog.godebug = none := by kernel_rfl
theorem laidOut : laidOutB Try.prog = true := by kernel_rfl
set_option maxRecDepth 100000 in
theorem lifted (os : Os) (started : os.Started) (H : Type) (enc : TypeId × Value → H) :
    ReturnsInHanded {} Try.checked os 5 .any (Rows.fnExactWaitsForSpec.pre6 enc Try.prog Try.f5 Rows.fnExactWaitsForRow.domain false) (Rows.fnExactWaitsForSpec.post enc Try.prog Try.f5 false true false false) := by
  refine returnsInHanded_of_change_sized (C := Try.checked) own started (by kernel_rfl) Try.func5
    (ChangeSpec.witness6 (enc := enc) (C := Try.checked) false ⟨#[], #[.agg #[.slice none 0 0, .slice none 0 0, .slice none 0 0], .agg #[.int .i64 0, .int .i64 0, .bool false, .bool false]], []⟩ 8 (by kernel_rfl) (by kernel_rfl) (by kernel_rfl) (by kernel_rfl)) ?_
  intro W base args ds gs before hval0 hW hcnd hsz0 _
  have hval : ∀ (j : Nat) t v, Try.f5.params[j]? = some t → args[j]? = some v → Value.okWide Try.prog W .any base t v := hval0
  have hW' := hW
  obtain ⟨p, q, hA0, hV, rfl, hfz, hnd⟩ := hW
  have hA : DataW.TrodAll enc Try.prog W 0 (fun _ => true) true Try.f5.params.toList args.toList ds p := hA0
  rw [Try.params5] at hA hval
  obtain ⟨v0, vs0, d0, ds0, p0, q0, hargs, rfl, rfl, g0, r0⟩ := trodAll_cons hA
  obtain ⟨v1, vs1, d1, ds1, p1, q1, rfl, rfl, rfl, g1, r1⟩ := trodAll_cons r0
  obtain ⟨rfl, rfl, rfl⟩ := trodAll_nil r1
  obtain rfl : args = #[v0, v1] := by cases args; simp_all
  obtain ⟨rfl, rfl⟩ := trodVars_none hV
  obtain ⟨cs0, rfl, hsz0⟩ := okWide_struct Try.underlying30 (hval 0 30 v0 rfl rfl)
  have k0 := g0
  have lt0 : ∀ x ∈ p0, x.block < W.heap.size := by obtain ⟨m, hm⟩ := k0; exact DataW.trod_lt m _ _ _ hm
  obtain ⟨y0, K0, F0⟩ : ∃ y, Kd.K k30 W y cs0.toList ∧ F30 y := by obtain ⟨fuel, hf⟩ := g0; exact op30 _ enc W fuel _ _ hf
  obtain ⟨A0_0, c0_0, A0_1, c0_1, A0_2, c0_2, e0, hl0_0, hr0_0, hl0_1, hr0_1, hl0_2, hr0_2⟩ := k30_open K0
  obtain rfl : cs0 = #[.slice A0_0 y0.f0.length c0_0, .slice A0_1 y0.f1.length c0_1, .slice A0_2 y0.f2.length c0_2] := by cases cs0; simp_all
  obtain ⟨cs1, rfl, hsz1⟩ := okWide_struct Try.underlying39 (hval 1 39 v1 rfl rfl)
  have k1 := g1
  have lt1 : ∀ x ∈ p1, x.block < W.heap.size := by obtain ⟨m, hm⟩ := k1; exact DataW.trod_lt m _ _ _ hm
  obtain ⟨y1, K1, F1⟩ : ∃ y, Kd.K k39 W y cs1.toList ∧ F39 y := by obtain ⟨fuel, hf⟩ := g1; exact op39 _ enc W fuel _ _ hf
  have e1 := k39_open K1
  obtain rfl : cs1 = #[.int .i64 y1.f0, .int .i64 y1.f1, .bool y1.f2, .bool y1.f3] := by cases cs1; simp_all
  clear hA0 hval0 hsz0
  refine (K.WaitsFor y0 A0_0 c0_0 A0_1 c0_1 A0_2 c0_2 y1 W hl0_0 hr0_0 hl0_1 hr0_1 hl0_2 hr0_2 F0 F1).mono fun e W' ⟨he, bel⟩ => ?_
  subst he
  exact ⟨_, rfl, _, _, _, [], _, [], hW', trodAll_mk1 (shut_bool Try.underlying4 _), (trodAll_cons_mk (Below.trod laidOut (by kernel_rfl) (of_decide_eq_true (by kernel_rfl)) k0 bel lt0) (trodAll_cons_mk (Below.trod laidOut (by kernel_rfl) (of_decide_eq_true (by kernel_rfl)) k1 bel lt1) trodAll_mk0)), rfl, bel.frame _, fun h => by cases h⟩
theorem over : Rows.fnExactWaitsForRow.holds Try.pinned (OpenSpec.ofChange Rows.fnExactWaitsForSpec) :=
  OpenClaim.holds_of_wide 5 Try.f5 rfl rfl rfl rfl rfl rfl rfl ⟨rfl, rfl, rfl, rfl, rfl⟩ rfl rfl rfl rfl rfl (by kernel_rfl) Try.func5 (by kernel_rfl)
    (of_decide_eq_true (by kernel_rfl)) (by unfold Func.isWrapper; first | (rw [if_pos (by decide +kernel)]; kernel_rfl) | (rw [if_neg (by decide +kernel)]; exact ⟨rfl, rfl⟩))
    (fun os started H enc _ => lifted os started H enc)
theorem proved : Rows.FnExactWaitsForSaid := over
end Go.Proofs.Ytlknbopddalinaa.fnExactWaitsFor
namespace Go.Proofs.Ytlknbopddalinaa
/-- The given statement. -/
theorem fnExactWaitsFor_holds : Rows.FnExactWaitsForSaid := fnExactWaitsFor.proved
#print axioms fnExactWaitsFor_holds
end Go.Proofs.Ytlknbopddalinaa
