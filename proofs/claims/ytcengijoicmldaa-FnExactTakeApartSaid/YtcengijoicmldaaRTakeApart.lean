/- The law FnExactTakeApart: for every input it returns true, and its arguments read as they did: the given statement out of the walk. No condition. -/
import Derived.Test.YtcengijoicmldaaRows
import Derived.Test.YtcengijoicmldaaKTakeApart
import Derived.Test.YtcengijoicmldaaOps
import Derived.WalkKit
import Derived.ProofKit
import Derived.OpenShut
import Derived.ChangeOld
import Derived.Below
import Derived.SizedLaws
namespace Go.Proofs.Ytcengijoicmldaa.fnExactTakeApart
open Go.ChangeShapes Go.WideShapes Go.ChangeAt Go.RowKit Go.Proofs.Ytcengijoicmldaa.Ops Go.Proofs.Ytcengijoicmldaa.Pr Go.Proofs.Ytcengijoicmldaa.Open Go.Proofs.YtcengijoicmldaaW.PrintWords
set_option linter.unusedVariables false
set_option linter.unusedSimpArgs false
theorem own : ownKnob Try.prog.godebug = none := by kernel_rfl
theorem laidOut : laidOutB Try.prog = true := by kernel_rfl
set_option maxRecDepth 100000 in
theorem lifted (os : Os) (started : os.Started) (H : Type) (enc : TypeId × Value → H) :
    ReturnsInHanded {} Try.checked os 4 .any (Rows.fnExactTakeApartSpec.pre6 enc Try.prog Try.f4 Rows.fnExactTakeApartRow.domain false) (Rows.fnExactTakeApartSpec.post enc Try.prog Try.f4 false true false false) := by
  refine returnsInHanded_of_change_sized (C := Try.checked) own started (by kernel_rfl) Try.func4
    (ChangeSpec.witness6 (enc := enc) (C := Try.checked) false ⟨#[], #[.agg #[.slice none 0 0, .slice none 0 0], .slice none 0 0], []⟩ 8 (by kernel_rfl) (by kernel_rfl) (by kernel_rfl) (by kernel_rfl)) ?_
  intro W base args ds gs before hval0 hW hcnd hsz0 _
  have hval : ∀ (j : Nat) t v, Try.f4.params[j]? = some t → args[j]? = some v → Value.okWide Try.prog W .any base t v := hval0
  have hW' := hW
  obtain ⟨p, q, hA0, hV, rfl, hfz, hnd⟩ := hW
  have hA : DataW.TrodAll enc Try.prog W 0 (fun _ => true) true Try.f4.params.toList args.toList ds p := hA0
  rw [Try.params4] at hA hval
  obtain ⟨v0, vs0, d0, ds0, p0, q0, hargs, rfl, rfl, g0, r0⟩ := trodAll_cons hA
  obtain ⟨v1, vs1, d1, ds1, p1, q1, rfl, rfl, rfl, g1, r1⟩ := trodAll_cons r0
  obtain ⟨rfl, rfl, rfl⟩ := trodAll_nil r1
  obtain rfl : args = #[v0, v1] := by cases args; simp_all
  obtain ⟨rfl, rfl⟩ := trodVars_none hV
  obtain ⟨cs0, rfl, hsz0⟩ := okWide_struct Try.underlying37 (hval 0 37 v0 rfl rfl)
  have k0 := g0
  have lt0 : ∀ x ∈ p0, x.block < W.heap.size := by obtain ⟨m, hm⟩ := k0; exact DataW.trod_lt m _ _ _ hm
  obtain ⟨y0, K0, F0⟩ : ∃ y, Kd.K k37 W y cs0.toList ∧ F37 y := by obtain ⟨fuel, hf⟩ := g0; exact op37 _ enc W fuel _ _ hf
  obtain ⟨A0_0, c0_0, A0_1, c0_1, e0, hl0_0, hr0_0, hl0_1, hr0_1⟩ := k37_open K0
  obtain rfl : cs0 = #[.slice A0_0 y0.f0.length c0_0, .slice A0_1 y0.f1.length c0_1] := by cases cs0; simp_all
  obtain ⟨a1, len1, cap1, rfl⟩ := okWide_slice Try.underlying25 (hval 1 25 v1 rfl rfl)
  have k1 := g1
  have lt1 : ∀ x ∈ p1, x.block < W.heap.size := by obtain ⟨m, hm⟩ := k1; exact DataW.trod_lt m _ _ _ hm
  obtain ⟨y1, ⟨A1, c1, hcs1, hl1, hr1⟩, F1⟩ : ∃ y, Kd.K (Kd.slice 24 (Kd.slice 3 (Kd.int .i64))) W y [Value.slice a1 len1 cap1] ∧ FLLii64 y := by obtain ⟨fuel, hf⟩ := g1; exact (op_slice Try.underlying25 (by kernel_rfl) (op_slice Try.underlying24 (by kernel_rfl) (op_int Try.underlying3))) _ enc W fuel _ _ hf
  obtain ⟨rfl, rfl, rfl⟩ : A1 = a1 ∧ y1.length = len1 ∧ c1 = cap1 := by simpa using hcs1.symm
  clear hA0 hval0 hsz0
  refine (K.TakeApart y0 A0_0 c0_0 A0_1 c0_1 A1 c1 y1 W hl0_0 hr0_0 hl0_1 hr0_1 F0 hl1 hr1 F1).mono fun e W' ⟨he, bel⟩ => ?_
  subst he
  exact ⟨_, rfl, _, _, _, [], _, [], hW', trodAll_mk1 (shut_bool Try.underlying4 _), (trodAll_cons_mk (Below.trod laidOut (by kernel_rfl) (of_decide_eq_true (by kernel_rfl)) k0 bel lt0) (trodAll_cons_mk (Below.trod laidOut (by kernel_rfl) (of_decide_eq_true (by kernel_rfl)) k1 bel lt1) trodAll_mk0)), rfl, bel.frame _, fun h => by cases h⟩
theorem over : Rows.fnExactTakeApartRow.holds Try.pinned (OpenSpec.ofChange Rows.fnExactTakeApartSpec) :=
  OpenClaim.holds_of_wide 4 Try.f4 rfl rfl rfl rfl rfl rfl rfl ⟨rfl, rfl, rfl, rfl, rfl⟩ rfl rfl rfl rfl rfl (by kernel_rfl) Try.func4 (by kernel_rfl)
    (of_decide_eq_true (by kernel_rfl)) (by unfold Func.isWrapper; first | (rw [if_pos (by decide +kernel)]; kernel_rfl) | (rw [if_neg (by decide +kernel)]; exact ⟨rfl, rfl⟩))
    (fun os started H enc _ => lifted os started H enc)
theorem proved : Rows.FnExactTakeApartSaid := over
end Go.Proofs.Ytcengijoicmldaa.fnExactTakeApart
namespace Go.Proofs.Ytcengijoicmldaa
theorem fnExactTakeApart_holds : Rows.FnExactTakeApartSaid := fnExactTakeApart.proved
#print axioms fnExactTakeApart_holds
end Go.Proofs.Ytcengijoicmldaa
