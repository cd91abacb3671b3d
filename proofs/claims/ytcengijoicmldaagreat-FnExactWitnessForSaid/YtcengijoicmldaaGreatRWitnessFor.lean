/- The law FnExactWitnessFor: for every input it returns true, and its arguments read as they did: the given statement out of the walk. No condition. -/
import Derived.Test.YtcengijoicmldaaGreatRows
import Derived.Test.YtcengijoicmldaaGreatKWitnessFor
import Derived.Test.YtcengijoicmldaaGreatMx5
import Derived.WalkKit
import Derived.ProofKit
import Derived.OpenShut
import Derived.ChangeOld
import Derived.Below
import Derived.SizedLaws
namespace Go.Proofs.YtcengijoicmldaaGreat.fnExactWitnessFor
open Go.ChangeShapes Go.WideShapes Go.ChangeAt Go.RowKit Go.Proofs.YtcengijoicmldaaGreat.Ops Go.Proofs.YtcengijoicmldaaGreat.Pr Go.Proofs.YtcengijoicmldaaGreat.Open Go.Proofs.YtcengijoicmldaaGreatW.PrintWords
set_option linter.unusedVariables false
set_option linter.unusedSimpArgs false
theorem own : ownKnob Tryz.prog.godebug = none := by kernel_rfl
theorem laidOut : laidOutB Tryz.prog = true := by kernel_rfl
set_option maxRecDepth 100000 in
theorem lifted (os : Os) (started : os.Started) (H : Type) (enc : TypeId × Value → H) :
    ReturnsInHanded {} Tryz.checked os 3 .any (Rows.fnExactWitnessForSpec.pre6 enc Tryz.prog Tryz.f3 Rows.fnExactWitnessForRow.domain false) (Rows.fnExactWitnessForSpec.post enc Tryz.prog Tryz.f3 false true false false) := by
  refine returnsInHanded_of_change_sized (C := Tryz.checked) own started (by kernel_rfl) Tryz.func3
    (ChangeSpec.witness6 (enc := enc) (C := Tryz.checked) false ⟨#[], #[.int .i64 0, .slice none 0 0, .agg #[.slice none 0 0, .slice none 0 0]], []⟩ 8 (by kernel_rfl) (by kernel_rfl) (by kernel_rfl) (by kernel_rfl)) ?_
  intro W base args ds gs before hval0 hW hcnd hsz0 _
  have hval : ∀ (j : Nat) t v, Tryz.f3.params[j]? = some t → args[j]? = some v → Value.okWide Tryz.prog W .any base t v := hval0
  have hW' := hW
  obtain ⟨p, q, hA0, hV, rfl, hfz, hnd⟩ := hW
  have hA : DataW.TrodAll enc Tryz.prog W 0 (fun _ => true) true Tryz.f3.params.toList args.toList ds p := hA0
  rw [Tryz.params3] at hA hval
  obtain ⟨v0, vs0, d0, ds0, p0, q0, hargs, rfl, rfl, g0, r0⟩ := trodAll_cons hA
  obtain ⟨v1, vs1, d1, ds1, p1, q1, rfl, rfl, rfl, g1, r1⟩ := trodAll_cons r0
  obtain ⟨v2, vs2, d2, ds2, p2, q2, rfl, rfl, rfl, g2, r2⟩ := trodAll_cons r1
  obtain ⟨rfl, rfl, rfl⟩ := trodAll_nil r2
  obtain rfl : args = #[v0, v1, v2] := by cases args; simp_all
  obtain ⟨rfl, rfl⟩ := trodVars_none hV
  obtain ⟨a0, rfl, rfl, rfl, w0⟩ := open_int Tryz.underlying3 (hval 0 3 v0 rfl rfl) g0
  obtain ⟨a1, len1, cap1, rfl⟩ := okWide_slice Tryz.underlying22 (hval 1 22 v1 rfl rfl)
  have k1 := g1
  have lt1 : ∀ x ∈ p1, x.block < W.heap.size := by obtain ⟨m, hm⟩ := k1; exact DataW.trod_lt m _ _ _ hm
  obtain ⟨y1, ⟨A1, c1, hcs1, hl1, hr1⟩, F1⟩ : ∃ y, Kd.K (Kd.slice 25 k25) W y [Value.slice a1 len1 cap1] ∧ FL25 y := by obtain ⟨fuel, hf⟩ := g1; exact (op_slice Tryz.underlying22 (by kernel_rfl) op25) _ enc W fuel _ _ hf
  obtain ⟨rfl, rfl, rfl⟩ : A1 = a1 ∧ y1.length = len1 ∧ c1 = cap1 := by simpa using hcs1.symm
  obtain ⟨cs2, rfl, hsz2⟩ := okWide_struct Tryz.underlying25 (hval 2 25 v2 rfl rfl)
  have k2 := g2
  have lt2 : ∀ x ∈ p2, x.block < W.heap.size := by obtain ⟨m, hm⟩ := k2; exact DataW.trod_lt m _ _ _ hm
  obtain ⟨y2, K2, F2⟩ : ∃ y, Kd.K k25 W y cs2.toList ∧ F25 y := by obtain ⟨fuel, hf⟩ := g2; exact op25 _ enc W fuel _ _ hf
  obtain ⟨A2_0, c2_0, A2_1, c2_1, e2, hl2_0, hr2_0, hl2_1, hr2_1⟩ := k25_open K2
  obtain rfl : cs2 = #[.slice A2_0 y2.f0.length c2_0, .slice A2_1 y2.f1.length c2_1] := by cases cs2; simp_all
  clear hA0 hval0 hsz0
  refine (K.WitnessFor a0 A1 c1 y1 y2 A2_0 c2_0 A2_1 c2_1 W w0 hl1 hr1 F1 hl2_0 hr2_0 hl2_1 hr2_1 F2).mono fun e W' ⟨he, bel⟩ => ?_
  subst he
  exact ⟨_, rfl, _, _, _, [], _, [], hW', trodAll_mk1 (shut_bool Tryz.underlying4 _), (trodAll_cons_mk (shut_int Tryz.underlying3 w0) (trodAll_cons_mk (Below.trod laidOut (by kernel_rfl) (of_decide_eq_true (by kernel_rfl)) k1 bel lt1) (trodAll_cons_mk (Below.trod laidOut (by kernel_rfl) (of_decide_eq_true (by kernel_rfl)) k2 bel lt2) trodAll_mk0))), rfl, bel.frame _, fun h => by cases h⟩
theorem over : Rows.fnExactWitnessForRow.holds Tryz.pinned (OpenSpec.ofChange Rows.fnExactWitnessForSpec) :=
  OpenClaim.holds_of_wide 3 Tryz.f3 rfl rfl rfl rfl rfl rfl rfl ⟨rfl, rfl, rfl, rfl, rfl⟩ rfl rfl rfl rfl rfl (by kernel_rfl) Tryz.func3 (by kernel_rfl)
    (of_decide_eq_true (by kernel_rfl)) (by unfold Func.isWrapper; first | (rw [if_pos (by decide +kernel)]; kernel_rfl) | (rw [if_neg (by decide +kernel)]; exact ⟨rfl, rfl⟩))
    (fun os started H enc _ => lifted os started H enc)
theorem proved : Rows.FnExactWitnessForSaid := over
end Go.Proofs.YtcengijoicmldaaGreat.fnExactWitnessFor
namespace Go.Proofs.YtcengijoicmldaaGreat
theorem fnExactWitnessFor_holds : Rows.FnExactWitnessForSaid := fnExactWitnessFor.proved
#print axioms fnExactWitnessFor_holds
end Go.Proofs.YtcengijoicmldaaGreat
