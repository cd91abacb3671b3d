/- The law FnExactBadIn: for every input it returns true, and its arguments read as they did: the given statement out of the walk. No condition. -/
import Derived.Test.YtmbfgfhncbmgpaaRows
import Derived.Test.YtmbfgfhncbmgpaaKBadIn
import Derived.Test.YtmbfgfhncbmgpaaMerge1
import Derived.WalkKit
import Derived.ProofKit
import Derived.OpenShut
import Derived.ChangeOld
import Derived.Below
import Derived.SizedLaws
namespace Go.Proofs.Ytmbfgfhncbmgpaa.fnExactBadIn
open Go.ChangeShapes Go.WideShapes Go.ChangeAt Go.RowKit Go.Proofs.Ytmbfgfhncbmgpaa.Ops Go.Proofs.Ytmbfgfhncbmgpaa.Pr Go.Proofs.Ytmbfgfhncbmgpaa.Open Go.Proofs.YtmbfgfhncbmgpaaW.PrintWords
set_option linter.unusedVariables false
set_option linter.unusedSimpArgs false
theorem own : ownKnob Try.prog.godebug = none := by kernel_rfl
theorem laidOut : laidOutB Try.prog = true := by kernel_rfl
set_option maxRecDepth 100000 in
theorem lifted (os : Os) (started : os.Started) (H : Type) (enc : TypeId × Value → H) :
    ReturnsInHanded {} Try.checked os 10 .any (Rows.fnExactBadInSpec.pre6 enc Try.prog Try.f10 Rows.fnExactBadInRow.domain false) (Rows.fnExactBadInSpec.post enc Try.prog Try.f10 false true false false) := by
  refine returnsInHanded_of_change_sized (C := Try.checked) own started (by kernel_rfl) Try.func10
    (ChangeSpec.witness6 (enc := enc) (C := Try.checked) false ⟨#[], #[.int .i64 0, .slice none 0 0, .slice none 0 0], []⟩ 8 (by kernel_rfl) (by kernel_rfl) (by kernel_rfl) (by kernel_rfl)) ?_
  intro W base args ds gs before hval0 hW hcnd hsz0 _
  have hval : ∀ (j : Nat) t v, Try.f10.params[j]? = some t → args[j]? = some v → Value.okWide Try.prog W .any base t v := hval0
  have hW' := hW
  obtain ⟨p, q, hA0, hV, rfl, hfz, hnd⟩ := hW
  have hA : DataW.TrodAll enc Try.prog W 0 (fun _ => true) true Try.f10.params.toList args.toList ds p := hA0
  rw [Try.params10] at hA hval
  obtain ⟨v0, vs0, d0, ds0, p0, q0, hargs, rfl, rfl, g0, r0⟩ := trodAll_cons hA
  obtain ⟨v1, vs1, d1, ds1, p1, q1, rfl, rfl, rfl, g1, r1⟩ := trodAll_cons r0
  obtain ⟨v2, vs2, d2, ds2, p2, q2, rfl, rfl, rfl, g2, r2⟩ := trodAll_cons r1
  obtain ⟨rfl, rfl, rfl⟩ := trodAll_nil r2
  obtain rfl : args = #[v0, v1, v2] := by cases args; simp_all
  obtain ⟨rfl, rfl⟩ := trodVars_none hV
  obtain ⟨a0, rfl, rfl, rfl, w0⟩ := open_int Try.underlying3 (hval 0 3 v0 rfl rfl) g0
  obtain ⟨a1, len1, cap1, rfl⟩ := okWide_slice Try.underlying22 (hval 1 22 v1 rfl rfl)
  have k1 := g1
  have lt1 : ∀ x ∈ p1, x.block < W.heap.size := by obtain ⟨m, hm⟩ := k1; exact DataW.trod_lt m _ _ _ hm
  obtain ⟨y1, ⟨A1, c1, hcs1, hl1, hr1⟩, F1⟩ : ∃ y, Kd.K (Kd.slice 25 k25) W y [Value.slice a1 len1 cap1] ∧ FL25 y := by obtain ⟨fuel, hf⟩ := g1; exact (op_slice Try.underlying22 (by kernel_rfl) op25) _ enc W fuel _ _ hf
  obtain ⟨rfl, rfl, rfl⟩ : A1 = a1 ∧ y1.length = len1 ∧ c1 = cap1 := by simpa using hcs1.symm
  obtain ⟨a2, len2, cap2, rfl⟩ := okWide_slice Try.underlying23 (hval 2 23 v2 rfl rfl)
  have k2 := g2
  have lt2 : ∀ x ∈ p2, x.block < W.heap.size := by obtain ⟨m, hm⟩ := k2; exact DataW.trod_lt m _ _ _ hm
  obtain ⟨y2, ⟨A2, c2, hcs2, hl2, hr2⟩, F2⟩ : ∃ y, Kd.K (Kd.slice 3 (Kd.int .i64)) W y [Value.slice a2 len2 cap2] ∧ FLii64 y := by obtain ⟨fuel, hf⟩ := g2; exact (op_slice Try.underlying23 (by kernel_rfl) (op_int Try.underlying3)) _ enc W fuel _ _ hf
  obtain ⟨rfl, rfl, rfl⟩ : A2 = a2 ∧ y2.length = len2 ∧ c2 = cap2 := by simpa using hcs2.symm
  clear hA0 hval0 hsz0
  refine (K.BadIn a0 A1 c1 y1 A2 c2 y2 W w0 hl1 hr1 F1 hl2 hr2 F2).mono fun e W' ⟨he, bel⟩ => ?_
  subst he
  exact ⟨_, rfl, _, _, _, [], _, [], hW', trodAll_mk1 (shut_bool Try.underlying4 _), (trodAll_cons_mk (shut_int Try.underlying3 w0) (trodAll_cons_mk (Below.trod laidOut (by kernel_rfl) (of_decide_eq_true (by kernel_rfl)) k1 bel lt1) (trodAll_cons_mk (Below.trod laidOut (by kernel_rfl) (of_decide_eq_true (by kernel_rfl)) k2 bel lt2) trodAll_mk0))), rfl, bel.frame _, fun h => by cases h⟩
theorem over : Rows.fnExactBadInRow.holds Try.pinned (OpenSpec.ofChange Rows.fnExactBadInSpec) :=
  OpenClaim.holds_of_wide 10 Try.f10 rfl rfl rfl rfl rfl rfl rfl ⟨rfl, rfl, rfl, rfl, rfl⟩ rfl rfl rfl rfl rfl (by kernel_rfl) Try.func10 (by kernel_rfl)
    (of_decide_eq_true (by kernel_rfl)) (by unfold Func.isWrapper; first | (rw [if_pos (by decide +kernel)]; kernel_rfl) | (rw [if_neg (by decide +kernel)]; exact ⟨rfl, rfl⟩))
    (fun os started H enc _ => lifted os started H enc)
theorem proved : Rows.FnExactBadInSaid := over
end Go.Proofs.Ytmbfgfhncbmgpaa.fnExactBadIn
namespace Go.Proofs.Ytmbfgfhncbmgpaa
/-- The given statement. -/
theorem fnExactBadIn_holds : Rows.FnExactBadInSaid := fnExactBadIn.proved
#print axioms fnExactBadIn_holds
end Go.Proofs.Ytmbfgfhncbmgpaa
