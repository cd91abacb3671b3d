/- impl.distinct's comparer over two values: what it answers, and that it lays two boxes and nothing else. No condition. -/
import Derived.Test.YtmlbihhaikknnaaPr2
import Derived.Test.YtmlbihhaikknnaaSp
import Derived.Test.YtmlbihhaikknnaaShelf
import Derived.Test.YtmlbihhaikknnaaIv
namespace Go.Proofs.Ytmlbihhaikknnaa.Sp
open Go.RowKit Go.Sort Go.Lib Go.Proofs Go.Proofs.Ytmlbihhaikknnaa Go.Proofs.Ytmlbihhaikknnaa.Pr Go.Proofs.YtmlbihhaikknnaaW.PrintWords Go.Proofs.YtmlbihhaikknnaaW.PrintLast Go.Proofs.YtmlbihhaikknnaaW.PrintMore
set_option linter.unusedVariables false
set_option linter.unusedSimpArgs false
theorem push2 (h : Array Obj) (o1 o2 : Obj) : (h.push o1).push o2 = h ++ #[o1, o2] := by
  apply Array.ext'
  simp
theorem two_boxes {w w3 : World} {o1 o2 : Obj} {q : Nat} (h : ((w.alloc o1).alloc o2).drewN q = w3) : ∃ q os', w3 = grow (w.drewN q) os' := by
  refine ⟨q, #[o1, o2], ?_⟩
  rw [← h]
  have e : ((w.alloc o1).alloc o2).heap = w.heap ++ #[o1, o2] := push2 w.heap o1 o2
  unfold grow World.drewN
  rw [← e]
  rfl
set_option maxHeartbeats 1000000 in
set_option maxRecDepth 100000 in
theorem cmpV (a0 : Bool) (a1 : Int) (b0 : Bool) (b1 : Int) (r : Int) (w : World) (h : impl_distinct_1.f a0 a1 b0 b1 = some r) :
    Calls Try.prog 45 #[.agg #[.bool a0, .int .i64 a1], .agg #[.bool b0, .int .i64 b1]] w fun e w' => e = .returned (.int .i64 r) ∧ ∃ q os', w' = grow (w.drewN q) os' := by
  have x0 : ((w.alloc (.cells #[.bool a0, .int .i64 a1] 43)).alloc (.cells #[.bool b0, .int .i64 b1] 43)).cell? ⟨w.heap.size, 0, none⟩ = some (.bool a0) := Bx.box_alloc _ (Bx.box_new _ _ _ _ _ rfl)
  have x1 : ((w.alloc (.cells #[.bool a0, .int .i64 a1] 43)).alloc (.cells #[.bool b0, .int .i64 b1] 43)).cell? ⟨w.heap.size, 1, none⟩ = some (.int .i64 a1) := Bx.box_alloc _ (Bx.box_new _ _ _ _ _ rfl)
  have y0 : ((w.alloc (.cells #[.bool a0, .int .i64 a1] 43)).alloc (.cells #[.bool b0, .int .i64 b1] 43)).cell? ⟨w.heap.size + 1, 0, none⟩ = some (.bool b0) := Bx.box_new' _ _ _ _ _ _ (by simp) rfl
  have y1 : ((w.alloc (.cells #[.bool a0, .int .i64 a1] 43)).alloc (.cells #[.bool b0, .int .i64 b1] 43)).cell? ⟨w.heap.size + 1, 1, none⟩ = some (.int .i64 b1) := Bx.box_new' _ _ _ _ _ _ (by simp) rfl
  have hu := Try.underlying43
  unfold impl_distinct_1.f at h
  by_cases c : (a0 == b0) = true
  · rw [if_pos c] at h
    obtain ⟨t, ht, h⟩ := Option.bind_eq_some_iff.mp h
    obtain rfl := Option.some.inj h
    go_enter Try.func45, Try.ntmps45
    go_wp2_with (first | (go_at_call 46; refine (cmp_Compare_int.calls a1 b1 t _ ht).mono ?_; rintro e w3 ⟨rfl, q, hq⟩))
    go_ret
    exact ⟨rfl, two_boxes rfl⟩
  · have cf : (a0 == b0) = false := by simpa using c
    rw [if_neg c] at h
    cases a0
    · simp only [Bool.false_eq_true, if_false] at h
      obtain rfl := Option.some.inj h
      go_enter Try.func45, Try.ntmps45
      go_wp2
      go_ret
      exact ⟨rfl, two_boxes (q := 0) rfl⟩
    · simp only [if_true] at h
      obtain rfl := Option.some.inj h
      go_enter Try.func45, Try.ntmps45
      go_wp2
      go_ret
      exact ⟨rfl, two_boxes (q := 0) rfl⟩
end Go.Proofs.Ytmlbihhaikknnaa.Sp
