/- What the reference makes of two lists of columns, and the laws' values. Conditions: lengths that Go can hold. -/
import Derived.Test.YtmbfgfhncbmgpaaPr0
import Derived.Test.YtmbfgfhncbmgpaaPr1
import Derived.Test.YtmbfgfhncbmgpaaPr2
import Derived.Test.YtmbfgfhncbmgpaaPr3
import Derived.Test.YtmbfgfhncbmgpaaACl
import Derived.Test.YtmbfgfhncbmgpaaEBoth
namespace Go.Proofs.Ytmbfgfhncbmgpaa.Ax
open Go.RowKit Go.Proofs.Ytmbfgfhncbmgpaa.Pr Go.Proofs.Ytmbfgfhncbmgpaa.Pl Go.Proofs.YtmbfgfhncbmgpaaW.PrintWords Go.Proofs.YtmbfgfhncbmgpaaW.PrintLast Go.Proofs.YtmbfgfhncbmgpaaW.PrintMore
set_option linter.unusedVariables false
set_option linter.unusedSimpArgs false
theorem Ev_ite {α : Type} {b : Bool} {g h : Nat → Option α} {r : α} (h1 : b = true → Ev g r) (h2 : b = false → Ev h r) : Ev (fun k => if b = true then g k else h k) r := by
  cases b with
  | true => simpa using h1 rfl
  | false => simpa using h2 rfl
theorem l6Both_l0 (b a : List Int) (ha : a.length ≤ 1000000) (hb : b.length ≤ 9223372036854775807) : ∀ (ys : List Int) (j : Nat) (out : List Int), a.drop j = ys → out.length ≤ j →
    Ev (fun k => spec_l6Both.l0 k b out a (a.length : Int) (j : Int)) (out ++ ys.filter fun x => b.contains x)
  | [], j, out, h, ho => by
    have := drop_nil h
    refine ev_succ ?_
    simp only [spec_l6Both.l0]
    simp only [if_neg (show ¬ ((j : Int) < (a.length : Int)) by omega)]
    exact ev_now (by simp)
  | y :: ys, j, out, h, ho => by
    obtain ⟨i1, i2, i3⟩ := drop_cons h
    refine ev_succ ?_
    simp only [spec_l6Both.l0]
    simp only [if_pos (show (j : Int) < (a.length : Int) by omega), if_pos (show (0 : Int) ≤ (j : Int) by omega), rd_drop h, wrap_succ (show j < 9223372036854775807 by omega)]
    refine Ev.bind (l1Has_ev b y hb) (Ev_ite (fun e => ?_) (fun e => ?_))
    · simp only [if_pos (show out.length < 17592186044416 by omega)]
      have := l6Both_l0 b a ha hb ys (j + 1) (out ++ [y]) i3 (by simp; omega)
      rw [List.filter_cons, if_pos e]
      simpa using this
    · have := l6Both_l0 b a ha hb ys (j + 1) out i3 (by omega)
      rw [List.filter_cons, if_neg (by rw [e]; decide)]
      exact this
theorem l6Both_ev (a b : List Int) (ha : a.length ≤ 1000000) (hb : b.length ≤ 9223372036854775807) : Ev (fun k => spec_l6Both.f k a b) (a.filter fun x => b.contains x) := l6Both_l0 b a ha hb a 0 [] rfl (by simp)
theorem ins_length (n : Int) : ∀ l : List Int, (ins l n).length ≤ l.length + 1
  | [] => by simp [ins]
  | x :: xs => by
    have := ins_length n xs
    unfold ins
    split
    · simp; omega
    · split <;> simp
theorem l6Either_l0 (b : List Int) : ∀ (ys : List Int) (j : Nat) (out : List Int), b.drop j = ys → out.length + ys.length < 1000000 → b.length < 1000000 → Ev (fun k => spec_l6Either.l0 k out b (b.length : Int) (j : Int)) (puts out ys)
  | [], j, out, h, ho, hb => by
    have := drop_nil h
    refine ev_succ ?_
    simp only [spec_l6Either.l0]
    simp only [if_neg (show ¬ ((j : Int) < (b.length : Int)) by omega)]
    exact ev_now rfl
  | y :: ys, j, out, h, ho, hb => by
    obtain ⟨i1, i2, i3⟩ := drop_cons h
    have hi := ins_length y out
    simp only [List.length_cons] at ho
    refine ev_succ ?_
    simp only [spec_l6Either.l0]
    simp only [if_pos (show (j : Int) < (b.length : Int) by omega), if_pos (show (0 : Int) ≤ (j : Int) by omega), rd_drop h, wrap_succ (show j < 9223372036854775807 by omega)]
    refine Ev.bind (l1Put_ev y out (by omega)) ?_
    exact l6Either_l0 b ys (j + 1) (ins out y) i3 (by omega) hb
theorem l6Either_ev (a b : List Int) (h : a.length + b.length < 1000000) : Ev (fun k => spec_l6Either.f k a b) (puts a b) := by
  simp only [spec_l6Either.f, Option.bind_some, List.length_nil, List.nil_append, if_pos (show 0 + a.length < 17592186044416 by omega)]
  exact l6Either_l0 b b 0 a rfl h (by omega)
theorem l6Part_ev (a : Int) (l : List S32) (p : List Int) (hO : OkDepS l) (hp : p.length < 9223372036854775807) : Ev (fun k => spec_l6Part.f k a l p) (gdV a l && rs 0 (wrap64 (a - 1)) none p) := by
  simp only [spec_l6Part.f]
  refine Ev.bind (sGD_ev a l hO) (Ev_ite (fun e => ?_) (fun e => ?_))
  · exact Ev.bind (l1Rising_ev p _ _ hp) (ev_now (by simp [e]))
  · exact ev_now (by simp [e])
theorem areCols_ev (a : Int) (p : List Int) (hp : p.length < 9223372036854775807) : Ev (fun k => impl_areColumns.f k a p) (rs 0 (wrap64 (a - 1)) none p) := by
  simp only [impl_areColumns.f]
  exact Ev.bind (isRising_ev p _ _ hp) (ev_now rfl)
theorem filter_GL {a : Int} {l : List Int} (p : Int → Bool) (h : GL a l) : GL a (l.filter p) := ⟨h.1.filter _, fun x hx => h.2 x (List.mem_filter.1 hx).1⟩
theorem okD_iff {a : Int} (h1 : 1 ≤ a) (h6 : a ≤ 6) (x : S32) : okD a x = true ↔ GL a x.f0 ∧ GL a x.f1 := by
  unfold okD
  rw [Bool.and_eq_true]
  exact ⟨fun h => ⟨GL_of_rs h1 h6 h.1, GL_of_rs h1 h6 h.2⟩, fun h => ⟨rs_of_GL h1 h6 h.1, rs_of_GL h1 h6 h.2⟩⟩
/-- Part of good columns: just what lies in them and rises. -/
theorem isDep_ev' (a : Int) (f t : List Int) (h0 : f.length ≤ 9223372036854775807) (h1 : t.length ≤ 9223372036854775807) : Ev (fun k => impl_isDep.f k a f t) (okD a ⟨f, t⟩) := isDep_ev a ⟨f, t⟩ h0 h1
end Go.Proofs.Ytmbfgfhncbmgpaa.Ax
