/- Several small texts together: Mx1, RelA. No condition but those they name. -/
import Derived.Test.YtcengijoicmldaaPr1
import Derived.Test.YtcengijoicmldaaMx3
import Derived.Test.YtcengijoicmldaaPr2
import Derived.Test.YtcengijoicmldaaPr0
import Derived.Test.YtcengijoicmldaaMx9
import Derived.KernelRfl
import Derived.Test.YtcengijoicmldaaWWords
import Derived.Test.YtcengijoicmldaaWApart
import Derived.Test.YtcengijoicmldaaWLast
import Derived.Test.YtcengijoicmldaaWMore
/- Several small texts together: Ah, Mx0. No condition but those they name. -/
/- What looking for a number in a list tells. Conditions: lengths that Go can hold. -/
namespace Go.Proofs.Ytcengijoicmldaa.Ax
open Go.RowKit Go.Proofs.Ytcengijoicmldaa.Pr Go.Proofs.Ytcengijoicmldaa.Pl Go.Proofs.YtcengijoicmldaaW.PrintWords Go.Proofs.YtcengijoicmldaaW.PrintLast Go.Proofs.YtcengijoicmldaaW.PrintMore
set_option linter.unusedVariables false
set_option linter.unusedSimpArgs false
theorem idxInt_l0 (a : Int) (xs : List Int) (hb : xs.length ≤ 9223372036854775807) : ∀ (ys : List Int) (j : Nat), xs.drop j = ys → ∃ r : Int, Ev (fun k => slices_Index_int_int.l0 k xs a (xs.length : Int) (j : Int)) r ∧ decide (r ≥ 0) = ys.contains a
 | [], j, h => by
  have h1 := drop_nil h
  refine ⟨-1, ev_succ ?_, by simp⟩
  simp only [slices_Index_int_int.l0]
  simp only [if_neg (show ¬ ((j : Int) < (xs.length : Int)) by omega)]
  exact ev_now rfl
 | y :: ys, j, h => by
  obtain ⟨h1, h2, h3⟩ := drop_cons h
  by_cases e : a = y
  ·refine ⟨(j : Int), ev_succ ?_, by simp [e]⟩
   simp only [slices_Index_int_int.l0]
   simp only [if_pos (show (j : Int) < (xs.length : Int) by omega), if_pos (show (0 : Int) ≤ (j : Int) by omega), rd_drop h, if_pos e]
   exact ev_now rfl
  ·obtain ⟨r, h4, h5⟩ := idxInt_l0 a xs hb ys (j + 1) h3
   refine ⟨r, ev_succ ?_, by rw [h5]; simp [List.contains_cons, e]⟩
   simp only [slices_Index_int_int.l0]
   simp only [if_pos (show (j : Int) < (xs.length : Int) by omega), if_pos (show (0 : Int) ≤ (j : Int) by omega), rd_drop h, if_neg e, wrap_succ (show j < 9223372036854775807 by omega)]
   exact h4
theorem contains_ev (xs : List Int) (a : Int) (hb : xs.length ≤ 9223372036854775807) : Ev (fun k => slices_Contains_int_int.f k xs a) (xs.contains a) := by
 simp only [slices_Contains_int_int.f, slices_Index_int_int.f]
 obtain ⟨r, h4, h5⟩ := idxInt_l0 a xs hb xs 0 rfl
 exact Ev.bind h4 (ev_now (by rw [h5]))
end Go.Proofs.Ytcengijoicmldaa.Ax

/- Several small texts together: Aw, Ops. No condition but those they name. -/
/- Numbers between two others. No condition. -/
namespace Go.Proofs.Ytcengijoicmldaa.Ax
open Go.RowKit Go.Proofs.Ytcengijoicmldaa.Pr Go.Proofs.Ytcengijoicmldaa.Pl Go.Proofs.YtcengijoicmldaaW.PrintWords Go.Proofs.YtcengijoicmldaaW.PrintLast Go.Proofs.YtcengijoicmldaaW.PrintMore
set_option linter.unusedVariables false
set_option linter.unusedSimpArgs false
def win (n lo hi : Int) : Bool := decide (lo ≤ n ∧ n ≤ hi)
theorem win_iff (a lo hi : Int) : win a lo hi = true ↔ lo ≤ a ∧ a ≤ hi := by unfold win; simp
theorem l1In_eq (a b c : Int) : spec_l1In.f a b c = some (win a b c) := by
 unfold spec_l1In.f win
 split <;> simp <;> omega
theorem within_eq (a b c : Int) : impl_within.f a b c = some (win a b c) := by
 unfold impl_within.f win
 split <;> simp <;> omega
end Go.Proofs.Ytcengijoicmldaa.Ax

/- Each struct type among the laws' parameters: what it reads as. No condition. -/
namespace Go.Proofs.Ytcengijoicmldaa.Ops
open Go.RowKit Go.Proofs.YtcengijoicmldaaW.PrintWords Go.Proofs.Ytcengijoicmldaa.Open Go.Proofs.Ytcengijoicmldaa.Pr
set_option linter.unusedVariables false
def Fii64 (x : Int) : Prop := (Lit.int .i64 x).wf = true
def FLii64 (x : (List Int)) : Prop := x.length < 9223372036854775808 ∧ ∀ e_ ∈ x, Fii64 e_
def FLLii64 (x : (List (List Int))) : Prop := x.length < 9223372036854775808 ∧ ∀ e_ ∈ x, FLii64 e_
def F37 (x : S37) : Prop := FLii64 x.f0 ∧ FLLii64 x.f1
def FL37 (x : (List S37)) : Prop := x.length < 9223372036854775808 ∧ ∀ e_ ∈ x, F37 e_
theorem op37 : Opn Try.prog k37 F37 37 := op_struct _ (fun x => ⟨x.1, x.2⟩) (fun x => rfl) Try.underlying37 (by kernel_rfl) (sg_cons rfl (by kernel_rfl) (op_slice Try.underlying24 (by kernel_rfl) (op_int Try.underlying3)) (sg_one rfl (by kernel_rfl) (op_slice Try.underlying25 (by kernel_rfl) (op_slice Try.underlying24 (by kernel_rfl) (op_int Try.underlying3)))))
end Go.Proofs.Ytcengijoicmldaa.Ops

/- Relations whose two parts lie in blocks of their own, the tuples apart too: the kind. No condition. -/
namespace Go.Proofs.Ytcengijoicmldaa.Pr
open Go.RowKit Go.Proofs.YtcengijoicmldaaW.PrintWords Go.Proofs.YtcengijoicmldaaW.PrintLast Go.Proofs.YtcengijoicmldaaW.PrintMore
set_option linter.unusedVariables false
set_option linter.unusedSimpArgs false
def apair {α β : Type} (a : Kd α) (b : Kd β) : Kd (α × β) where
 sz := a.sz + b.sz
 E := a.E ++ b.E
 K := fun w x cs => ∃ c0 c1, cs = c0 ++ c1 ∧ a.K w x.1 c0 ∧ b.K w x.2 c1
 M := fun w base ok x cs => ∃ (g : Nat → Bool) (c0 c1 : List Value), cs = c0 ++ c1 ∧ a.M w base (fun k => ok k ∧ g k = false) x.1 c0 ∧ b.M w base (fun k => ok k ∧ g k = true) x.2 c1
 K_len := (Kd.pair a b).K_len
 K_one := (Kd.pair a b).K_one
 K_below := (Kd.pair a b).K_below
 K_of_M := by
  rintro w base ok x cs ⟨g, c0, c1, rfl, h0, h1⟩
  exact ⟨c0, c1, rfl, a.K_of_M h0, b.K_of_M h1⟩
 M_mono := by
  rintro w base ok ok' x cs hok ⟨g, c0, c1, rfl, h0, h1⟩
  exact ⟨g, c0, c1, rfl, a.M_mono (fun k hk => ⟨hok k hk.1, hk.2⟩) h0, b.M_mono (fun k hk => ⟨hok k hk.1, hk.2⟩) h1⟩
 M_bound := by
  rintro w base ok x cs ⟨g, c0, c1, rfl, h0, h1⟩
  refine ⟨g, c0, c1, rfl, a.M_mono ?_ (a.M_bound h0), b.M_mono ?_ (b.M_bound h1)⟩
  ·rintro k ⟨⟨h2, hg⟩, h3, h4, q, hq, hc⟩
   exact ⟨⟨h2, h3, h4, q, List.mem_append_left _ hq, hc⟩, hg⟩
  ·rintro k ⟨⟨h2, hg⟩, h3, h4, q, hq, hc⟩
   exact ⟨⟨h2, h3, h4, q, List.mem_append_right _ hq, hc⟩, hg⟩
 M_move := by
  rintro w w1 base ok x cs hm ⟨g, c0, c1, rfl, h0, h1⟩
  exact ⟨g, c0, c1, rfl, a.M_move (fun k hk => hm k hk.1) h0, b.M_move (fun k hk => hm k hk.1) h1⟩
 M_lower := by
  rintro w base base' ok x cs hb ⟨g, c0, c1, rfl, h0, h1⟩
  exact ⟨g, c0, c1, rfl, a.M_lower hb h0, b.M_lower hb h1⟩
def srow {α : Type} (e : Nat) (d : Kd α) : Kd (List α) where
 sz := 1
 E := e :: d.E
 K := (Kd.slice e d).K
 M := fun w base ok xs cs => ∃ v, cs = [v] ∧ Kd.S d e w base ok v xs
 K_len := (Kd.slice e d).K_len
 K_one := (Kd.slice e d).K_one
 K_below := (Kd.slice e d).K_below
 K_of_M := by
  rintro w base ok x cs ⟨v, rfl, h⟩
  exact (Kd.slice e d).K_of_M ⟨v, rfl, Kd.S_R h⟩
 M_mono := by
  rintro w base ok ok' x cs hok ⟨v, rfl, h⟩
  exact ⟨v, rfl, Kd.S_mono h hok⟩
 M_bound := by
  rintro w base ok x cs ⟨v, rfl, h⟩
  exact ⟨v, rfl, Kd.S_bound h⟩
 M_move := by
  rintro w w1 base ok x cs hm ⟨v, rfl, h⟩
  exact ⟨v, rfl, Kd.S_move h hm⟩
 M_lower := by
  rintro w base base' ok x cs hb ⟨v, rfl, h⟩
  exact ⟨v, rfl, Kd.S_lower h hb⟩
def kA : Kd S27 := Kd.iso (apair (Kd.slice 3 (Kd.int .i64)) (srow 24 (Kd.slice 3 (Kd.int .i64)))) (fun x : S27 => (x.f0, x.f1))
theorem kA_mkM (w : World) (base : Nat) (ok : Nat → Prop) (x : S27) {v0 : Value} (g0 : (Kd.int .i64).R 3 w base ok v0 x.f0) {v1 : Value} (g1 : Kd.S (Kd.slice 3 (Kd.int .i64)) 24 w base (fun k => ok k ∧ some k ≠ v0.ownBlock) v1 x.f1) : kA.M w base ok x [v0, v1] :=
 ⟨fun k => decide (some k ≠ v0.ownBlock), [v0], [v1], rfl, ⟨v0, rfl, Kd.R_mono (Kd.R_tight2 rfl g0) (fun k hk => ⟨hk.2, by simp [hk.1]⟩)⟩, ⟨v1, rfl, Kd.S_mono g1 (fun k hk => ⟨hk.1, decide_eq_true hk.2⟩)⟩⟩
theorem kA_openM {w : World} {base : Nat} {ok : Nat → Prop} {x : S27} {cs : List Value} (h : kA.M w base ok x cs) : ∃ v0 v1, cs = [v0, v1] ∧ (Kd.int .i64).R 3 w base ok v0 x.f0 ∧ Kd.S (Kd.slice 3 (Kd.int .i64)) 24 w base ok v1 x.f1 := by
 obtain ⟨g, c0, c1, rfl, ⟨v0, rfl, h0⟩, ⟨v1, rfl, h1⟩⟩ := h
 exact ⟨v0, v1, rfl, Kd.R_mono h0 (fun k hk => hk.1), Kd.S_mono h1 (fun k hk => hk.1)⟩
theorem kA_K : kA.K = k27.K := rfl
theorem kA_sz : kA.sz = k27.sz := rfl
theorem kA_C {w : World} {A : Option Addr} {n : Nat} {xs : List S27} (h : kA.C w A n xs) : k27.C w A n xs := by
 unfold Kd.C at h ⊢
 rw [← kA_K, ← kA_sz]
 exact h
end Go.Proofs.Ytcengijoicmldaa.Pr
