/- Several small texts together: ESortRows, Mx4. No condition but those they name. -/
import Derived.Test.YtcengijoicmldaaGreatPr1
import Derived.Test.YtcengijoicmldaaGreatSp
import Derived.Test.YtcengijoicmldaaGreatShelf
import Derived.Test.YtcengijoicmldaaGreatPr0
import Derived.Test.YtcengijoicmldaaGreatPr2
import Derived.Test.YtcengijoicmldaaGreatMx10
import Derived.Test.YtcengijoicmldaaGreatMx7
import Derived.Shelf.Abstract
/- slices.SortFunc over rows of numbers by slices.Compare: contract over a row of the call's own. Conditions: what Compare comes to, and that it orders. -/
namespace Go.Proofs.YtcengijoicmldaaGreat.Sp
open Go.RowKit Go.Sort Go.Proofs Go.Proofs.YtcengijoicmldaaGreat.Pr Go.Proofs.YtcengijoicmldaaGreatW.PrintWords Go.Proofs.YtcengijoicmldaaGreatW.PrintLast Go.Proofs.YtcengijoicmldaaGreatW.PrintMore
set_option linter.unusedVariables false
set_option linter.unusedSimpArgs false
theorem SortRows (base : Nat) (ok : Nat → Prop) (w : World) (v : Value) (l : List (List Int)) (ho : Kd.S (Kd.slice 3 (Kd.int .i64)) 23 w base ok v l) (hsz : l.length < 4611686018427387904) (cmpL : List Int → List Int → Int)
    (hcmp : ∀ x y : List Int, x.length ≤ 9223372036854775807 → y.length ≤ 9223372036854775807 → ∃ k, slices_Compare_int_int.f k x y = some (cmpL x y)) (hO : ∀ n : Nat, ∀ r : Fin n → List Int, SWO (ltOf fun (i j : Fin n) => cmpL (r i) (r j))) :
    Calls Tryz.prog 50 #[v, .func (.func 51) #[] #[]] w fun e w' => e = .returned (.tuple #[]) ∧ ∃ l' : List (List Int), l'.Perm l ∧ l'.Pairwise (fun x y => ¬ cmpL y x < 0) ∧ Kd.S (Kd.slice 3 (Kd.int .i64)) 23 w' base ok v l' ∧ w.grownBy w' v.ownBlock := by
  obtain ⟨A, c, rfl⟩ := Kd.S_slice ho
  rcases Nat.eq_zero_or_pos l.length with h0 | h0
  · obtain rfl := List.eq_nil_of_length_eq_zero h0
    refine (Tryz.slices_SortFunc_none (α := Int) A c _ w).mono ?_
    rintro e w' ⟨rfl, rfl⟩
    exact ⟨rfl, ([] : List (List Int)), List.Perm.refl _, List.Pairwise.nil, ho, ⟨rfl, rfl, rfl, Nat.le_refl _, fun _ _ _ => rfl⟩⟩
  · obtain ⟨g, cap, hv, hg, hgl, _⟩ := Kd.S_form ho h0
    injection hv with hv1 hv2 hv3
    subst hv1; subst hv3
    obtain ⟨inner, hil, hown, hel, hback⟩ := S_perm (z := ([] : List Int)) rfl ho
    have hin : Inhabited (Fin l.length) := ⟨⟨0, h0⟩⟩
    rcases hown.2 with ⟨hv, _⟩ | ⟨g', cap', cur, hv, hb, hh, h1, h2, h3, h4⟩
    · cases hv
    injection hv with ha hn2 hc
    injection ha with ha
    injection ha with hg2
    subst hg2; subst hc
    let enc : Fin l.length → Value := fun i => inner.getD i.1 undef
    have hmap : (List.ofFn (id : Fin l.length → Fin l.length)).map enc = inner := by
      apply List.ext_getElem
      · simp [hil]
      · intro j hj1 hj2
        simp [enc, List.getD_eq_getElem?_getD, List.getElem?_eq_getElem hj2]
    have hH : Holds enc w g 0 (List.ofFn (id : Fin l.length → Fin l.length)).toArray := holds_of enc hh (by rw [List.length_ofFn, hmap]; rw [Nat.mul_one] at h4; exact h4)
    have hsl : ∀ (i : Fin l.length) (W2 : World), w.grownBy W2 (some g) → ∃ Ai ci, enc i = .slice Ai (l.getD i.1 []).length ci ∧ (l.getD i.1 []).length ≤ ci ∧ (Kd.int .i64).C W2 Ai (l.getD i.1 []).length (l.getD i.1 []) := fun i W2 hW => by
      obtain ⟨vi, e1, hR⟩ := hel i.1 i.2 W2 hW
      injection e1 with e1
      obtain ⟨Ai, ci, e2, h5, h6⟩ := Kd.R_reads hR
      exact ⟨Ai, ci, e1.trans e2, h5, h6⟩
    have h1c : OneCell enc := fun i => by
      obtain ⟨Ai, ci, e1, _⟩ := hsl i w (grown_of_below (Below.refl _ _) _)
      rw [e1]
      rfl
    have hlay : CmpLays1 Tryz.prog 51 #[] enc (fun i j => cmpL (l.getD i.1 []) (l.getD j.1 [])) g 0 (List.ofFn (id : Fin l.length → Fin l.length)).toArray.size w := fun m os dk hs x y => by
      have hW : w.grownBy (sortWorld enc w g 0 m dk os) (some g) := put_grown enc dk
      obtain ⟨A1, c1, e1, k1, r1⟩ := hsl x _ hW
      obtain ⟨A2, c2, e2, k2, r2⟩ := hsl y _ hW
      obtain ⟨k, hk⟩ := hcmp _ _ r1.2.1 r2.2.1
      rw [e1, e2]
      refine (slices_Compare_int_int.calls k A1 c1 _ A2 c2 _ _ _ r1 k1 r2 k2 hk).mono ?_
      rintro e w' ⟨rfl, q, hq⟩
      exact ⟨rfl, q, #[], by rw [hq, grow_empty]⟩
    have hsize : (List.ofFn (id : Fin l.length → Fin l.length)).toArray.size = l.length := by simp
    have hc := Tryz.slices_SortFunc enc h1c (fun i j => cmpL (l.getD i.1 []) (l.getD j.1 [])) (hO l.length fun i => l.getD i.1 []) 51 #[] g 0 c (List.ofFn (id : Fin l.length → Fin l.length)).toArray w (fun args w => enters_ Tryz.func51 (by kernel_rfl) rfl args w) hlay hH hgl (by omega)
    rw [hsize] at hc
    refine hc.mono ?_
    rintro e w' ⟨rfl, d', q, os, hp, hs, rfl⟩
    have hd : d'.size = l.length := by have := hp.1; omega
    have hperm : d'.toList.Perm (List.ofFn (id : Fin l.length → Fin l.length)) := by
      have := hp.2.2
      simpa [hd, Array.extract_eq_self_of_le] using this
    have hσ : (d'.toList.map Fin.val).Perm (List.range l.length) := by
      refine (hperm.map Fin.val).trans (List.Perm.of_eq ?_)
      apply List.ext_getElem <;> simp
    have hW : w.grownBy (sortWorld enc w g 0 q d' os) (some g) := put_grown enc d'
    have hown2 : (sortWorld enc w g 0 q d' os).ownsRow base 23 1 (.slice (some ⟨g, 0, none⟩) l.length c) l.length ((d'.toList.map Fin.val).map fun i => inner.getD i undef) := by
      have := put_owns enc (w := w) (base := base) (g := g) (cap := c) (n := q) (e := 23) (os := os) (cur := cur) (ts := d'.toList) hb hh (by simp [hd]; omega) h2 h3
      simp only [Array.length_toList, hd, List.map_map] at this ⊢
      exact this
    have hS := hback _ (hσ.nodup_iff.2 List.nodup_range) (fun i hi => List.mem_range.1 (hσ.mem_iff.1 hi)) _ _ hW (by rw [hσ.length_eq, List.length_range]; exact hown2)
    refine ⟨rfl, _, ?_, ?_, hS, hW⟩
    · have := hσ.map (fun i => l.getD i [])
      refine this.trans (List.Perm.of_eq ?_)
      apply List.ext_getElem
      · simp
      · intro j hj1 hj2
        simp [List.getD_eq_getElem?_getD, List.getElem?_eq_getElem hj2]
    · rw [List.pairwise_map, List.pairwise_map, List.pairwise_iff_getElem]
      intro i j hi hj hij
      have := hs i j (Nat.zero_le _) hij (by simpa [hd] using hj)
      simp only [Array.length_toList] at hi hj
      rw [getElem!_pos d' i hi, getElem!_pos d' j hj] at this
      simpa [ltOf] using this
end Go.Proofs.YtcengijoicmldaaGreat.Sp

/- Several small texts together: Cc, Fd. No condition but those they name. -/
/- What slices.Concat comes to at two lists of numbers. Condition: a length that Go can make room for. -/
namespace Go.Proofs.YtcengijoicmldaaGreat.Ax
open Go.RowKit Go.Proofs.YtcengijoicmldaaGreat.Pr Go.Proofs.YtcengijoicmldaaGreat.Pl Go.Proofs.YtcengijoicmldaaGreatW.PrintWords Go.Proofs.YtcengijoicmldaaGreatW.PrintLast Go.Proofs.YtcengijoicmldaaGreatW.PrintMore
set_option linter.unusedVariables false
set_option linter.unusedSimpArgs false
theorem concat_ev (a b : List Int) (h : a.length + b.length ≤ 17592186043904) : Ev (fun k => slices_Concat_int_int.f k [a, b]) (a ++ b) := by
  have r0 : rd_L1 [a, b] 0 = a := rfl
  have r1 : rd_L1 [a, b] 1 = b := rfl
  have w1 : wrap64 (0 + (a.length : Int)) = (a.length : Int) := by rw [wrap_in (by omega) (by omega)]; omega
  have w2 : wrap64 ((a.length : Int) + (b.length : Int)) = ((a.length + b.length : Nat) : Int) := by rw [wrap_in (by omega) (by omega)]; omega
  have w3 : wrap64 (0 + 1) = 1 := by rw [wrap_in (by omega) (by omega)]; rfl
  have w4 : wrap64 (1 + 1) = 2 := by rw [wrap_in (by omega) (by omega)]; rfl
  have hl : (([a, b] : List (List Int)).length : Int) = 2 := rfl
  simp only [slices_Concat_int_int.f, hl]
  refine ev_succ ?_
  simp only [slices_Concat_int_int.l0, hl, r0, w1, w3, if_pos (show (0 : Int) < 2 by omega), if_pos (show (0 : Int) ≤ 0 by omega), if_neg (show ¬ ((a.length : Int) < 0) by omega)]
  refine ev_succ ?_
  simp only [slices_Concat_int_int.l0, hl, r1, w2, w4, if_pos (show (1 : Int) < 2 by omega), if_pos (show (0 : Int) ≤ 1 by omega), if_neg (show ¬ (((a.length + b.length : Nat) : Int) < 0) by omega)]
  refine ev_succ ?_
  simp only [slices_Concat_int_int.l0, hl, if_neg (show ¬ ((2 : Int) < 2) by omega)]
  refine Ev.bind (ev_eq (r := []) ?_) ?_
  · unfold slices_Grow_int_int.f
    rw [if_pos ⟨rfl, by omega, by omega⟩]
  refine ev_succ ?_
  simp only [slices_Concat_int_int.l1, hl, r0, w3, if_pos (show (0 : Int) < 2 by omega), if_pos (show (0 : Int) ≤ 0 by omega), List.length_nil, if_pos (show 0 + a.length < 17592186044416 by omega), List.nil_append]
  refine ev_succ ?_
  simp only [slices_Concat_int_int.l1, hl, r1, w4, if_pos (show (1 : Int) < 2 by omega), if_pos (show (0 : Int) ≤ 1 by omega), if_pos (show a.length + b.length < 17592186044416 by omega)]
  refine ev_succ ?_
  simp only [slices_Concat_int_int.l1, hl, if_neg (show ¬ ((2 : Int) < 2) by omega)]
  exact ev_now rfl
end Go.Proofs.YtcengijoicmldaaGreat.Ax

/- Looking for the first element of which something holds, and leaving out all of them: plain words. No condition. -/
namespace Go.Proofs.YtcengijoicmldaaGreat.Pr
open Go.RowKit Go.Proofs.YtcengijoicmldaaGreatW.PrintWords Go.Proofs.YtcengijoicmldaaGreatW.PrintLast Go.Proofs.YtcengijoicmldaaGreatW.PrintMore
set_option linter.unusedVariables false
set_option linter.unusedSimpArgs false
def IsIdx {α : Type} (p : α → Bool) (l : List α) (i : Int) : Prop :=
  (i = -1 ∧ ∀ x ∈ l, p x = false) ∨ ∃ pre x post, l = pre ++ x :: post ∧ i = pre.length ∧ p x = true ∧ ∀ y ∈ pre, p y = false
def IdxPost {α : Type} (p : α → Bool) (l : List α) (w : World) (e : Ending) (w' : World) : Prop := ∃ i : Int, e = .returned (.int .i64 i) ∧ IsIdx p l i ∧ Below w.heap.size w w'
theorem IsIdx_hit {α : Type} {p : α → Bool} {l : List α} {kk : Nat} {x : α} (h : kk < l.length) (hx : l[kk]? = some x) (hq : p x = true) (hf : ∀ y ∈ l.take kk, p y = false) : IsIdx p l (kk : Int) := by
  rw [List.getElem?_eq_getElem h] at hx
  have hx := Option.some.inj hx
  refine .inr ⟨l.take kk, x, l.drop (kk + 1), ?_, ?_, hq, hf⟩
  · rw [← hx, List.getElem_cons_drop, List.take_append_drop]
  · rw [List.length_take, Nat.min_eq_left (Nat.le_of_lt h)]
theorem IsIdx_step {α : Type} {p : α → Bool} {l : List α} {kk : Nat} {x : α} (h : kk < l.length) (hx : l[kk]? = some x) (hq : p x = false) (hf : ∀ y ∈ l.take kk, p y = false) : ∀ y ∈ l.take (kk + 1), p y = false := by
  intro y hy
  rw [List.take_add_one, hx] at hy
  rcases List.mem_append.1 hy with hy | hy
  · exact hf y hy
  · have : y = x := by simpa using hy
    rw [this]
    exact hq
theorem IsIdx_miss {α : Type} {p : α → Bool} {l : List α} {kk : Nat} (h : l.length ≤ kk) (hf : ∀ y ∈ l.take kk, p y = false) : IsIdx p l (-1) := .inl ⟨rfl, by rwa [List.take_of_length_le h] at hf⟩
theorem IsIdx_any {α : Type} {p : α → Bool} {l : List α} {i : Int} (h : IsIdx p l i) : decide (i ≥ 0) = l.any p := by
  rcases h with ⟨rfl, h⟩ | ⟨pre, x, post, rfl, rfl, hx, _⟩
  · have : l.any p = false := List.any_eq_false.2 (fun x hx => by simp [h x hx])
    rw [this]
    rfl
  · have : (pre ++ x :: post).any p = true := List.any_eq_true.2 ⟨x, by simp, hx⟩
    rw [this]
    exact decide_eq_true (by omega)
theorem boxed_cell (w : World) (u : Value) (t : TypeId) : (w.alloc (.cells #[u] t)).cell? ⟨w.heap.size, 0, none⟩ = some u := by
  have h := blk_new w (.cells #[u] t)
  simp only [World.cell?]
  rw [h]
  rfl
theorem boxed_size (w : World) (o : Obj) : (w.alloc o).heap.size = w.heap.size + 1 := by simp
end Go.Proofs.YtcengijoicmldaaGreat.Pr
