/- slices.SortFunc over rows of numbers by slices.Compare: contract over a row of the call's own. Conditions: what Compare comes to, and that it orders. -/
import Derived.Test.YtcengijoicmldaaPr1
import Derived.Test.YtcengijoicmldaaSp
import Derived.Test.YtcengijoicmldaaShelf
namespace Go.Proofs.Ytcengijoicmldaa.Sp
open Go.RowKit Go.Sort Go.Proofs Go.Proofs.Ytcengijoicmldaa.Pr Go.Proofs.YtcengijoicmldaaW.PrintWords Go.Proofs.YtcengijoicmldaaW.PrintLast Go.Proofs.YtcengijoicmldaaW.PrintMore
set_option linter.unusedVariables false
set_option linter.unusedSimpArgs false
theorem SortRows (base : Nat) (ok : Nat → Prop) (w : World) (v : Value) (l : List (List Int)) (ho : Kd.S (Kd.slice 3 (Kd.int .i64)) 24 w base ok v l) (hsz : l.length < 4611686018427387904) (cmpL : List Int → List Int → Int)
  (hcmp : ∀ x y : List Int, x.length ≤ 9223372036854775807 → y.length ≤ 9223372036854775807 → ∃ k, slices_Compare_int_int.f k x y = some (cmpL x y)) (hO : ∀ n : Nat, ∀ r : Fin n → List Int, SWO (ltOf fun (i j : Fin n) => cmpL (r i) (r j))) :
  Calls Try.prog 64 #[v, .func (.func 63) #[] #[]] w fun e w' => e = .returned (.tuple #[]) ∧ ∃ l' : List (List Int), l'.Perm l ∧ l'.Pairwise (fun x y => ¬ cmpL y x < 0) ∧ Kd.S (Kd.slice 3 (Kd.int .i64)) 24 w' base ok v l' ∧ w.grownBy w' v.ownBlock := by
 obtain ⟨A, c, rfl⟩ := Kd.S_slice ho
 rcases Nat.eq_zero_or_pos l.length with h0 | h0
 ·obtain rfl := List.eq_nil_of_length_eq_zero h0
  refine (Try.slices_SortFunc_none (α := Int) A c _ w).mono ?_
  rintro e w' ⟨rfl, rfl⟩
  exact ⟨rfl, ([] : List (List Int)), List.Perm.refl _, List.Pairwise.nil, ho, ⟨rfl, rfl, rfl, Nat.le_refl _, fun _ _ _ => rfl⟩⟩
 ·obtain ⟨g, cap, hv, hg, hgl, _⟩ := Kd.S_form ho h0
  injection hv with hv1 hv2 hv3
  subst hv1; subst hv3
  obtain ⟨inner, hil, hown, hel, hback⟩ := S_perm (z := ([] : List Int)) rfl ho
  have hin : Inhabited (Fin l.length) := ⟨⟨0, h0⟩⟩
  rcases hown.2 with ⟨hv, _⟩ | ⟨g', cap', cur, hv, hb, hh, h1, h2, h3, h4⟩
  ·cases hv
  injection hv with ha hn2 hc
  injection ha with ha
  injection ha with hg2
  subst hg2; subst hc
  let enc : Fin l.length → Value := fun i => inner.getD i.1 undef
  have hmap : (List.ofFn (id : Fin l.length → Fin l.length)).map enc = inner := by
   apply List.ext_getElem
   ·simp [hil]
   ·intro j hj1 hj2
    simp [enc, List.getD_eq_getElem?_getD, List.getElem?_eq_getElem hj2]
  have hH : Holds enc w g 0 (List.ofFn (id : Fin l.length → Fin l.length)).toArray := holds_of enc hh (by rw [List.length_ofFn, hmap]; rw [Nat.mul_one] at h4; exact h4)
  have hsl : ∀ (i : Fin l.length) (W2 : World), w.grownBy W2 (some g) → ∃ Ai ci, enc i = .slice Ai (l.getD i.1 []).length ci ∧ (l.getD i.1 []).length ≤ ci ∧ (Kd.int .i64).C W2 Ai (l.getD i.1 []).length (l.getD i.1 []) := fun i W2 hW => by
   obtain ⟨vi, e1, hR⟩ := hel i.1 i.2 W2 hW
   injection e1 with e1
   obtain ⟨Ai, ci, e2, h5, h6⟩ := Kd.R_reads hR
   exact ⟨Ai, ci, e1.trans e2, h5, h6⟩
  have h1c : OneCell enc := fun i => by
   obtain ⟨Ai, ci, e1, _⟩ := hsl i w (grown_of_below (Below.refl _ _) _)
   rw [e1]
   rfl
  have hlay : CmpLays1 Try.prog 63 #[] enc (fun i j => cmpL (l.getD i.1 []) (l.getD j.1 [])) g 0 (List.ofFn (id : Fin l.length → Fin l.length)).toArray.size w := fun m os dk hs x y => by
   have hW : w.grownBy (sortWorld enc w g 0 m dk os) (some g) := put_grown enc dk
   obtain ⟨A1, c1, e1, k1, r1⟩ := hsl x _ hW
   obtain ⟨A2, c2, e2, k2, r2⟩ := hsl y _ hW
   obtain ⟨k, hk⟩ := hcmp _ _ r1.2.1 r2.2.1
   rw [e1, e2]
   refine (slices_Compare_int_int.calls k A1 c1 _ A2 c2 _ _ _ r1 k1 r2 k2 hk).mono ?_
   rintro e w' ⟨rfl, q, hq⟩
   exact ⟨rfl, q, #[], by rw [hq, grow_empty]⟩
  have hsize : (List.ofFn (id : Fin l.length → Fin l.length)).toArray.size = l.length := by simp
  have hc := Try.slices_SortFunc enc h1c (fun i j => cmpL (l.getD i.1 []) (l.getD j.1 [])) (hO l.length fun i => l.getD i.1 []) 63 #[] g 0 c (List.ofFn (id : Fin l.length → Fin l.length)).toArray w (fun args w => enters_ Try.func63 (by kernel_rfl) rfl args w) hlay hH hgl (by omega)
  rw [hsize] at hc
  refine hc.mono ?_
  rintro e w' ⟨rfl, d', q, os, hp, hs, rfl⟩
  have hd : d'.size = l.length := by have := hp.1; omega
  have hperm : d'.toList.Perm (List.ofFn (id : Fin l.length → Fin l.length)) := by
   have := hp.2.2
   simpa [hd, Array.extract_eq_self_of_le] using this
  have hσ : (d'.toList.map Fin.val).Perm (List.range l.length) := by
   refine (hperm.map Fin.val).trans (List.Perm.of_eq ?_)
   apply List.ext_getElem <;> simp
  have hW : w.grownBy (sortWorld enc w g 0 q d' os) (some g) := put_grown enc d'
  have hown2 : (sortWorld enc w g 0 q d' os).ownsRow base 24 1 (.slice (some ⟨g, 0, none⟩) l.length c) l.length ((d'.toList.map Fin.val).map fun i => inner.getD i undef) := by
   have := put_owns enc (w := w) (base := base) (g := g) (cap := c) (n := q) (e := 24) (os := os) (cur := cur) (ts := d'.toList) hb hh (by simp [hd]; omega) h2 h3
   simp only [Array.length_toList, hd, List.map_map] at this ⊢
   exact this
  have hS := hback _ (hσ.nodup_iff.2 List.nodup_range) (fun i hi => List.mem_range.1 (hσ.mem_iff.1 hi)) _ _ hW (by rw [hσ.length_eq, List.length_range]; exact hown2)
  refine ⟨rfl, _, ?_, ?_, hS, hW⟩
  ·have := hσ.map (fun i => l.getD i [])
   refine this.trans (List.Perm.of_eq ?_)
   apply List.ext_getElem
   ·simp
   ·intro j hj1 hj2
    simp [List.getD_eq_getElem?_getD, List.getElem?_eq_getElem hj2]
  ·rw [List.pairwise_map, List.pairwise_map, List.pairwise_iff_getElem]
   intro i j hi hj hij
   have := hs i j (Nat.zero_le _) hij (by simpa [hd] using hj)
   simp only [Array.length_toList] at hi hj
   rw [getElem!_pos d' i hi, getElem!_pos d' j hj] at this
   simpa [ltOf] using this
end Go.Proofs.Ytcengijoicmldaa.Sp
