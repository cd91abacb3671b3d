/- slices.CompactFunc over rows of numbers by slices.Equal: contract over a row of the call's own. Conditions: what Equal comes to. -/
import Derived.Test.YtcengijoicmldaaPr1
import Derived.Test.YtcengijoicmldaaSp
import Derived.Test.YtcengijoicmldaaECompRows
namespace Go.Proofs.Ytcengijoicmldaa.Sp
open Go.RowKit Go.Proofs.Ytcengijoicmldaa.Ax Go.Proofs.Ytcengijoicmldaa.Pr Go.Proofs.YtcengijoicmldaaW.PrintWords Go.Proofs.YtcengijoicmldaaW.PrintLast Go.Proofs.YtcengijoicmldaaW.PrintMore
set_option linter.unusedVariables false
set_option linter.unusedSimpArgs false
theorem cptN_map {α β : Type} (eq : β → β → Bool) (f : α → β) (z : α) (l : List α) (j : Nat) : cptN eq (f z) (l.map f) j = (cptN (fun a b => eq (f a) (f b)) z l j).map f := by
 have hg : ∀ i, (l.map f).getD i (f z) = f (l.getD i z) := fun i => by
  simp only [List.getD_eq_getElem?_getD, List.getElem?_map]
  cases l[i]? <;> rfl
 induction j with
 | zero => rfl
 | succ j ih =>
  rcases Nat.eq_zero_or_pos j with h0 | h0
  ·subst h0
   show (l.map f).take 1 = (l.take 1).map f
   rw [List.map_take]
  ·rw [cptN_step h0, cptN_step h0, ih, hg, hg, List.map_append]
   split <;> simp
theorem cptN_sub {α : Type} (eq : α → α → Bool) (z : α) (l : List α) (j : Nat) (hj : j ≤ l.length) : (cptN eq z l j).Sublist (l.take j) := by
 induction j with
 | zero => exact List.Sublist.refl _
 | succ j ih =>
  rcases Nat.eq_zero_or_pos j with h0 | h0
  ·subst h0
   exact List.Sublist.refl _
  ·rw [cptN_step h0, getD_take (z := z) (show j < l.length by omega)]
   refine List.Sublist.append (ih (by omega)) ?_
   split
   ·exact List.nil_sublist _
   ·exact List.Sublist.refl _
def eqL (a b : List Int) : Bool := decide (a = b)
def CompactPost (e0 base : Nat) (ok : Nat → Prop) (r : List (List Int)) (v : Value) (w : World) (e : Ending) (w' : World) : Prop :=
 ∃ v', e = .returned v' ∧ Kd.S (Kd.slice 3 (Kd.int .i64)) e0 w' base ok v' r ∧ w.grownBy w' v.ownBlock
set_option maxHeartbeats 1000000 in
set_option maxRecDepth 100000 in
theorem CompNone (base : Nat) (ok : Nat → Prop) (w : World) (v : Value) (ho : Kd.S (Kd.slice 3 (Kd.int .i64)) 24 w base ok v []) :
  Calls Try.prog 65 #[v, .func (.func 66) #[] #[]] w (CompactPost 24 base ok [] v w) := by
 obtain ⟨A, c, rfl⟩ := Kd.S_slice ho
 have HO := Aside0.mk ho
 clear ho
 rw [show ([] : List (List Int)).length = 0 from rfl] at *
 go_enter Try.func65, Try.ntmps65
 go_wp2
 go_ret
 exact ⟨_, rfl, HO.out, grown_of_below (Below.refl _ _) _⟩
theorem Compact (base : Nat) (ok : Nat → Prop) (w : World) (v : Value) (l : List (List Int)) (ho : Kd.S (Kd.slice 3 (Kd.int .i64)) 24 w base ok v l)
  (heq : ∀ x y : List Int, x.length ≤ 9223372036854775807 → y.length ≤ 9223372036854775807 → ∃ k, slices_Equal_int_int.f k x y = some (eqL x y)) :
  Calls Try.prog 65 #[v, .func (.func 66) #[] #[]] w (CompactPost 24 base ok (cptN eqL (l.getD 0 []) l l.length) v w) := by
 rcases Nat.eq_zero_or_pos l.length with h0 | h0
 ·obtain rfl := List.eq_nil_of_length_eq_zero h0
  exact CompNone base ok w v ho
 ·obtain ⟨A0, c, rfl⟩ := Kd.S_slice ho
  obtain ⟨g, cap, hv, hg, hgl, _⟩ := Kd.S_form ho h0
  injection hv with hv1 hv2 hv3
  subst hv1; subst hv3
  obtain ⟨inner, hil, hown, hel, hback⟩ := S_perm (z := ([] : List Int)) rfl ho
  have hsl : ∀ (i : Fin l.length), ∃ p : Option Addr × Nat, inner.getD i.1 undef = .slice p.1 (l.getD i.1 []).length p.2 := fun i => by
   obtain ⟨vi, e1, hR⟩ := hel i.1 i.2 w (grown_of_below (Below.refl _ _) _)
   injection e1 with e1
   obtain ⟨Ai, ci, e2, _, _⟩ := Kd.R_reads hR
   exact ⟨(Ai, ci), e1.trans e2⟩
  let P : Fin l.length → Option Addr × Nat := fun i => Classical.choose (hsl i)
  have hP : ∀ i : Fin l.length, inner.getD i.1 undef = .slice (P i).1 (l.getD i.1 []).length (P i).2 := fun i => Classical.choose_spec (hsl i)
  have hrd : ∀ (i : Fin l.length) (W2 : World), w.grownBy W2 (some g) → (l.getD i.1 []).length ≤ (P i).2 ∧ (Kd.int .i64).C W2 (P i).1 (l.getD i.1 []).length (l.getD i.1 []) := fun i W2 hW => by
   obtain ⟨vi, e1, hR⟩ := hel i.1 i.2 W2 hW
   injection e1 with e1
   obtain ⟨Ai, ci, e2, h5, h6⟩ := Kd.R_reads hR
   have e3 := e1.trans e2
   rw [hP i] at e3
   injection e3 with e4 _ e5
   rw [e4, e5]
   exact ⟨h5, h6⟩
  let z : Fin l.length := ⟨0, h0⟩
  let ids : List (Fin l.length) := List.ofFn (id : Fin l.length → Fin l.length)
  have hids : ids.length = l.length := List.length_ofFn
  have henc : encs (fun i : Fin l.length => Value.slice (P i).1 (l.getD i.1 []).length (P i).2) ids = inner := by
   apply List.ext_getElem
   ·simp [encs, ids, hil]
   ·intro j hj1 hj2
    have hj3 : j < l.length := by omega
    have := hP ⟨j, hj3⟩
    simp only [encs, ids, List.getElem_map, List.getElem_ofFn, id]
    rw [← this, List.getD_eq_getElem?_getD, List.getElem?_eq_getElem hj2]
    rfl
  have hfl : ids.map (fun i => l.getD i.1 []) = l := by
   apply List.ext_getElem
   ·simp [ids]
   ·intro j hj1 hj2
    simp [ids, List.getD_eq_getElem?_getD, List.getElem?_eq_getElem hj2]
  have hR0 : (slK (fun i => (P i).1) (fun i : Fin l.length => (l.getD i.1 []).length) (fun i => (P i).2)).R 24 w base (fun _ => True) (.slice (some ⟨g, 0, none⟩) ids.length c) ids :=
   Kd.R_of_own (by rw [henc, hids]; exact hown) (fun _ _ => trivial)
  have hc := CompRows z _ _ _ (fun x y => eqL (l.getD x.1 []) (l.getD y.1 [])) base w g c ids hR0 (fun W x y hW => by
   obtain ⟨k1, r1⟩ := hrd x W hW
   obtain ⟨k2, r2⟩ := hrd y W hW
   obtain ⟨k, hk⟩ := heq _ _ r1.2.1 r2.2.1
   exact slices_Equal_int_int.calls k _ _ _ _ _ _ _ W r1 k1 r2 k2 hk)
  rw [hids] at hc
  refine hc.mono ?_
  rintro e w' ⟨rfl, hR, hW⟩
  have hmap := cptN_map eqL (fun i : Fin l.length => l.getD i.1 []) z ids ids.length
  rw [hfl, hids] at hmap
  have hsub := cptN_sub (fun x y : Fin l.length => eqL (l.getD x.1 []) (l.getD y.1 [])) z ids ids.length (Nat.le_refl _)
  rw [List.take_length, hids] at hsub
  generalize cptN (fun x y : Fin l.length => eqL (l.getD x.1 []) (l.getD y.1 [])) z ids l.length = r at hR hmap hsub
  have hnd : (r.map Fin.val).Nodup := by
   have h1 : (ids.map Fin.val) = List.range l.length := by
    apply List.ext_getElem <;> simp [ids]
   have h2 := hsub.map Fin.val
   rw [h1] at h2
   exact h2.nodup List.nodup_range
  have hown2 := Kd.own_of_R hR
  have he2 : encs (fun i : Fin l.length => Value.slice (P i).1 (l.getD i.1 []).length (P i).2) r = (r.map Fin.val).map fun i => inner.getD i undef := by
   rw [List.map_map]
   exact List.map_congr_left (fun i _ => (hP i).symm)
  have hS := hback (r.map Fin.val) hnd (fun i hi => by
   obtain ⟨j, _, rfl⟩ := List.mem_map.1 hi
   exact j.2) w' r.length hW (by rw [List.length_map, ← he2]; exact hown2)
  rw [List.map_map] at hS
  refine ⟨_, rfl, ?_, hW⟩
  have e3 : l.getD 0 [] = (fun i : Fin l.length => l.getD i.1 []) z := rfl
  rw [e3, hmap]
  exact hS
end Go.Proofs.Ytcengijoicmldaa.Sp
