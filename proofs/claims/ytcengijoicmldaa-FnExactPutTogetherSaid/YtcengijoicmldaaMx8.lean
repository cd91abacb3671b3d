/- Several small texts together: ESortInt, ETogether. No condition but those they name. -/
import Derived.Test.YtcengijoicmldaaShelf
import Derived.Test.YtcengijoicmldaaWWords
import Derived.Test.YtcengijoicmldaaWKept
import Derived.Test.YtcengijoicmldaaWLast
import Derived.Test.YtcengijoicmldaaWMore
import Derived.Test.YtcengijoicmldaaAc
import Derived.Test.YtcengijoicmldaaMx4
import Derived.Sort.OwnSortedInts
import Derived.Test.YtcengijoicmldaaPr2
import Derived.Test.YtcengijoicmldaaMx2
import Derived.Test.YtcengijoicmldaaFd
/- slices.Sort and slices.Compact at numbers, on a row of the call's own (out of the shelf's contracts). Condition: a length below 2^62. -/
namespace Go.Proofs.Ytcengijoicmldaa.Pr
open Go.RowKit Go.Sort Go.Proofs Go.Proofs.YtcengijoicmldaaW.PrintWords Go.Proofs.YtcengijoicmldaaW.PrintLast Go.Proofs.YtcengijoicmldaaW.PrintMore
set_option linter.unusedVariables false
set_option linter.unusedSimpArgs false
theorem compact_cpt (l : List Int) : ∀ j, j ≤ l.length → Lib.compactUpTo l.toArray j = Ax.cptN (fun a b : Int => a == b) 0 l j
 | 0, _ => rfl
 | 1, h => by
  rw [Lib.compactUpTo_succ, Lib.keeps_lt_one _ 0 (by omega)]
  match l, h with
  | x :: xs, _ => simp [Lib.compactUpTo, Ax.cptN]
 | j + 2, h => by
  rw [Lib.compactUpTo_succ, compact_cpt l (j + 1) (by omega), Ax.cptN]
  have e1 : l.toArray[j + 1]! = l.getD (j + 1) 0 := by simp [List.getD_eq_getElem?_getD, show j + 1 < l.length by omega]
  have e2 : l.toArray[j]! = l.getD j 0 := by simp [List.getD_eq_getElem?_getD, show j < l.length by omega]
  have e3 : l.toArray[j + 1 - 1]! = l.getD j 0 := e2
  congr 1
  by_cases hq : l.getD (j + 1) 0 = l.getD j 0
  ·rw [Lib.keeps_neg (by omega) (by rw [e1, e3]; exact hq)]
   rw [if_neg (by decide), if_pos (beq_iff_eq.2 hq)]
  ·rw [Lib.keeps_pos (by rw [e1, e3]; exact hq), e1]
   simp only [if_true]
   rw [if_neg (by simpa using hq)]
abbrev cptI (l : List Int) : List Int := Ax.cptN (fun a b : Int => a == b) 0 l l.length
theorem compact_eq (l : List Int) : Lib.compact l = cptI l := by
 have := compact_cpt l l.length (Nat.le_refl _)
 simpa [Lib.compact] using this
theorem cptN_le {eq : Int → Int → Bool} (l : List Int) : ∀ j, (Ax.cptN eq 0 l j).length ≤ j
 | 0 => by simp [Ax.cptN]
 | 1 => by simp [Ax.cptN]; omega
 | j + 2 => by
  have := cptN_le (eq := eq) l (j + 1)
  simp only [Ax.cptN, List.length_append]
  split <;> simp <;> omega
theorem CompactInt (P0 : Nat → Prop) (u : Value) (l : List Int) (w0 w : World) (hB : Below w0.heap.size w0 w) (ho : (Kd.int .i64).R 3 w w0.heap.size P0 u l) :
  Calls Try.prog 81 #[u] w fun e w' => ∃ v, e = .returned v ∧ (Kd.int .i64).R 3 w' w0.heap.size P0 v (cptI l) ∧ Below w0.heap.size w0 w' ∧ Kept w w' P0 := by
 obtain ⟨A, c, rfl⟩ := Kd.R_slice ho
 obtain ⟨_, hc, hC⟩ := Kd.R_reads' ho
 have hbig := hC.2.1
 rcases Nat.eq_zero_or_pos l.length with h0 | h0
 ·obtain rfl := List.eq_nil_of_length_eq_zero h0
  refine (Try.slices_Compact_int_empty A c w).mono ?_
  rintro e w' ⟨rfl, rfl⟩
  exact ⟨_, rfl, ho, hB, Kept.refl _ _⟩
 ·obtain ⟨g, cap, hv, hg, hgl, _⟩ := Kd.R_form ho h0
  injection hv with ha _ hc2
  subst ha; subst hc2
  refine (Try.slices_Compact_int g 0 c l w (R_holds ho) (by omega) hc).mono ?_
  rintro e w' ⟨rfl, q, rfl⟩
  have hle : (cptI l).length ≤ l.length := cptN_le l l.length
  have hE := compact_eq l
  obtain ⟨h1, h2⟩ := R_put (ts := Lib.compact l ++ List.replicate (l.length - (Lib.compact l).length) 0) (q := q) ho (by rw [List.length_append, List.length_replicate, hE]; omega) #[]
  rw [grow_empty] at h1 h2
  refine ⟨_, rfl, ?_, pw_below_grown hB (some g) hB.size h2 (fun k hk => by injection hk with hk; rw [← hk]; exact hg), Kept.of_grown (S := P0) h2 (Kept.refl _ _) (fun k hk => .inl (by injection hk with hk; rw [← hk]; exact ho.1 g rfl))⟩
  have h3 := Kd.R_take (m := (Lib.compact l).length) h1 (by rw [List.length_append]; omega)
  rw [List.take_left] at h3
  rw [← hE]
  exact h3
theorem cptI_sort (l : List Int) : (cptI (sortI l)).Pairwise (· < ·) ∧ ∀ x, x ∈ cptI (sortI l) ↔ x ∈ l := by
 have hs : (sortI l).Pairwise (· ≤ ·) := Ax.sorted_le l
 have hget : ∀ (L : List Int) (m : Nat) (h : m < L.length), L.getD m 0 = L[m] := fun L m h => by rw [List.getD_eq_getElem?_getD, List.getElem?_eq_getElem h]; rfl
 rcases Nat.eq_zero_or_pos (sortI l).length with h0 | h0
 ·have := List.eq_nil_of_length_eq_zero h0
  have h1 : l = [] := by
   have : l.length = 0 := by simpa [sortI] using h0
   exact List.eq_nil_of_length_eq_zero this
  subst h1
  simp [sortI, cptI, Ax.cptN]
 ·obtain ⟨h1, h2, _⟩ := Ax.cptN_sorts (lt := (· < ·)) (eq := fun a b : Int => a == b) (z := 0) (l := sortI l) (fun a b c => Int.lt_trans) (fun a b h => by simpa using h) (fun m h1 h2 he => by
   have hp := List.pairwise_iff_getElem.1 hs (m - 1) m (by omega) h2 (by omega)
   have e1 := hget (sortI l) m h2
   have e2 := hget (sortI l) (m - 1) (by omega)
   rw [e1, e2] at he ⊢
   have : (sortI l)[m] ≠ (sortI l)[m - 1] := by simpa using he
   omega) (sortI l).length h0 (Nat.le_refl _)
  refine ⟨h1, fun x => ?_⟩
  rw [h2, List.take_length]
  exact List.mem_mergeSort
end Go.Proofs.Ytcengijoicmldaa.Pr

/- impl.together: all numbers of two lists, rising. Condition: a length that Go can make room for. -/
namespace Go.Proofs.Ytcengijoicmldaa.Pr
open Go.RowKit Go.Proofs.YtcengijoicmldaaW.PrintWords Go.Proofs.YtcengijoicmldaaW.PrintLast Go.Proofs.YtcengijoicmldaaW.PrintMore
set_option linter.unusedVariables false
set_option linter.unnecessarySimpa false
set_option linter.unusedSimpArgs false
theorem boxed_cell2 (w : World) (a b : Value) (t : TypeId) : (w.alloc (.cells #[a, b] t)).cell? ⟨w.heap.size, 0, none⟩ = some a ∧ (w.alloc (.cells #[a, b] t)).cell? ⟨w.heap.size, 1, none⟩ = some b := by
 have h := blk_new w (.cells #[a, b] t)
 simp only [World.cell?]
 rw [h]
 exact ⟨rfl, rfl⟩
theorem two_rows (w : World) (t : TypeId) (A0 A1 : Option Addr) (c0 c1 : Nat) (l0 l1 : List Int) (h0 : Kd.C (Kd.int .i64) w A0 l0.length l0) (k0 : l0.length ≤ c0) (h1 : Kd.C (Kd.int .i64) w A1 l1.length l1) (k1 : l1.length ≤ c1) :
  Kd.C (Kd.slice 3 (Kd.int .i64)) (w.alloc (.cells #[.slice A0 l0.length c0, .slice A1 l1.length c1] t)) (some ⟨w.heap.size, 0, none⟩) [l0, l1].length [l0, l1] := by
 obtain ⟨x0, x1⟩ := boxed_cell2 w (.slice A0 l0.length c0) (.slice A1 l1.length c1) t
 refine ⟨rfl, by simp, fun _ => ⟨_, rfl, fun j p hj => ?_⟩⟩
 match j, hj with
 | 0, hj =>
  obtain rfl : l0 = p := by simpa using hj
  exact ⟨[_], rfl, ⟨A0, c0, rfl, k0, Kd.C_alloc h0 _⟩, fun i u hu => by
   match i, hu with
   | 0, hu =>
    obtain rfl : Value.slice A0 l0.length c0 = u := by simpa using hu
    exact x0⟩
 | 1, hj =>
  obtain rfl : l1 = p := by simpa using hj
  exact ⟨[_], rfl, ⟨A1, c1, rfl, k1, Kd.C_alloc h1 _⟩, fun i u hu => by
   match i, hu with
   | 0, hu =>
    obtain rfl : Value.slice A1 l1.length c1 = u := by simpa using hu
    exact x1⟩
def impl_together.f (l0 : List Int) (l1 : List Int) : Option (List Int) := if (l0.length + l1.length) * 8 ≤ 140737488351232 then some (Ax.tog l0 l1) else none
set_option maxHeartbeats 2000000 in
set_option maxRecDepth 100000 in
theorem impl_together.calls (A0 : Option Addr) (c0 : Nat) (l0 : List Int) (A1 : Option Addr) (c1 : Nat) (l1 : List Int) (r : List Int) (w : World) (hr0 : Kd.C (Kd.int .i64) w A0 l0.length l0) (hc0 : l0.length ≤ c0) (hr1 : Kd.C (Kd.int .i64) w A1 l1.length l1) (hc1 : l1.length ≤ c1) (h : impl_together.f l0 l1 = some r) :
  Calls Try.prog 68 #[.slice A0 l0.length c0, .slice A1 l1.length c1] w fun e w' => ∃ v0_ : Value, e = .returned (v0_) ∧ Kd.R (Kd.int .i64) 3 w' w.heap.size (fun _ => True) v0_ r ∧ Below w.heap.size w w' := by
 unfold impl_together.f at h
 by_cases hb : (l0.length + l1.length) * 8 ≤ 140737488351232
 ·rw [if_pos hb] at h
  obtain rfl := Option.some.inj h
  clear h
  obtain ⟨k, hk⟩ := Ev.rounds (Ax.concat_ev l0 l1 (by omega))
  have htog : Ax.tog l0 l1 = cptI (sortI (l0 ++ l1)) := Ax.rising_uniq (Ax.tog_rising _ _) (cptI_sort _).1 (fun x => by rw [Ax.mem_tog, (cptI_sort _).2, List.mem_append])
  have HC := Aside0.mk (fun (W : World) (A : Option Addr) (hW : Kd.C (Kd.slice 3 (Kd.int .i64)) W A [l0, l1].length [l0, l1]) => slices_Concat_int_int.calls k A 2 [l0, l1] (l0 ++ l1) W hW (by simp) hk)
  have HT := Aside0.mk htog
  have H2 := Aside0.mk (two_rows w 24 A0 A1 c0 c1 l0 l1 hr0 hc0 hr1 hc1)
  have HL := Aside0.mk (show (l0 ++ l1).length < 4611686018427387904 by rw [List.length_append]; omega)
  have hB0 := below_alloc (Below.refl w.heap.size w) (.cells #[.slice A0 l0.length c0, .slice A1 l1.length c1] 24)
  have HB0 := Aside0.mk hB0
  clear hr0 hc0 hr1 hc1 hb hk htog hB0
  go_enter Try.func68, Try.ntmps68
  go_wp2_with (first | (go_at_call 80; go_loud (refine (HC.out _ _ H2.out).mono ?_); rintro e w1 ⟨v, rfl, ho, hb'⟩; have HO := Aside0.mk (Kd.R_lower ho HB0.out.size); have HB := Aside0.mk (below_step HB0.out hb'); clear ho hb'))
  go_wp2_with (first | (go_at_call 72; refine (SortInt (fun _ => True) v (l0 ++ l1) w w1 HB.out HO.out HL.out).mono ?_; rintro e w2 ⟨rfl, ho2, hb2, hk2⟩; have HO2 := Aside0.mk ho2; have HB2 := Aside0.mk hb2; clear ho2 hb2 hk2))
  go_wp2_with (first | (go_at_call 81; refine (CompactInt (fun _ => True) v (sortI (l0 ++ l1)) w w2 HB2.out HO2.out).mono ?_; rintro e w3 ⟨v3, rfl, ho3, hb3, hk3⟩; have HO3 := Aside0.mk ho3; have HB3 := Aside0.mk hb3; clear ho3 hb3 hk3))
  go_ret
  exact ⟨_, rfl, by rw [HT.out]; exact HO3.out, HB3.out⟩
 ·rw [if_neg hb] at h
  cases h
end Go.Proofs.Ytcengijoicmldaa.Pr
