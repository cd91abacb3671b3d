/- Several small texts together: Mx2, ETogether. No condition but those they name. -/
import Derived.Test.YtdnidldinafakaaPr0
import Derived.Test.YtdnidldinafakaaPr2
import Derived.Test.YtdnidldinafakaaMx3
import Derived.Test.YtdnidldinafakaaMx6
import Derived.Test.YtdnidldinafakaaPr1
import Derived.Test.YtdnidldinafakaaMx9
import Derived.Test.YtdnidldinafakaaFd
/- Several small texts together: Cc, Ah. No condition but those they name. -/
/- What slices.Concat comes to at two lists of numbers. Condition: a length that Go can make room for. -/
namespace Go.Proofs.Ytdnidldinafakaa.Ax
open Go.RowKit Go.Proofs.Ytdnidldinafakaa.Pr Go.Proofs.Ytdnidldinafakaa.Pl Go.Proofs.YtdnidldinafakaaW.PrintWords Go.Proofs.YtdnidldinafakaaW.PrintLast Go.Proofs.YtdnidldinafakaaW.PrintMore
set_option linter.unusedVariables false
set_option linter.unusedSimpArgs false
theorem concat_ev (a b : List Int) (h : a.length + b.length ≤ 17592186043904) : Ev (fun k => slices_Concat_int_int.f k [a, b]) (a ++ b) := by
  have r0 : rd_L1 [a, b] 0 = a := rfl
  have r1 : rd_L1 [a, b] 1 = b := rfl
  have w1 : wrap64 (0 + (a.length : Int)) = (a.length : Int) := by rw [wrap_in (by omega) (by omega)]; omega
  have w2 : wrap64 ((a.length : Int) + (b.length : Int)) = ((a.length + b.length : Nat) : Int) := by rw [wrap_in (by omega) (by omega)]; omega
  have w3 : wrap64 (0 + 1) = 1 := by rw [wrap_in (by omega) (by omega)]; rfl
  have w4 : wrap64 (1 + 1) = 2 := by rw [wrap_in (by omega) (by omega)]; rfl
  have hl : (([a, b] : List (List Int)).length : Int) = 2 := rfl
  simp only [slices_Concat_int_int.f, hl]
  refine ev_succ ?_
  simp only [slices_Concat_int_int.l0, hl, r0, w1, w3, if_pos (show (0 : Int) < 2 by omega), if_pos (show (0 : Int) ≤ 0 by omega), if_neg (show ¬ ((a.length : Int) < 0) by omega)]
  refine ev_succ ?_
  simp only [slices_Concat_int_int.l0, hl, r1, w2, w4, if_pos (show (1 : Int) < 2 by omega), if_pos (show (0 : Int) ≤ 1 by omega), if_neg (show ¬ (((a.length + b.length : Nat) : Int) < 0) by omega)]
  refine ev_succ ?_
  simp only [slices_Concat_int_int.l0, hl, if_neg (show ¬ ((2 : Int) < 2) by omega)]
  refine Ev.bind (ev_eq (r := []) ?_) ?_
  · unfold slices_Grow_int_int.f
    rw [if_pos ⟨rfl, by omega, by omega⟩]
  refine ev_succ ?_
  simp only [slices_Concat_int_int.l1, hl, r0, w3, if_pos (show (0 : Int) < 2 by omega), if_pos (show (0 : Int) ≤ 0 by omega), List.length_nil, if_pos (show 0 + a.length < 17592186044416 by omega), List.nil_append]
  refine ev_succ ?_
  simp only [slices_Concat_int_int.l1, hl, r1, w4, if_pos (show (1 : Int) < 2 by omega), if_pos (show (0 : Int) ≤ 1 by omega), if_pos (show a.length + b.length < 17592186044416 by omega)]
  refine ev_succ ?_
  simp only [slices_Concat_int_int.l1, hl, if_neg (show ¬ ((2 : Int) < 2) by omega)]
  exact ev_now rfl
end Go.Proofs.Ytdnidldinafakaa.Ax

/- What looking for a number in a list tells. Conditions: lengths that Go can hold. -/
namespace Go.Proofs.Ytdnidldinafakaa.Ax
open Go.RowKit Go.Proofs.Ytdnidldinafakaa.Pr Go.Proofs.Ytdnidldinafakaa.Pl Go.Proofs.YtdnidldinafakaaW.PrintWords Go.Proofs.YtdnidldinafakaaW.PrintLast Go.Proofs.YtdnidldinafakaaW.PrintMore
set_option linter.unusedVariables false
set_option linter.unusedSimpArgs false
theorem idxInt_l0 (a : Int) (xs : List Int) (hb : xs.length ≤ 9223372036854775807) : ∀ (ys : List Int) (j : Nat), xs.drop j = ys → ∃ r : Int, Ev (fun k => slices_Index_int_int.l0 k xs a (xs.length : Int) (j : Int)) r ∧ decide (r ≥ 0) = ys.contains a
  | [], j, h => by
    have h1 := drop_nil h
    refine ⟨-1, ev_succ ?_, by simp⟩
    simp only [slices_Index_int_int.l0]
    simp only [if_neg (show ¬ ((j : Int) < (xs.length : Int)) by omega)]
    exact ev_now rfl
  | y :: ys, j, h => by
    obtain ⟨h1, h2, h3⟩ := drop_cons h
    by_cases e : a = y
    · refine ⟨(j : Int), ev_succ ?_, by simp [e]⟩
      simp only [slices_Index_int_int.l0]
      simp only [if_pos (show (j : Int) < (xs.length : Int) by omega), if_pos (show (0 : Int) ≤ (j : Int) by omega), rd_drop h, if_pos e]
      exact ev_now rfl
    · obtain ⟨r, h4, h5⟩ := idxInt_l0 a xs hb ys (j + 1) h3
      refine ⟨r, ev_succ ?_, by rw [h5]; simp [List.contains_cons, e]⟩
      simp only [slices_Index_int_int.l0]
      simp only [if_pos (show (j : Int) < (xs.length : Int) by omega), if_pos (show (0 : Int) ≤ (j : Int) by omega), rd_drop h, if_neg e, wrap_succ (show j < 9223372036854775807 by omega)]
      exact h4
theorem contains_ev (xs : List Int) (a : Int) (hb : xs.length ≤ 9223372036854775807) : Ev (fun k => slices_Contains_int_int.f k xs a) (xs.contains a) := by
  simp only [slices_Contains_int_int.f, slices_Index_int_int.f]
  obtain ⟨r, h4, h5⟩ := idxInt_l0 a xs hb xs 0 rfl
  exact Ev.bind h4 (ev_now (by rw [h5]))
end Go.Proofs.Ytdnidldinafakaa.Ax

/- impl.together: all numbers of two lists, rising. Condition: a length that Go can make room for. -/
namespace Go.Proofs.Ytdnidldinafakaa.Pr
open Go.RowKit Go.Proofs.YtdnidldinafakaaW.PrintWords Go.Proofs.YtdnidldinafakaaW.PrintLast Go.Proofs.YtdnidldinafakaaW.PrintMore
set_option linter.unusedVariables false
set_option linter.unnecessarySimpa false
set_option linter.unusedSimpArgs false
theorem boxed_cell2 (w : World) (a b : Value) (t : TypeId) : (w.alloc (.cells #[a, b] t)).cell? ⟨w.heap.size, 0, none⟩ = some a ∧ (w.alloc (.cells #[a, b] t)).cell? ⟨w.heap.size, 1, none⟩ = some b := by
  have h := blk_new w (.cells #[a, b] t)
  simp only [World.cell?]
  rw [h]
  exact ⟨rfl, rfl⟩
theorem two_rows (w : World) (t : TypeId) (A0 A1 : Option Addr) (c0 c1 : Nat) (l0 l1 : List Int) (h0 : Kd.C (Kd.int .i64) w A0 l0.length l0) (k0 : l0.length ≤ c0) (h1 : Kd.C (Kd.int .i64) w A1 l1.length l1) (k1 : l1.length ≤ c1) :
    Kd.C (Kd.slice 3 (Kd.int .i64)) (w.alloc (.cells #[.slice A0 l0.length c0, .slice A1 l1.length c1] t)) (some ⟨w.heap.size, 0, none⟩) [l0, l1].length [l0, l1] := by
  obtain ⟨x0, x1⟩ := boxed_cell2 w (.slice A0 l0.length c0) (.slice A1 l1.length c1) t
  refine ⟨rfl, by simp, fun _ => ⟨_, rfl, fun j p hj => ?_⟩⟩
  match j, hj with
  | 0, hj =>
    obtain rfl : l0 = p := by simpa using hj
    exact ⟨[_], rfl, ⟨A0, c0, rfl, k0, Kd.C_alloc h0 _⟩, fun i u hu => by
      match i, hu with
      | 0, hu =>
        obtain rfl : Value.slice A0 l0.length c0 = u := by simpa using hu
        exact x0⟩
  | 1, hj =>
    obtain rfl : l1 = p := by simpa using hj
    exact ⟨[_], rfl, ⟨A1, c1, rfl, k1, Kd.C_alloc h1 _⟩, fun i u hu => by
      match i, hu with
      | 0, hu =>
        obtain rfl : Value.slice A1 l1.length c1 = u := by simpa using hu
        exact x1⟩
def impl_together.f (l0 : List Int) (l1 : List Int) : Option (List Int) := if (l0.length + l1.length) * 8 ≤ 140737488351232 then some (Ax.tog l0 l1) else none
set_option maxHeartbeats 2000000 in
set_option maxRecDepth 100000 in
theorem impl_together.calls (A0 : Option Addr) (c0 : Nat) (l0 : List Int) (A1 : Option Addr) (c1 : Nat) (l1 : List Int) (r : List Int) (w : World) (hr0 : Kd.C (Kd.int .i64) w A0 l0.length l0) (hc0 : l0.length ≤ c0) (hr1 : Kd.C (Kd.int .i64) w A1 l1.length l1) (hc1 : l1.length ≤ c1) (h : impl_together.f l0 l1 = some r) :
    Calls Try.prog 46 #[.slice A0 l0.length c0, .slice A1 l1.length c1] w fun e w' => ∃ v0_ : Value, e = .returned (v0_) ∧ Kd.R (Kd.int .i64) 3 w' w.heap.size (fun _ => True) v0_ r ∧ Below w.heap.size w w' := by
  unfold impl_together.f at h
  by_cases hb : (l0.length + l1.length) * 8 ≤ 140737488351232
  · rw [if_pos hb] at h
    obtain rfl := Option.some.inj h
    clear h
    obtain ⟨k, hk⟩ := Ev.rounds (Ax.concat_ev l0 l1 (by omega))
    have htog : Ax.tog l0 l1 = cptI (sortI (l0 ++ l1)) := Ax.rising_uniq (Ax.tog_rising _ _) (cptI_sort _).1 (fun x => by rw [Ax.mem_tog, (cptI_sort _).2, List.mem_append])
    have HC := Aside0.mk (fun (W : World) (A : Option Addr) (hW : Kd.C (Kd.slice 3 (Kd.int .i64)) W A [l0, l1].length [l0, l1]) => slices_Concat_int_int.calls k A 2 [l0, l1] (l0 ++ l1) W hW (by simp) hk)
    have HT := Aside0.mk htog
    have H2 := Aside0.mk (two_rows w 37 A0 A1 c0 c1 l0 l1 hr0 hc0 hr1 hc1)
    have HL := Aside0.mk (show (l0 ++ l1).length < 4611686018427387904 by rw [List.length_append]; omega)
    have hB0 := below_alloc (Below.refl w.heap.size w) (.cells #[.slice A0 l0.length c0, .slice A1 l1.length c1] 37)
    have HB0 := Aside0.mk hB0
    clear hr0 hc0 hr1 hc1 hb hk htog hB0
    go_enter Try.func46, Try.ntmps46
    go_wp2_with (first | (go_at_call 69; go_loud (refine (HC.out _ _ H2.out).mono ?_); rintro e w1 ⟨v, rfl, ho, hb'⟩; have HO := Aside0.mk (Kd.R_lower ho HB0.out.size); have HB := Aside0.mk (below_step HB0.out hb'); clear ho hb'))
    go_wp2_with (first | (go_at_call 70; refine (SortInt (fun _ => True) v (l0 ++ l1) w w1 HB.out HO.out HL.out).mono ?_; rintro e w2 ⟨rfl, ho2, hb2, hk2⟩; have HO2 := Aside0.mk ho2; have HB2 := Aside0.mk hb2; clear ho2 hb2 hk2))
    go_wp2_with (first | (go_at_call 71; refine (CompactInt (fun _ => True) v (sortI (l0 ++ l1)) w w2 HB2.out HO2.out).mono ?_; rintro e w3 ⟨v3, rfl, ho3, hb3, hk3⟩; have HO3 := Aside0.mk ho3; have HB3 := Aside0.mk hb3; clear ho3 hb3 hk3))
    go_ret
    exact ⟨_, rfl, by rw [HT.out]; exact HO3.out, HB3.out⟩
  · rw [if_neg hb] at h
    cases h
end Go.Proofs.Ytdnidldinafakaa.Pr
