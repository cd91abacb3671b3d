-- Written by xprint.py (a program of this session, over the kit's print). Not trusted: Lean checks it.
import Derived.Test.YtlknbopddalinaaPr0
import Derived.Test.YtlknbopddalinaaPr1
import Derived.Test.YtlknbopddalinaaPr5
import Derived.Test.YtlknbopddalinaaEBoth
namespace Go.Proofs.Ytlknbopddalinaa.Pr
open Go.RowKit Go.Proofs.YtlknbopddalinaaW.PrintWords Go.Proofs.YtlknbopddalinaaW.PrintLast Go.Proofs.YtlknbopddalinaaW.PrintMore
attribute [local go_sem] max2_int min2_int max_two min_two max_three min_three max_four min_four   -- for this text's walks alone
set_option linter.unusedVariables false
set_option linter.unusedSimpArgs false

-- EXTERN impl_both: in the text YtlknbopddalinaaEBoth

/-! ### impl_GoodLocks: function 31 -/
mutual
def impl_GoodLocks.j0 : Nat → Bool → List (List Int) → List Int → List Int → Option (Bool)
 | 0, _, _, _, _ => none
 | k + 1, x17, x231000, x231001, x231002 => if x17 = true then (some false) else (impl_GoodLocks.l0 k x231002 (x231002.length : Int) 0 x231000 x231001 x231002)
def impl_GoodLocks.l0 : Nat → List Int → Int → Int → List (List Int) → List Int → List Int → Option (Bool)
 | 0, _, _, _, _, _, _ => none
 | k + 1, x19, x20, x21, x231000, x231001, x231002 => if x21 < x20 then (if 0 ≤ x21 then (if x21 < (x19.length : Int) then ((impl_isDealer.f (rd x19 x21)).bind fun t232 => (if t232 = true then (if x21 ≤ (x231002.length : Int) then ((slices_Contains_int_int.f k (x231002.take (x21 : Int).toNat) (rd x19 x21)).bind fun t234 => (if t234 = true then (some false) else (impl_GoodLocks.l0 k x19 x20 (wrap64 (x21 + 1)) x231000 x231001 x231002))) else (none)) else (some false))) else (none)) else (none)) else (impl_GoodLocks.l1 k x231000 (x231000.length : Int) 0 x231000 x231001 x231002)
def impl_GoodLocks.l1 : Nat → List (List Int) → Int → Int → List (List Int) → List Int → List Int → Option (Bool)
 | 0, _, _, _, _, _, _ => none
 | k + 1, x39, x40, x41, x231000, x231001, x231002 => if x41 < x40 then (if 0 ≤ x41 then (if x41 < (x39.length : Int) then (if x41 < (x231001.length : Int) then ((impl_isRising.f k (rd_L1 x39 x41) 0 3).bind fun t237 => (if t237 = true then ((impl_within.f (rd x231001 x41) (-1) 3).bind fun t238 => (if t238 = true then (if (rd x231001 x41) ≥ 0 then (if ((rd_L1 x39 x41).length : Int) > 0 then ((slices_Equal_int_int.f k (rd_L1 x39 x41) (([rd x231001 x41] : List Int))).bind fun t242 => (impl_GoodLocks.j3 k (rd_L1 x39 x41) (rd x231001 x41) x39 x40 x41 (!t242) x231000 x231001 x231002)) else (impl_GoodLocks.j3 k (rd_L1 x39 x41) (rd x231001 x41) x39 x40 x41 false x231000 x231001 x231002)) else (impl_GoodLocks.j3 k (rd_L1 x39 x41) (rd x231001 x41) x39 x40 x41 false x231000 x231001 x231002)) else (impl_GoodLocks.j3 k (rd_L1 x39 x41) (rd x231001 x41) x39 x40 x41 true x231000 x231001 x231002))) else (impl_GoodLocks.j3 k (rd_L1 x39 x41) (rd x231001 x41) x39 x40 x41 true x231000 x231001 x231002))) else (none)) else (none)) else (none)) else (some true)
def impl_GoodLocks.j3 : Nat → List Int → Int → List (List Int) → Int → Int → Bool → List (List Int) → List Int → List Int → Option (Bool)
 | 0, _, _, _, _, _, _, _, _, _ => none
 | k + 1, x6, x7, x39, x40, x41, x74, x231000, x231001, x231002 => if x74 = true then (some false) else ((slices_Contains_int_int.f k x231002 x7).bind fun t243 => (if t243 = true then (some false) else ((impl_both.f x6 x231002).bind fun t244 => (if (t244.length : Int) > 0 then (some false) else (impl_GoodLocks.l1 k x39 x40 (wrap64 (x41 + 1)) x231000 x231001 x231002)))))
end
def impl_GoodLocks.f (k : Nat) (l0_0 : List (List Int)) (l0_1 : List Int) (l0_2 : List Int) : Option (Bool) := if (l0_0.length : Int) = 4 then (impl_GoodLocks.j0 k ((l0_1.length : Int) != 4) l0_0 l0_1 l0_2) else (impl_GoodLocks.j0 k true l0_0 l0_1 l0_2)
theorem impl_GoodLocks.mono_l : ∀ k, (∀ y0 y1 y2 y3, LeO (impl_GoodLocks.j0 k y0 y1 y2 y3) (impl_GoodLocks.j0 (k + 1) y0 y1 y2 y3)) ∧ (∀ y0 y1 y2 y3 y4 y5, LeO (impl_GoodLocks.l0 k y0 y1 y2 y3 y4 y5) (impl_GoodLocks.l0 (k + 1) y0 y1 y2 y3 y4 y5)) ∧ (∀ y0 y1 y2 y3 y4 y5, LeO (impl_GoodLocks.l1 k y0 y1 y2 y3 y4 y5) (impl_GoodLocks.l1 (k + 1) y0 y1 y2 y3 y4 y5)) ∧ (∀ y0 y1 y2 y3 y4 y5 y6 y7 y8, LeO (impl_GoodLocks.j3 k y0 y1 y2 y3 y4 y5 y6 y7 y8) (impl_GoodLocks.j3 (k + 1) y0 y1 y2 y3 y4 y5 y6 y7 y8))
 | 0 => ⟨fun _ _ _ _ r h => by simp [impl_GoodLocks.j0] at h, fun _ _ _ _ _ _ r h => by simp [impl_GoodLocks.l0] at h, fun _ _ _ _ _ _ r h => by simp [impl_GoodLocks.l1] at h, fun _ _ _ _ _ _ _ _ _ r h => by simp [impl_GoodLocks.j3] at h⟩
 | k + 1 => by
  obtain ⟨ih0, ih1, ih2, ih3⟩ := impl_GoodLocks.mono_l k
  refine ⟨?_, ?_, ?_, ?_⟩
  ·intro y0 y1 y2 y3
   unfold impl_GoodLocks.j0
   repeat' first
   | (with_reducible exact ih0 _ _ _ _)
   | (with_reducible exact ih1 _ _ _ _ _ _)
   | (with_reducible exact ih2 _ _ _ _ _ _)
   | (with_reducible exact ih3 _ _ _ _ _ _ _ _ _)
   | (with_reducible exact impl_isRising.mono _ _ _ _)
   | (with_reducible exact slices_Contains_int_int.mono _ _ _)
   | (with_reducible exact slices_Equal_int_int.mono _ _ _)
   | (with_reducible exact LeO.refl _)
   | (with_reducible exact LeO.none _)
   | (with_reducible refine LeO.ite ?_ ?_)
   | (with_reducible refine LeO.bind ?_ (fun _ => ?_))
   | exact ih0 _ _ _ _
   | exact ih1 _ _ _ _ _ _
   | exact ih2 _ _ _ _ _ _
   | exact ih3 _ _ _ _ _ _ _ _ _
   | exact impl_isRising.mono _ _ _ _
   | exact slices_Contains_int_int.mono _ _ _
   | exact slices_Equal_int_int.mono _ _ _
   | exact LeO.none _
   | refine LeO.ite ?_ ?_
   | refine LeO.bind ?_ (fun _ => ?_)
  ·intro y0 y1 y2 y3 y4 y5
   unfold impl_GoodLocks.l0
   repeat' first
   | (with_reducible exact ih0 _ _ _ _)
   | (with_reducible exact ih1 _ _ _ _ _ _)
   | (with_reducible exact ih2 _ _ _ _ _ _)
   | (with_reducible exact ih3 _ _ _ _ _ _ _ _ _)
   | (with_reducible exact impl_isRising.mono _ _ _ _)
   | (with_reducible exact slices_Contains_int_int.mono _ _ _)
   | (with_reducible exact slices_Equal_int_int.mono _ _ _)
   | (with_reducible exact LeO.refl _)
   | (with_reducible exact LeO.none _)
   | (with_reducible refine LeO.ite ?_ ?_)
   | (with_reducible refine LeO.bind ?_ (fun _ => ?_))
   | exact ih0 _ _ _ _
   | exact ih1 _ _ _ _ _ _
   | exact ih2 _ _ _ _ _ _
   | exact ih3 _ _ _ _ _ _ _ _ _
   | exact impl_isRising.mono _ _ _ _
   | exact slices_Contains_int_int.mono _ _ _
   | exact slices_Equal_int_int.mono _ _ _
   | exact LeO.none _
   | refine LeO.ite ?_ ?_
   | refine LeO.bind ?_ (fun _ => ?_)
  ·intro y0 y1 y2 y3 y4 y5
   unfold impl_GoodLocks.l1
   repeat' first
   | (with_reducible exact ih0 _ _ _ _)
   | (with_reducible exact ih1 _ _ _ _ _ _)
   | (with_reducible exact ih2 _ _ _ _ _ _)
   | (with_reducible exact ih3 _ _ _ _ _ _ _ _ _)
   | (with_reducible exact impl_isRising.mono _ _ _ _)
   | (with_reducible exact slices_Contains_int_int.mono _ _ _)
   | (with_reducible exact slices_Equal_int_int.mono _ _ _)
   | (with_reducible exact LeO.refl _)
   | (with_reducible exact LeO.none _)
   | (with_reducible refine LeO.ite ?_ ?_)
   | (with_reducible refine LeO.bind ?_ (fun _ => ?_))
   | exact ih0 _ _ _ _
   | exact ih1 _ _ _ _ _ _
   | exact ih2 _ _ _ _ _ _
   | exact ih3 _ _ _ _ _ _ _ _ _
   | exact impl_isRising.mono _ _ _ _
   | exact slices_Contains_int_int.mono _ _ _
   | exact slices_Equal_int_int.mono _ _ _
   | exact LeO.none _
   | refine LeO.ite ?_ ?_
   | refine LeO.bind ?_ (fun _ => ?_)
  ·intro y0 y1 y2 y3 y4 y5 y6 y7 y8
   unfold impl_GoodLocks.j3
   repeat' first
   | (with_reducible exact ih0 _ _ _ _)
   | (with_reducible exact ih1 _ _ _ _ _ _)
   | (with_reducible exact ih2 _ _ _ _ _ _)
   | (with_reducible exact ih3 _ _ _ _ _ _ _ _ _)
   | (with_reducible exact impl_isRising.mono _ _ _ _)
   | (with_reducible exact slices_Contains_int_int.mono _ _ _)
   | (with_reducible exact slices_Equal_int_int.mono _ _ _)
   | (with_reducible exact LeO.refl _)
   | (with_reducible exact LeO.none _)
   | (with_reducible refine LeO.ite ?_ ?_)
   | (with_reducible refine LeO.bind ?_ (fun _ => ?_))
   | exact ih0 _ _ _ _
   | exact ih1 _ _ _ _ _ _
   | exact ih2 _ _ _ _ _ _
   | exact ih3 _ _ _ _ _ _ _ _ _
   | exact impl_isRising.mono _ _ _ _
   | exact slices_Contains_int_int.mono _ _ _
   | exact slices_Equal_int_int.mono _ _ _
   | exact LeO.none _
   | refine LeO.ite ?_ ?_
   | refine LeO.bind ?_ (fun _ => ?_)
theorem impl_GoodLocks.mono : ∀ a0 a1 a2 k, LeO (impl_GoodLocks.f k a0 a1 a2) (impl_GoodLocks.f (k + 1) a0 a1 a2) := by
 intro a0 a1 a2 k
 obtain ⟨ih0, ih1, ih2, ih3⟩ := impl_GoodLocks.mono_l k
 unfold impl_GoodLocks.f
 repeat' first
   | (with_reducible exact ih0 _ _ _ _)
   | (with_reducible exact ih1 _ _ _ _ _ _)
   | (with_reducible exact ih2 _ _ _ _ _ _)
   | (with_reducible exact ih3 _ _ _ _ _ _ _ _ _)
   | (with_reducible exact impl_isRising.mono _ _ _ _)
   | (with_reducible exact slices_Contains_int_int.mono _ _ _)
   | (with_reducible exact slices_Equal_int_int.mono _ _ _)
   | (with_reducible exact LeO.refl _)
   | (with_reducible exact LeO.none _)
   | (with_reducible refine LeO.ite ?_ ?_)
   | (with_reducible refine LeO.bind ?_ (fun _ => ?_))
   | exact ih0 _ _ _ _
   | exact ih1 _ _ _ _ _ _
   | exact ih2 _ _ _ _ _ _
   | exact ih3 _ _ _ _ _ _ _ _ _
   | exact impl_isRising.mono _ _ _ _
   | exact slices_Contains_int_int.mono _ _ _
   | exact slices_Equal_int_int.mono _ _ _
   | exact LeO.none _
   | refine LeO.ite ?_ ?_
   | refine LeO.bind ?_ (fun _ => ?_)
set_option maxHeartbeats 8000000 in
set_option maxRecDepth 100000 in
theorem impl_GoodLocks.calls (k : Nat) (A0_0 : Option Addr) (c0_0 : Nat) (l0_0 : List (List Int)) (A0_1 : Option Addr) (c0_1 : Nat) (l0_1 : List Int) (A0_2 : Option Addr) (c0_2 : Nat) (l0_2 : List Int) (r : Bool) (w : World) (hr0_0 : Kd.C (Kd.slice 3 (Kd.int .i64)) w A0_0 l0_0.length l0_0) (hc0_0 : l0_0.length ≤ c0_0) (hr0_1 : Kd.C (Kd.int .i64) w A0_1 l0_1.length l0_1) (hc0_1 : l0_1.length ≤ c0_1) (hr0_2 : Kd.C (Kd.int .i64) w A0_2 l0_2.length l0_2) (hc0_2 : l0_2.length ≤ c0_2) (h : impl_GoodLocks.f k l0_0 l0_1 l0_2 = some r) :
  Calls Try.prog 31 #[.agg #[.slice A0_0 l0_0.length c0_0, .slice A0_1 l0_1.length c0_1, .slice A0_2 l0_2.length c0_2]] w fun e w' => e = .returned (.bool r) ∧ Below w.heap.size w w' := by
 have hu25 := Try.underlying25
 have HR0_0 := Aside0.mk hr0_0
 have HC0_0 := Aside0.mk hc0_0
 clear hr0_0 hc0_0
 have HR0_1 := Aside0.mk hr0_1
 have HC0_1 := Aside0.mk hc0_1
 clear hr0_1 hc0_1
 have HR0_2 := Aside0.mk hr0_2
 have HC0_2 := Aside0.mk hc0_2
 clear hr0_2 hc0_2
 have HB := Aside0.mk (Below.refl w.heap.size w)
 have H : (if (l0_0.length : Int) = 4 then (impl_GoodLocks.j0 k ((l0_1.length : Int) != 4) l0_0 l0_1 l0_2) else (impl_GoodLocks.j0 k true l0_0 l0_1 l0_2)) = some r := h
 clear h
 have HC2 := Aside0.mk H
 clear H
 go_enter Try.func31, Try.ntmps31
 go_upto_region 1 with (first | ((with_reducible refine gate_dst (N := 1) rfl ?_); (try (refine gate_guard (by rfl) ?_; dsimp only)); refine box_event ?hg (N := 1) ?hd (cs := #[.slice A0_0 l0_0.length c0_0, .slice A0_1 l0_1.length c0_1, .slice A0_2 l0_2.length c0_2]) (t := 25) ?hr ?_; (case hd => rfl); (case hg => rfl); (case hr => first | (go_simp; done) | (go_simp; rfl)); intro gb230 hg w3 hbox hb; have n0_ := Aside0.mk (below_step (by repeat (first | (with_reducible first | exact HB.out | apply below_alloc | apply pw_below_drewN | apply below_drew1) | exact HB.out)) hb); have n1_ := Aside0.mk (hbox); have n2_ := Aside0.mk ((by rw [hg]; exact (below_size (by repeat (first | (with_reducible first | exact HB.out | apply below_alloc | apply pw_below_drewN | apply below_drew1) | exact HB.out))) : w.heap.size ≤ gb230)); have n3_ := Aside0.mk ((by rw [hg]; exact (below_size (by repeat (first | (with_reducible first | exact HB.out | apply below_alloc | apply pw_below_drewN | apply below_drew1) | exact HB.out))) : w.heap.size ≤ gb230)); clear HB; have HB := n0_; have BK230 := n1_; have GW230 := n2_; have GE230 := n3_; clear n0_ n1_ n2_ n3_; clear hb hbox hg))
 (try simp only [Act.put, List.setIfInBounds_toArray, List.set_cons_zero, List.set_cons_succ])
 go_cut [17] (fun v17 wc => ∃ (kq : Nat) (x17_1 : Bool), v17 = .bool x17_1 ∧ Aside0 (impl_GoodLocks.j0 kq x17_1 l0_0 l0_1 l0_2 = some r) ∧ Aside0 (kq ≤ k) ∧ Aside0 (wc.heap[gb230]? = some (.cells #[(.slice A0_0 l0_0.length c0_0), (.slice A0_1 l0_1.length c0_1), (.slice A0_2 l0_2.length c0_2)] 25 (0, 0))) ∧ Aside0 (Below w.heap.size w wc))
 case first =>
  have H := HC2.out
  clear HC2
  by_cases c4 : (l0_0.length : Int) = 4
  ·rw [if_pos c4] at H
   have c4b0 : ((l0_0.length : Int) == 4) = true := beq_iff_eq.mpr c4
   have c4b1 : ((l0_0.length : Int) != 4) = false := bne_eq_false_iff_eq.mpr c4
   clear c4
   (first | rw [c4b0] | (simp only [i64_w, i32_w]; rw [c4b0]) | skip)
   have H' := Aside0.mk H
   clear H
   have hcz5_0 : w3.cell? ⟨gb230, 0, none⟩ = some (.slice A0_0 l0_0.length c0_0) := (blk_cell BK230.out 0).trans rfl
   have hcz5_1 : w3.cell? ⟨gb230, 1, none⟩ = some (.slice A0_1 l0_1.length c0_1) := (blk_cell BK230.out 1).trans rfl
   have hcz5_2 : w3.cell? ⟨gb230, 2, none⟩ = some (.slice A0_2 l0_2.length c0_2) := (blk_cell BK230.out 2).trans rfl
   have hfz5_0 := blk_frozen BK230.out 0
   have hfz5_1 := blk_frozen BK230.out 1
   have hfz5_2 := blk_frozen BK230.out 2
   go_wp2
   go_meet
   case rel => exact ⟨_, (((l0_1.length : Int) != 4)), (by first | rfl | (simp; done) | (simp [*]; done)), H', ⟨by first | omega | exact Nat.le_refl _⟩, ⟨by (with_reducible repeat (first | refine blk_drewN ?_ _ | refine blk_drew ?_ | refine blk_alloc ?_ _)); exact BK230.out⟩, ⟨by repeat (first | (with_reducible first | exact HB.out | apply below_alloc | apply pw_below_drewN | apply below_drew1 | refine below_set ?_ GE230.out) | exact HB.out)⟩⟩
  ·rw [if_neg c4] at H
   have c4b0 : ((l0_0.length : Int) == 4) = false := beq_eq_false_iff_ne.mpr c4
   have c4b1 : ((l0_0.length : Int) != 4) = true := bne_iff_ne.mpr c4
   (first | rw [c4b0] | (simp only [i64_w, i32_w]; rw [c4b0]) | skip)
   have H' := Aside0.mk H
   clear H
   have hcz6_0 : w3.cell? ⟨gb230, 0, none⟩ = some (.slice A0_0 l0_0.length c0_0) := (blk_cell BK230.out 0).trans rfl
   have hcz6_1 : w3.cell? ⟨gb230, 1, none⟩ = some (.slice A0_1 l0_1.length c0_1) := (blk_cell BK230.out 1).trans rfl
   have hcz6_2 : w3.cell? ⟨gb230, 2, none⟩ = some (.slice A0_2 l0_2.length c0_2) := (blk_cell BK230.out 2).trans rfl
   have hfz6_0 := blk_frozen BK230.out 0
   have hfz6_1 := blk_frozen BK230.out 1
   have hfz6_2 := blk_frozen BK230.out 2
   go_wp2
   go_meet
   case rel => exact ⟨_, (true), (by first | rfl | (simp; done) | (simp [*]; done)), H', ⟨by first | omega | exact Nat.le_refl _⟩, ⟨by (with_reducible repeat (first | refine blk_drewN ?_ _ | refine blk_drew ?_ | refine blk_alloc ?_ _)); exact BK230.out⟩, ⟨by repeat (first | (with_reducible first | exact HB.out | apply below_alloc | apply pw_below_drewN | apply below_drew1 | refine below_set ?_ GE230.out) | exact HB.out)⟩⟩
 case rest =>
  clear HC2
  try clear p2
  try clear c3
  try clear c4
  try clear c4b0
  try clear c4b1
  try clear hcz5_0
  try clear hcz5_1
  try clear hcz5_2
  try clear hcz6_0
  try clear hcz6_1
  try clear hcz6_2
  try clear hfz5_0
  try clear hfz5_1
  try clear hfz5_2
  try clear hfz6_0
  try clear hfz6_1
  try clear hfz6_2
  obtain ⟨kq, x17_1, rfl, HA, HJ1, BK230, HB⟩ := hcut
  cases kq with
  | zero => exact absurd HA.out (by simp [impl_GoodLocks.j0])
  | succ kj1 =>
   have H := HA.out
   clear HA
   simp only [impl_GoodLocks.j0] at H
   by_cases c7 : x17_1 = true
   ·subst c7
    have H1 : (some false) = some r := by rw [if_pos rfl] at H; exact H
    clear H
    have H := H1
    clear H1
    obtain rfl := Option.some.inj H
    go_wp2
    go_ret
    exact ⟨by first | rfl | (simp [errW_none, errW_some] <;> rfl) | (simp [*, errW_none, errW_some] <;> rfl), by repeat (first | (with_reducible first | exact HB.out | apply below_alloc | apply pw_below_drewN | apply below_drew1 | refine below_set ?_ GE230.out) | exact HB.out)⟩
   ·replace c7 := Bool.eq_false_iff.mpr c7
    subst c7
    have H1 : (impl_GoodLocks.l0 kj1 l0_2 (l0_2.length : Int) 0 l0_0 l0_1 l0_2) = some r := by rw [if_neg (show ¬ (false = true) by decide)] at H; exact H
    clear H
    have H := H1
    clear H1
    have H' := Aside0.mk H
    clear H
    have hcz8_0 : wc.cell? ⟨gb230, 0, none⟩ = some (.slice A0_0 l0_0.length c0_0) := (blk_cell BK230.out 0).trans rfl
    have hcz8_1 : wc.cell? ⟨gb230, 1, none⟩ = some (.slice A0_1 l0_1.length c0_1) := (blk_cell BK230.out 1).trans rfl
    have hcz8_2 : wc.cell? ⟨gb230, 2, none⟩ = some (.slice A0_2 l0_2.length c0_2) := (blk_cell BK230.out 2).trans rfl
    have hfz8_0 := blk_frozen BK230.out 0
    have hfz8_1 := blk_frozen BK230.out 1
    have hfz8_2 := blk_frozen BK230.out 2
    go_wp2
    go_loopg [21] kj1 (fun kq v21 w' => ∃ (x21_2 : Int), v21 = .int .i64 x21_2 ∧ Aside0 (impl_GoodLocks.l0 kq l0_2 (l0_2.length : Int) x21_2 l0_0 l0_1 l0_2 = some r) ∧ Aside0 (kq ≤ kj1) ∧ Aside0 (w'.heap[gb230]? = some (.cells #[(.slice A0_0 l0_0.length c0_0), (.slice A0_1 l0_1.length c0_1), (.slice A0_2 l0_2.length c0_2)] 25 (0, 0))) ∧ Aside0 (Below w.heap.size w w'))
    case atStart => exact ⟨(0), (by first | rfl | (simp; done) | (simp [*]; done)), H', ⟨Nat.le_refl _⟩, ⟨by (with_reducible repeat (first | refine blk_drewN ?_ _ | refine blk_drew ?_ | refine blk_alloc ?_ _)); exact BK230.out⟩, ⟨by repeat (first | (with_reducible first | exact HB.out | apply below_alloc | apply pw_below_drewN | apply below_drew1 | refine below_set ?_ GE230.out) | exact HB.out)⟩⟩
    case round =>
     clear H'
     try clear p2
     try clear c3
     try clear c4
     try clear c4b0
     try clear c4b1
     try clear c7
     try clear hcz5_0
     try clear hcz5_1
     try clear hcz5_2
     try clear hcz6_0
     try clear hcz6_1
     try clear hcz6_2
     try clear hcz8_0
     try clear hcz8_1
     try clear hcz8_2
     try clear hfz5_0
     try clear hfz5_1
     try clear hfz5_2
     try clear hfz6_0
     try clear hfz6_1
     try clear hfz6_2
     try clear hfz8_0
     try clear hfz8_1
     try clear hfz8_2
     try clear p2
     obtain ⟨x21_2, rfl, HA, HK2, BK230, HB⟩ := hrel
     cases gk with
     | zero => exact absurd HA.out (by simp [impl_GoodLocks.l0])
     | succ k2 =>
      have H := HA.out
      clear HA
      simp only [impl_GoodLocks.l0] at H
      by_cases c9 : x21_2 < (l0_2.length : Int)
      ·rw [if_pos c9] at H
       have c9b0 : decide (x21_2 < (l0_2.length : Int)) = true := decide_eq_true c9
       clear c9
       by_cases c10 : 0 ≤ x21_2
       ·rw [if_pos c10] at H
        have c10b0 : decide (0 ≤ x21_2) = true := decide_eq_true c10
        clear c10
        by_cases c11 : x21_2 < (l0_2.length : Int)
        ·rw [if_pos c11] at H
         have c11b0 : decide (x21_2 < (l0_2.length : Int)) = true := decide_eq_true c11
         clear c11
         replace H := Option.bind_eq_some_iff.mp H
         obtain ⟨t232, A120, H⟩ := H
         replace H : (if t232 = true then (if x21_2 ≤ (l0_2.length : Int) then ((slices_Contains_int_int.f k2 (l0_2.take (x21_2 : Int).toNat) (rd l0_2 x21_2)).bind fun t234 => (if t234 = true then (some false) else (impl_GoodLocks.l0 k2 l0_2 (l0_2.length : Int) (wrap64 (x21_2 + 1)) l0_0 l0_1 l0_2))) else (none)) else (some false)) = some r := H
         have A12 := Aside0.mk A120
         clear A120
         by_cases c13 : t232 = true
         ·subst c13
          have H1 : (if x21_2 ≤ (l0_2.length : Int) then ((slices_Contains_int_int.f k2 (l0_2.take (x21_2 : Int).toNat) (rd l0_2 x21_2)).bind fun t234 => (if t234 = true then (some false) else (impl_GoodLocks.l0 k2 l0_2 (l0_2.length : Int) (wrap64 (x21_2 + 1)) l0_0 l0_1 l0_2))) else (none)) = some r := by rw [if_pos rfl] at H; exact H
          clear H
          have H := H1
          clear H1
          have c14b0 := eq_true (of_decide_eq_true (by first | (with_reducible assumption) | assumption) : 0 ≤ x21_2)
          by_cases c15 : x21_2 ≤ (l0_2.length : Int)
          ·rw [if_pos c15] at H
           have c15b0 := eq_true c15
           have c15b1 : decide (x21_2 ≤ (l0_2.length : Int)) = true := decide_eq_true c15
           clear c15
           replace H := Option.bind_eq_some_iff.mp H
           obtain ⟨t234, A160, H⟩ := H
           replace H : (if t234 = true then (some false) else (impl_GoodLocks.l0 k2 l0_2 (l0_2.length : Int) (wrap64 (x21_2 + 1)) l0_0 l0_1 l0_2)) = some r := H
           have A16 := Aside0.mk A160
           clear A160
           by_cases c17 : t234 = true
           ·subst c17
            have H1 : (some false) = some r := by rw [if_pos rfl] at H; exact H
            clear H
            have H := H1
            clear H1
            obtain rfl := Option.some.inj H
            have p231 : 0 ≤ (x21_2 : Int) := of_decide_eq_true (by first | (with_reducible assumption) | assumption)
            have q231 : x21_2 < (l0_2.length : Int) := of_decide_eq_true (by first | (with_reducible assumption) | assumption)
            obtain ⟨ad231, e231, hx231_0⟩ := Kd.at_int HR0_2.out x21_2 p231 q231
            cases e231
            replace hx231_0 := (HB.out.cell (World.block_lt_of_cell? w _ hx231_0)).trans hx231_0
            replace p231 := eq_true p231
            replace q231 := eq_true q231
            go_wp2_with (first | ((with_reducible refine gate_callee (f := 32) rfl ?_); refine goesL_ (some 27) rfl rfl Try.func32 (by kernel_rfl) rfl #[.int .i64 (rd l0_2 x21_2)] rfl (by (try simp only [List.map_toArray, List.map_cons, List.map_nil]); first | done | rfl | (simp only [List.length_drop, List.length_take]; rfl)) ?_; (with_reducible refine (impl_isDealer.calls (rd l0_2 x21_2) true _ A12.out).mono ?_); rintro e w' ⟨rfl, ⟨nd, rfl⟩⟩; refine ⟨_, rfl, ?_⟩; have hcz18_0 : wr.cell? ⟨gb230, 0, none⟩ = some (.slice A0_0 l0_0.length c0_0) := (blk_cell BK230.out 0).trans rfl; have hcz18_1 : wr.cell? ⟨gb230, 1, none⟩ = some (.slice A0_1 l0_1.length c0_1) := (blk_cell BK230.out 1).trans rfl; have hcz18_2 : wr.cell? ⟨gb230, 2, none⟩ = some (.slice (some ad231) l0_2.length c0_2) := (blk_cell BK230.out 2).trans rfl; have hfz18_0 := blk_frozen BK230.out 0; have hfz18_1 := blk_frozen BK230.out 1; have hfz18_2 := blk_frozen BK230.out 2; obtain ⟨i019, hi019, _, hsz19, _⟩ := info_parts info3; obtain ⟨hcut19, hA19, hC19⟩ := print_take_of (P := Try.prog) (Value.int .i64) 0 23 3 .i64 Try.underlying23 hi019 hsz19 (some ad231) c0_2 l0_2 x21_2 (of_decide_eq_true (by first | (with_reducible assumption) | assumption)) (of_decide_eq_true (by first | (with_reducible assumption) | assumption)) HC0_2.out; have HR233 := Aside0.mk (Kd.C_of_reads (h1 := fun _ => rfl) (hA19 _ (Kd.reads_of_C HR0_2.out))); have HC233 := Aside0.mk hC19; clear hA19 hC19 hi019 hsz19) | (go_at_call 33; have hn_ : (l0_2.take (x21_2 : Int).toNat).length = (x21_2 : Int).toNat := (by have q_ := of_eq_true q231; rw [List.length_take]; omega); have cc_ : ∀ W, Kd.C (Kd.int .i64) W (some ad231) (l0_2.take (x21_2 : Int).toNat).length (l0_2.take (x21_2 : Int).toNat) → Calls Try.prog 33 #[.slice (some ad231) (x21_2 : Int).toNat c0_2, .int .i64 (rd l0_2 x21_2)] W (fun e w' => e = .returned (.bool true) ∧ Drawn0 W w') := (fun W s1 => by have c1_ := slices_Contains_int_int.calls k2 (some ad231) c0_2 (l0_2.take (x21_2 : Int).toNat) (rd l0_2 x21_2) true W s1 HC233.out A16.out; rw [hn_] at c1_; exact c1_); refine (cc_ _ ?side1).mono ?_; (case side1 => repeat (first | exact (Kd.C_below HR233.out (by repeat (first | (with_reducible first | exact HB.out | apply below_alloc | apply pw_below_drewN | apply below_drew1 | refine below_set ?_ GE230.out) | exact HB.out))) | (with_reducible refine Kd.C_alloc ?_ _) | (with_reducible refine Kd.C_drewN ?_ _) | (with_reducible refine Kd.C_drew ?_))); clear cc_ hn_; rintro e w' ⟨rfl, ⟨nd, rfl⟩⟩))
            go_ret
            exact ⟨by first | rfl | (simp [errW_none, errW_some] <;> rfl) | (simp [*, errW_none, errW_some] <;> rfl), by repeat (first | (with_reducible first | exact HB.out | apply below_alloc | apply pw_below_drewN | apply below_drew1 | refine below_set ?_ GE230.out) | exact HB.out)⟩
           ·replace c17 := Bool.eq_false_iff.mpr c17
            subst c17
            have H1 : (impl_GoodLocks.l0 k2 l0_2 (l0_2.length : Int) (wrap64 (x21_2 + 1)) l0_0 l0_1 l0_2) = some r := by rw [if_neg (show ¬ (false = true) by decide)] at H; exact H
            clear H
            have H := H1
            clear H1
            have H' := Aside0.mk H
            clear H
            have p231 : 0 ≤ (x21_2 : Int) := of_decide_eq_true (by first | (with_reducible assumption) | assumption)
            have q231 : x21_2 < (l0_2.length : Int) := of_decide_eq_true (by first | (with_reducible assumption) | assumption)
            obtain ⟨ad231, e231, hx231_0⟩ := Kd.at_int HR0_2.out x21_2 p231 q231
            cases e231
            replace hx231_0 := (HB.out.cell (World.block_lt_of_cell? w _ hx231_0)).trans hx231_0
            replace p231 := eq_true p231
            replace q231 := eq_true q231
            go_wp2_with (first | ((with_reducible refine gate_callee (f := 32) rfl ?_); refine goesL_ (some 27) rfl rfl Try.func32 (by kernel_rfl) rfl #[.int .i64 (rd l0_2 x21_2)] rfl (by (try simp only [List.map_toArray, List.map_cons, List.map_nil]); first | done | rfl | (simp only [List.length_drop, List.length_take]; rfl)) ?_; (with_reducible refine (impl_isDealer.calls (rd l0_2 x21_2) true _ A12.out).mono ?_); rintro e w' ⟨rfl, ⟨nd, rfl⟩⟩; refine ⟨_, rfl, ?_⟩; have hcz20_0 : wr.cell? ⟨gb230, 0, none⟩ = some (.slice A0_0 l0_0.length c0_0) := (blk_cell BK230.out 0).trans rfl; have hcz20_1 : wr.cell? ⟨gb230, 1, none⟩ = some (.slice A0_1 l0_1.length c0_1) := (blk_cell BK230.out 1).trans rfl; have hcz20_2 : wr.cell? ⟨gb230, 2, none⟩ = some (.slice (some ad231) l0_2.length c0_2) := (blk_cell BK230.out 2).trans rfl; have hfz20_0 := blk_frozen BK230.out 0; have hfz20_1 := blk_frozen BK230.out 1; have hfz20_2 := blk_frozen BK230.out 2; obtain ⟨i021, hi021, _, hsz21, _⟩ := info_parts info3; obtain ⟨hcut21, hA21, hC21⟩ := print_take_of (P := Try.prog) (Value.int .i64) 0 23 3 .i64 Try.underlying23 hi021 hsz21 (some ad231) c0_2 l0_2 x21_2 (of_decide_eq_true (by first | (with_reducible assumption) | assumption)) (of_decide_eq_true (by first | (with_reducible assumption) | assumption)) HC0_2.out; have HR233 := Aside0.mk (Kd.C_of_reads (h1 := fun _ => rfl) (hA21 _ (Kd.reads_of_C HR0_2.out))); have HC233 := Aside0.mk hC21; clear hA21 hC21 hi021 hsz21) | (go_at_call 33; have hn_ : (l0_2.take (x21_2 : Int).toNat).length = (x21_2 : Int).toNat := (by have q_ := of_eq_true q231; rw [List.length_take]; omega); have cc_ : ∀ W, Kd.C (Kd.int .i64) W (some ad231) (l0_2.take (x21_2 : Int).toNat).length (l0_2.take (x21_2 : Int).toNat) → Calls Try.prog 33 #[.slice (some ad231) (x21_2 : Int).toNat c0_2, .int .i64 (rd l0_2 x21_2)] W (fun e w' => e = .returned (.bool false) ∧ Drawn0 W w') := (fun W s1 => by have c1_ := slices_Contains_int_int.calls k2 (some ad231) c0_2 (l0_2.take (x21_2 : Int).toNat) (rd l0_2 x21_2) false W s1 HC233.out A16.out; rw [hn_] at c1_; exact c1_); refine (cc_ _ ?side1).mono ?_; (case side1 => repeat (first | exact (Kd.C_below HR233.out (by repeat (first | (with_reducible first | exact HB.out | apply below_alloc | apply pw_below_drewN | apply below_drew1 | refine below_set ?_ GE230.out) | exact HB.out))) | (with_reducible refine Kd.C_alloc ?_ _) | (with_reducible refine Kd.C_drewN ?_ _) | (with_reducible refine Kd.C_drew ?_))); clear cc_ hn_; rintro e w' ⟨rfl, ⟨nd, rfl⟩⟩))
            go_roundg k2
            case measure => have := HJ1.out; have := HK2.out; omega
            case rel => exact ⟨(wrap64 (x21_2 + 1)), (by first | rfl | (simp; done) | (simp [*]; done)), H', ⟨by have := HJ1.out; have := HK2.out; omega⟩, ⟨by (with_reducible repeat (first | refine blk_drewN ?_ _ | refine blk_drew ?_ | refine blk_alloc ?_ _)); exact BK230.out⟩, ⟨by repeat (first | (with_reducible first | exact HB.out | apply below_alloc | apply pw_below_drewN | apply below_drew1 | refine below_set ?_ GE230.out) | exact HB.out)⟩⟩
          ·rw [if_neg c15] at H
           exact absurd H (by simp)
         ·replace c13 := Bool.eq_false_iff.mpr c13
          subst c13
          have H1 : (some false) = some r := by rw [if_neg (show ¬ (false = true) by decide)] at H; exact H
          clear H
          have H := H1
          clear H1
          obtain rfl := Option.some.inj H
          have p231 : 0 ≤ (x21_2 : Int) := of_decide_eq_true (by first | (with_reducible assumption) | assumption)
          have q231 : x21_2 < (l0_2.length : Int) := of_decide_eq_true (by first | (with_reducible assumption) | assumption)
          obtain ⟨ad231, e231, hx231_0⟩ := Kd.at_int HR0_2.out x21_2 p231 q231
          cases e231
          replace hx231_0 := (HB.out.cell (World.block_lt_of_cell? w _ hx231_0)).trans hx231_0
          replace p231 := eq_true p231
          replace q231 := eq_true q231
          go_wp2_with (first | ((with_reducible refine gate_callee (f := 32) rfl ?_); refine goesL_ (some 27) rfl rfl Try.func32 (by kernel_rfl) rfl #[.int .i64 (rd l0_2 x21_2)] rfl (by (try simp only [List.map_toArray, List.map_cons, List.map_nil]); first | done | rfl | (simp only [List.length_drop, List.length_take]; rfl)) ?_; (with_reducible refine (impl_isDealer.calls (rd l0_2 x21_2) false _ A12.out).mono ?_); rintro e w' ⟨rfl, ⟨nd, rfl⟩⟩; refine ⟨_, rfl, ?_⟩))
          go_ret
          exact ⟨by first | rfl | (simp [errW_none, errW_some] <;> rfl) | (simp [*, errW_none, errW_some] <;> rfl), by repeat (first | (with_reducible first | exact HB.out | apply below_alloc | apply pw_below_drewN | apply below_drew1 | refine below_set ?_ GE230.out) | exact HB.out)⟩
        ·rw [if_neg c11] at H
         exact absurd H (by simp)
       ·rw [if_neg c10] at H
        exact absurd H (by simp)
      ·rw [if_neg c9] at H
       have c9b0 : decide (x21_2 < (l0_2.length : Int)) = false := decide_eq_false c9
       clear c9
       have H' := Aside0.mk H
       clear H
       have hcz22_0 : wr.cell? ⟨gb230, 0, none⟩ = some (.slice A0_0 l0_0.length c0_0) := (blk_cell BK230.out 0).trans rfl
       have hcz22_1 : wr.cell? ⟨gb230, 1, none⟩ = some (.slice A0_1 l0_1.length c0_1) := (blk_cell BK230.out 1).trans rfl
       have hcz22_2 : wr.cell? ⟨gb230, 2, none⟩ = some (.slice A0_2 l0_2.length c0_2) := (blk_cell BK230.out 2).trans rfl
       have hfz22_0 := blk_frozen BK230.out 0
       have hfz22_1 := blk_frozen BK230.out 1
       have hfz22_2 := blk_frozen BK230.out 2
       go_wp2
       go_loopg [41] k2 (fun kq v41 w' => ∃ (x41_3 : Int), v41 = .int .i64 x41_3 ∧ Aside0 (impl_GoodLocks.l1 kq l0_0 (l0_0.length : Int) x41_3 l0_0 l0_1 l0_2 = some r) ∧ Aside0 (kq ≤ k2) ∧ Aside0 (w'.heap[gb230]? = some (.cells #[(.slice A0_0 l0_0.length c0_0), (.slice A0_1 l0_1.length c0_1), (.slice A0_2 l0_2.length c0_2)] 25 (0, 0))) ∧ Aside0 (Below w.heap.size w w'))
       case atStart => exact ⟨(0), (by first | rfl | (simp; done) | (simp [*]; done)), H', ⟨Nat.le_refl _⟩, ⟨by (with_reducible repeat (first | refine blk_drewN ?_ _ | refine blk_drew ?_ | refine blk_alloc ?_ _)); exact BK230.out⟩, ⟨by repeat (first | (with_reducible first | exact HB.out | apply below_alloc | apply pw_below_drewN | apply below_drew1 | refine below_set ?_ GE230.out) | exact HB.out)⟩⟩
       case round =>
        clear H'
        try clear c1
        try clear p2
        try clear q2
        try clear hx2
        try clear c3
        try clear c4
        try clear c4b0
        try clear c4b1
        try clear p6
        try clear c7
        try clear c9
        try clear c9b0
        try clear c10
        try clear c10b0
        try clear c11
        try clear c11b0
        try clear c13
        try clear c14
        try clear c14b0
        try clear c15
        try clear c15b0
        try clear c15b1
        try clear c17
        try clear hcz18_0
        try clear hcz18_1
        try clear hcz18_2
        try clear hcz20_0
        try clear hcz20_1
        try clear hcz20_2
        try clear hcz22_0
        try clear hcz22_1
        try clear hcz22_2
        try clear hcz5_0
        try clear hcz5_1
        try clear hcz5_2
        try clear hcz6_0
        try clear hcz6_1
        try clear hcz6_2
        try clear hcz8_0
        try clear hcz8_1
        try clear hcz8_2
        try clear hfz18_0
        try clear hfz18_1
        try clear hfz18_2
        try clear hfz20_0
        try clear hfz20_1
        try clear hfz20_2
        try clear hfz22_0
        try clear hfz22_1
        try clear hfz22_2
        try clear hfz5_0
        try clear hfz5_1
        try clear hfz5_2
        try clear hfz6_0
        try clear hfz6_1
        try clear hfz6_2
        try clear hfz8_0
        try clear hfz8_1
        try clear hfz8_2
        try clear hx231_0
        try clear p2
        try clear p231
        try clear q231
        obtain ⟨x41_3, rfl, HA, HK3, BK230, HB⟩ := hrel
        cases gk with
        | zero => exact absurd HA.out (by simp [impl_GoodLocks.l1])
        | succ k3 =>
         have H := HA.out
         clear HA
         simp only [impl_GoodLocks.l1] at H
         by_cases c23 : x41_3 < (l0_0.length : Int)
         ·rw [if_pos c23] at H
          have c23b0 : decide (x41_3 < (l0_0.length : Int)) = true := decide_eq_true c23
          clear c23
          by_cases c24 : 0 ≤ x41_3
          ·rw [if_pos c24] at H
           have c24b0 : decide (0 ≤ x41_3) = true := decide_eq_true c24
           clear c24
           by_cases c25 : x41_3 < (l0_0.length : Int)
           ·rw [if_pos c25] at H
            have c25b0 : decide (x41_3 < (l0_0.length : Int)) = true := decide_eq_true c25
            clear c25
            by_cases c26 : x41_3 < (l0_1.length : Int)
            ·rw [if_pos c26] at H
             have c26b0 : decide (x41_3 < (l0_1.length : Int)) = true := decide_eq_true c26
             clear c26
             have HC27 := Aside0.mk H
             clear H
             have p235 : 0 ≤ (x41_3 : Int) := of_decide_eq_true (by first | (with_reducible assumption) | assumption)
             have q235 : x41_3 < (l0_0.length : Int) := of_decide_eq_true (by first | (with_reducible assumption) | assumption)
             obtain ⟨ad235, A235_0, c235_0, e235, hx235_0, hl235_0, hi235_0⟩ := at_L1 HR0_0.out x41_3 p235 q235
             cases e235
             replace hx235_0 := (HB.out.cell (World.block_lt_of_cell? w _ hx235_0)).trans hx235_0
             have HR235_0 := Aside0.mk hi235_0
             have HC235_0 := Aside0.mk hl235_0
             clear hi235_0 hl235_0
             replace p235 := eq_true p235
             replace q235 := eq_true q235
             have hcz28_0 : wr.cell? ⟨gb230, 0, none⟩ = some (.slice (some ad235) l0_0.length c0_0) := (blk_cell BK230.out 0).trans rfl
             have hcz28_1 : wr.cell? ⟨gb230, 1, none⟩ = some (.slice A0_1 l0_1.length c0_1) := (blk_cell BK230.out 1).trans rfl
             have hcz28_2 : wr.cell? ⟨gb230, 2, none⟩ = some (.slice A0_2 l0_2.length c0_2) := (blk_cell BK230.out 2).trans rfl
             have hfz28_0 := blk_frozen BK230.out 0
             have hfz28_1 := blk_frozen BK230.out 1
             have hfz28_2 := blk_frozen BK230.out 2
             have p236 : 0 ≤ (x41_3 : Int) := of_decide_eq_true (by first | (with_reducible assumption) | assumption)
             have q236 : x41_3 < (l0_1.length : Int) := of_decide_eq_true (by first | (with_reducible assumption) | assumption)
             obtain ⟨ad236, e236, hx236_0⟩ := Kd.at_int HR0_1.out x41_3 p236 q236
             cases e236
             replace hx236_0 := (HB.out.cell (World.block_lt_of_cell? w _ hx236_0)).trans hx236_0
             replace p236 := eq_true p236
             replace q236 := eq_true q236
             go_upto_region 13 with (fail)
             go_cut [74] (fun v74 wc => ∃ (kq : Nat) (x74_26 : Bool), v74 = .bool x74_26 ∧ Aside0 (impl_GoodLocks.j3 kq (rd_L1 l0_0 x41_3) (rd l0_1 x41_3) l0_0 (l0_0.length : Int) x41_3 x74_26 l0_0 l0_1 l0_2 = some r) ∧ Aside0 (kq ≤ k3) ∧ Aside0 (wc.heap[gb230]? = some (.cells #[(.slice (some ad235) l0_0.length c0_0), (.slice (some ad236) l0_1.length c0_1), (.slice A0_2 l0_2.length c0_2)] 25 (0, 0))) ∧ Aside0 (Below w.heap.size w wc))
             case first =>
              have H := HC27.out
              clear HC27
              replace H := Option.bind_eq_some_iff.mp H
              obtain ⟨t237, A290, H⟩ := H
              replace H : (if t237 = true then ((impl_within.f (rd l0_1 x41_3) (-1) 3).bind fun t238 => (if t238 = true then (if (rd l0_1 x41_3) ≥ 0 then (if ((rd_L1 l0_0 x41_3).length : Int) > 0 then ((slices_Equal_int_int.f k3 (rd_L1 l0_0 x41_3) (([rd l0_1 x41_3] : List Int))).bind fun t242 => (impl_GoodLocks.j3 k3 (rd_L1 l0_0 x41_3) (rd l0_1 x41_3) l0_0 (l0_0.length : Int) x41_3 (!t242) l0_0 l0_1 l0_2)) else (impl_GoodLocks.j3 k3 (rd_L1 l0_0 x41_3) (rd l0_1 x41_3) l0_0 (l0_0.length : Int) x41_3 false l0_0 l0_1 l0_2)) else (impl_GoodLocks.j3 k3 (rd_L1 l0_0 x41_3) (rd l0_1 x41_3) l0_0 (l0_0.length : Int) x41_3 false l0_0 l0_1 l0_2)) else (impl_GoodLocks.j3 k3 (rd_L1 l0_0 x41_3) (rd l0_1 x41_3) l0_0 (l0_0.length : Int) x41_3 true l0_0 l0_1 l0_2))) else (impl_GoodLocks.j3 k3 (rd_L1 l0_0 x41_3) (rd l0_1 x41_3) l0_0 (l0_0.length : Int) x41_3 true l0_0 l0_1 l0_2)) = some r := H
              have A29 := Aside0.mk A290
              clear A290
              by_cases c30 : t237 = true
              ·subst c30
               have H1 : ((impl_within.f (rd l0_1 x41_3) (-1) 3).bind fun t238 => (if t238 = true then (if (rd l0_1 x41_3) ≥ 0 then (if ((rd_L1 l0_0 x41_3).length : Int) > 0 then ((slices_Equal_int_int.f k3 (rd_L1 l0_0 x41_3) (([rd l0_1 x41_3] : List Int))).bind fun t242 => (impl_GoodLocks.j3 k3 (rd_L1 l0_0 x41_3) (rd l0_1 x41_3) l0_0 (l0_0.length : Int) x41_3 (!t242) l0_0 l0_1 l0_2)) else (impl_GoodLocks.j3 k3 (rd_L1 l0_0 x41_3) (rd l0_1 x41_3) l0_0 (l0_0.length : Int) x41_3 false l0_0 l0_1 l0_2)) else (impl_GoodLocks.j3 k3 (rd_L1 l0_0 x41_3) (rd l0_1 x41_3) l0_0 (l0_0.length : Int) x41_3 false l0_0 l0_1 l0_2)) else (impl_GoodLocks.j3 k3 (rd_L1 l0_0 x41_3) (rd l0_1 x41_3) l0_0 (l0_0.length : Int) x41_3 true l0_0 l0_1 l0_2))) = some r := by rw [if_pos rfl] at H; exact H
               clear H
               have H := H1
               clear H1
               replace H := Option.bind_eq_some_iff.mp H
               obtain ⟨t238, A310, H⟩ := H
               replace H : (if t238 = true then (if (rd l0_1 x41_3) ≥ 0 then (if ((rd_L1 l0_0 x41_3).length : Int) > 0 then ((slices_Equal_int_int.f k3 (rd_L1 l0_0 x41_3) (([rd l0_1 x41_3] : List Int))).bind fun t242 => (impl_GoodLocks.j3 k3 (rd_L1 l0_0 x41_3) (rd l0_1 x41_3) l0_0 (l0_0.length : Int) x41_3 (!t242) l0_0 l0_1 l0_2)) else (impl_GoodLocks.j3 k3 (rd_L1 l0_0 x41_3) (rd l0_1 x41_3) l0_0 (l0_0.length : Int) x41_3 false l0_0 l0_1 l0_2)) else (impl_GoodLocks.j3 k3 (rd_L1 l0_0 x41_3) (rd l0_1 x41_3) l0_0 (l0_0.length : Int) x41_3 false l0_0 l0_1 l0_2)) else (impl_GoodLocks.j3 k3 (rd_L1 l0_0 x41_3) (rd l0_1 x41_3) l0_0 (l0_0.length : Int) x41_3 true l0_0 l0_1 l0_2)) = some r := H
               have A31 := Aside0.mk A310
               clear A310
               by_cases c32 : t238 = true
               ·subst c32
                have H1 : (if (rd l0_1 x41_3) ≥ 0 then (if ((rd_L1 l0_0 x41_3).length : Int) > 0 then ((slices_Equal_int_int.f k3 (rd_L1 l0_0 x41_3) (([rd l0_1 x41_3] : List Int))).bind fun t242 => (impl_GoodLocks.j3 k3 (rd_L1 l0_0 x41_3) (rd l0_1 x41_3) l0_0 (l0_0.length : Int) x41_3 (!t242) l0_0 l0_1 l0_2)) else (impl_GoodLocks.j3 k3 (rd_L1 l0_0 x41_3) (rd l0_1 x41_3) l0_0 (l0_0.length : Int) x41_3 false l0_0 l0_1 l0_2)) else (impl_GoodLocks.j3 k3 (rd_L1 l0_0 x41_3) (rd l0_1 x41_3) l0_0 (l0_0.length : Int) x41_3 false l0_0 l0_1 l0_2)) = some r := by rw [if_pos rfl] at H; exact H
                clear H
                have H := H1
                clear H1
                by_cases c33 : (rd l0_1 x41_3) ≥ 0
                ·rw [if_pos c33] at H
                 have c33b0 : decide (0 ≤ (rd l0_1 x41_3)) = true := decide_eq_true c33
                 clear c33
                 (first | rw [c33b0] | (simp only [i64_w, i32_w]; rw [c33b0]) | skip)
                 by_cases c34 : ((rd_L1 l0_0 x41_3).length : Int) > 0
                 ·rw [if_pos c34] at H
                  have c34b0 : decide (0 < ((rd_L1 l0_0 x41_3).length : Int)) = true := decide_eq_true c34
                  have c34b1 : decide (0 < (rd_L1 l0_0 x41_3).length) = true := decide_eq_true (by omega)
                  clear c34
                  obtain ⟨y239, hy239⟩ : ∃ y_ : List Int, y_ = (([rd l0_1 x41_3] : List Int)) := ⟨_, rfl⟩
                  replace H : ((slices_Equal_int_int.f k3 (rd_L1 l0_0 x41_3) y239).bind fun t242 => (impl_GoodLocks.j3 k3 (rd_L1 l0_0 x41_3) (rd l0_1 x41_3) l0_0 (l0_0.length : Int) x41_3 (!t242) l0_0 l0_1 l0_2)) = some r := by first | (rw [hy239]; with_reducible exact H) | (have H2_ := (Option.bind_some _ _).symm.trans H; rw [hy239]; with_reducible exact H2_) | (have H2_ := (Option.bind_some _ _).symm.trans H; with_reducible exact H2_) | with_reducible exact H | (rw [hy239]; exact H) | exact H
                  have Ny239 := Aside0.mk hy239
                  clear hy239
                  replace H := Option.bind_eq_some_iff.mp H
                  obtain ⟨t242, A350, H⟩ := H
                  replace H : (impl_GoodLocks.j3 k3 (rd_L1 l0_0 x41_3) (rd l0_1 x41_3) l0_0 (l0_0.length : Int) x41_3 (!t242) l0_0 l0_1 l0_2) = some r := H
                  have A35 := Aside0.mk A350
                  clear A350
                  have H' := Aside0.mk H
                  clear H
                  go_wp2_with (first | ((with_reducible refine gate_callee (f := 41) rfl ?_); refine goesL_ (some 52) rfl rfl Try.func41 (by kernel_rfl) rfl #[.slice A235_0 (rd_L1 l0_0 x41_3).length c235_0, .int .i64 0, .int .i64 3] rfl (by (try simp only [List.map_toArray, List.map_cons, List.map_nil]); first | done | rfl | (simp only [List.length_drop, List.length_take]; rfl)) ?_; (with_reducible refine (impl_isRising.calls k3 _ _ (rd_L1 l0_0 x41_3) 0 3 true _ ?side1 ?side2 A29.out).mono ?_); (case side1 => repeat (first | exact (Kd.C_below HR235_0.out HB.out) | (with_reducible refine Kd.C_alloc ?_ _) | (with_reducible refine Kd.C_drewN ?_ _) | (with_reducible refine Kd.C_drew ?_))); (case side2 => exact HC235_0.out); rintro e w' ⟨rfl, ⟨nd, rfl⟩⟩; refine ⟨_, rfl, ?_⟩) | (go_at_call 42; (with_reducible refine (impl_within.calls (rd l0_1 x41_3) (-1) 3 true _ A31.out).mono ?_); rintro e w' ⟨rfl, ⟨nd, rfl⟩⟩) | ((with_reducible refine gate_dst (N := 70) rfl ?_); (try (refine gate_guard (by rfl) ?_; dsimp only)); refine Kd.R_lit (Kd.int .i64) _ 3 ?hg (N := 70) ?hd (xs := ([rd l0_1 x41_3] : List Int)) (inner := [.int .i64 (rd l0_1 x41_3)]) (ok := fun _ => True) (okp := fun _ => True) ?hr ?hp (fun _ hk => hk) trivial (Below.refl _ _) (Nat.le_refl _) (by simp) ?_; (case hd => rfl); (case hg => rfl); (case hr => first | (go_simp; done) | (go_simp; rfl)); (case hp => exact (Reps.one (show Kd.M (Kd.int .i64) _ _ _ (rd l0_1 x41_3) [.int .i64 (rd l0_1 x41_3)] from rfl) (Reps.none _ _))); intro v240 w36 ho37 hb hg_ hnew_; clear hg_ hnew_; (first | rw [← Ny239.out] at ho37 | (simp only [Int.reduceToNat] at ho37; rw [← Ny239.out] at ho37)); have n0_ := Aside0.mk (Kd.R_lower ho37 (below_size (by repeat (first | (with_reducible first | exact HB.out | apply below_alloc | apply pw_below_drewN | apply below_drew1 | refine below_set ?_ GE230.out) | exact HB.out)))); have n1_ := Aside0.mk (blk_below (g := gb230) (o := .cells #[.slice (some ad235) l0_0.length c0_0, .slice (some ad236) l0_1.length c0_1, .slice A0_2 l0_2.length c0_2] 25 (0, 0)) (by (with_reducible repeat (first | refine blk_drewN ?_ _ | refine blk_drew ?_ | refine blk_alloc ?_ _)); exact BK230.out) hb); have n2_ := Aside0.mk (below_step (by repeat (first | (with_reducible first | exact HB.out | apply below_alloc | apply pw_below_drewN | apply below_drew1 | refine below_set ?_ GE230.out) | exact HB.out)) hb); clear BK230; clear HB; have HO241 := n0_; have BK230 := n1_; have HB := n2_; clear n0_ n1_ n2_; clear hb ho37; obtain ⟨Ao38, co38, eo38⟩ := Kd.R_slice HO241.out; subst eo38) | (go_at_call 43; (with_reducible refine (slices_Equal_int_int.calls k3 _ _ (rd_L1 l0_0 x41_3) _ _ y239 t242 _ ?side1 ?side2 ?side3 ?side4 A35.out).mono ?_); (case side1 => repeat (first | exact (Kd.C_below HR235_0.out HB.out) | (with_reducible refine Kd.C_alloc ?_ _) | (with_reducible refine Kd.C_drewN ?_ _) | (with_reducible refine Kd.C_drew ?_))); (case side2 => exact HC235_0.out); (case side3 => repeat (first | exact (Kd.R_reads' HO241.out).2.2 | (with_reducible refine Kd.C_alloc ?_ _) | (with_reducible refine Kd.C_drewN ?_ _) | (with_reducible refine Kd.C_drew ?_))); (case side4 => exact (Kd.R_reads' HO241.out).2.1); rintro e w' ⟨rfl, ⟨nd, rfl⟩⟩))
                  go_meet
                  case rel => exact ⟨_, (!t242), (by first | rfl | (simp; done) | (simp [*]; done)), H', ⟨by have := HJ1.out; have := HK2.out; have := HK3.out; first | omega | exact Nat.le_refl _⟩, ⟨by (with_reducible repeat (first | refine blk_drewN ?_ _ | refine blk_drew ?_ | refine blk_alloc ?_ _)); exact BK230.out⟩, ⟨by repeat (first | (with_reducible first | exact HB.out | apply below_alloc | apply pw_below_drewN | apply below_drew1 | refine below_set ?_ GE230.out) | exact HB.out)⟩⟩
                 ·rw [if_neg c34] at H
                  have c34b0 : decide (0 < ((rd_L1 l0_0 x41_3).length : Int)) = false := decide_eq_false c34
                  have c34b1 : decide (0 < (rd_L1 l0_0 x41_3).length) = false := decide_eq_false (by omega)
                  clear c34
                  have H' := Aside0.mk H
                  clear H
                  go_wp2_with (first | ((with_reducible refine gate_callee (f := 41) rfl ?_); refine goesL_ (some 52) rfl rfl Try.func41 (by kernel_rfl) rfl #[.slice A235_0 (rd_L1 l0_0 x41_3).length c235_0, .int .i64 0, .int .i64 3] rfl (by (try simp only [List.map_toArray, List.map_cons, List.map_nil]); first | done | rfl | (simp only [List.length_drop, List.length_take]; rfl)) ?_; (with_reducible refine (impl_isRising.calls k3 _ _ (rd_L1 l0_0 x41_3) 0 3 true _ ?side1 ?side2 A29.out).mono ?_); (case side1 => repeat (first | exact (Kd.C_below HR235_0.out HB.out) | (with_reducible refine Kd.C_alloc ?_ _) | (with_reducible refine Kd.C_drewN ?_ _) | (with_reducible refine Kd.C_drew ?_))); (case side2 => exact HC235_0.out); rintro e w' ⟨rfl, ⟨nd, rfl⟩⟩; refine ⟨_, rfl, ?_⟩) | (go_at_call 42; (with_reducible refine (impl_within.calls (rd l0_1 x41_3) (-1) 3 true _ A31.out).mono ?_); rintro e w' ⟨rfl, ⟨nd, rfl⟩⟩))
                  go_meet
                  case rel => exact ⟨_, (false), (by first | rfl | (simp; done) | (simp [*]; done)), H', ⟨by have := HJ1.out; have := HK2.out; have := HK3.out; first | omega | exact Nat.le_refl _⟩, ⟨by (with_reducible repeat (first | refine blk_drewN ?_ _ | refine blk_drew ?_ | refine blk_alloc ?_ _)); exact BK230.out⟩, ⟨by repeat (first | (with_reducible first | exact HB.out | apply below_alloc | apply pw_below_drewN | apply below_drew1 | refine below_set ?_ GE230.out) | exact HB.out)⟩⟩
                ·rw [if_neg c33] at H
                 have c33b0 : decide (0 ≤ (rd l0_1 x41_3)) = false := decide_eq_false c33
                 clear c33
                 (first | rw [c33b0] | (simp only [i64_w, i32_w]; rw [c33b0]) | skip)
                 have H' := Aside0.mk H
                 clear H
                 go_wp2_with (first | ((with_reducible refine gate_callee (f := 41) rfl ?_); refine goesL_ (some 52) rfl rfl Try.func41 (by kernel_rfl) rfl #[.slice A235_0 (rd_L1 l0_0 x41_3).length c235_0, .int .i64 0, .int .i64 3] rfl (by (try simp only [List.map_toArray, List.map_cons, List.map_nil]); first | done | rfl | (simp only [List.length_drop, List.length_take]; rfl)) ?_; (with_reducible refine (impl_isRising.calls k3 _ _ (rd_L1 l0_0 x41_3) 0 3 true _ ?side1 ?side2 A29.out).mono ?_); (case side1 => repeat (first | exact (Kd.C_below HR235_0.out HB.out) | (with_reducible refine Kd.C_alloc ?_ _) | (with_reducible refine Kd.C_drewN ?_ _) | (with_reducible refine Kd.C_drew ?_))); (case side2 => exact HC235_0.out); rintro e w' ⟨rfl, ⟨nd, rfl⟩⟩; refine ⟨_, rfl, ?_⟩) | (go_at_call 42; (with_reducible refine (impl_within.calls (rd l0_1 x41_3) (-1) 3 true _ A31.out).mono ?_); rintro e w' ⟨rfl, ⟨nd, rfl⟩⟩))
                 go_meet
                 case rel => exact ⟨_, (false), (by first | rfl | (simp; done) | (simp [*]; done)), H', ⟨by have := HJ1.out; have := HK2.out; have := HK3.out; first | omega | exact Nat.le_refl _⟩, ⟨by (with_reducible repeat (first | refine blk_drewN ?_ _ | refine blk_drew ?_ | refine blk_alloc ?_ _)); exact BK230.out⟩, ⟨by repeat (first | (with_reducible first | exact HB.out | apply below_alloc | apply pw_below_drewN | apply below_drew1 | refine below_set ?_ GE230.out) | exact HB.out)⟩⟩
               ·replace c32 := Bool.eq_false_iff.mpr c32
                subst c32
                have H1 : (impl_GoodLocks.j3 k3 (rd_L1 l0_0 x41_3) (rd l0_1 x41_3) l0_0 (l0_0.length : Int) x41_3 true l0_0 l0_1 l0_2) = some r := by rw [if_neg (show ¬ (false = true) by decide)] at H; exact H
                clear H
                have H := H1
                clear H1
                have H' := Aside0.mk H
                clear H
                go_wp2_with (first | ((with_reducible refine gate_callee (f := 41) rfl ?_); refine goesL_ (some 52) rfl rfl Try.func41 (by kernel_rfl) rfl #[.slice A235_0 (rd_L1 l0_0 x41_3).length c235_0, .int .i64 0, .int .i64 3] rfl (by (try simp only [List.map_toArray, List.map_cons, List.map_nil]); first | done | rfl | (simp only [List.length_drop, List.length_take]; rfl)) ?_; (with_reducible refine (impl_isRising.calls k3 _ _ (rd_L1 l0_0 x41_3) 0 3 true _ ?side1 ?side2 A29.out).mono ?_); (case side1 => repeat (first | exact (Kd.C_below HR235_0.out HB.out) | (with_reducible refine Kd.C_alloc ?_ _) | (with_reducible refine Kd.C_drewN ?_ _) | (with_reducible refine Kd.C_drew ?_))); (case side2 => exact HC235_0.out); rintro e w' ⟨rfl, ⟨nd, rfl⟩⟩; refine ⟨_, rfl, ?_⟩) | (go_at_call 42; (with_reducible refine (impl_within.calls (rd l0_1 x41_3) (-1) 3 false _ A31.out).mono ?_); rintro e w' ⟨rfl, ⟨nd, rfl⟩⟩))
                go_meet
                case rel => exact ⟨_, (true), (by first | rfl | (simp; done) | (simp [*]; done)), H', ⟨by have := HJ1.out; have := HK2.out; have := HK3.out; first | omega | exact Nat.le_refl _⟩, ⟨by (with_reducible repeat (first | refine blk_drewN ?_ _ | refine blk_drew ?_ | refine blk_alloc ?_ _)); exact BK230.out⟩, ⟨by repeat (first | (with_reducible first | exact HB.out | apply below_alloc | apply pw_below_drewN | apply below_drew1 | refine below_set ?_ GE230.out) | exact HB.out)⟩⟩
              ·replace c30 := Bool.eq_false_iff.mpr c30
               subst c30
               have H1 : (impl_GoodLocks.j3 k3 (rd_L1 l0_0 x41_3) (rd l0_1 x41_3) l0_0 (l0_0.length : Int) x41_3 true l0_0 l0_1 l0_2) = some r := by rw [if_neg (show ¬ (false = true) by decide)] at H; exact H
               clear H
               have H := H1
               clear H1
               have H' := Aside0.mk H
               clear H
               go_wp2_with (first | ((with_reducible refine gate_callee (f := 41) rfl ?_); refine goesL_ (some 52) rfl rfl Try.func41 (by kernel_rfl) rfl #[.slice A235_0 (rd_L1 l0_0 x41_3).length c235_0, .int .i64 0, .int .i64 3] rfl (by (try simp only [List.map_toArray, List.map_cons, List.map_nil]); first | done | rfl | (simp only [List.length_drop, List.length_take]; rfl)) ?_; (with_reducible refine (impl_isRising.calls k3 _ _ (rd_L1 l0_0 x41_3) 0 3 false _ ?side1 ?side2 A29.out).mono ?_); (case side1 => repeat (first | exact (Kd.C_below HR235_0.out HB.out) | (with_reducible refine Kd.C_alloc ?_ _) | (with_reducible refine Kd.C_drewN ?_ _) | (with_reducible refine Kd.C_drew ?_))); (case side2 => exact HC235_0.out); rintro e w' ⟨rfl, ⟨nd, rfl⟩⟩; refine ⟨_, rfl, ?_⟩))
               go_meet
               case rel => exact ⟨_, (true), (by first | rfl | (simp; done) | (simp [*]; done)), H', ⟨by have := HJ1.out; have := HK2.out; have := HK3.out; first | omega | exact Nat.le_refl _⟩, ⟨by (with_reducible repeat (first | refine blk_drewN ?_ _ | refine blk_drew ?_ | refine blk_alloc ?_ _)); exact BK230.out⟩, ⟨by repeat (first | (with_reducible first | exact HB.out | apply below_alloc | apply pw_below_drewN | apply below_drew1 | refine below_set ?_ GE230.out) | exact HB.out)⟩⟩
             case rest =>
              clear HC27
              try clear c1
              try clear c2
              try clear p2
              try clear q2
              try clear hx2
              try clear c3
              try clear c4
              try clear c4b0
              try clear c4b1
              try clear p6
              try clear c7
              try clear c9
              try clear c9b0
              try clear c10
              try clear c10b0
              try clear c11
              try clear c11b0
              try clear c13
              try clear c14
              try clear c14b0
              try clear c15
              try clear c15b0
              try clear c15b1
              try clear c17
              try clear c23
              try clear c23b0
              try clear p23
              try clear q23
              try clear hx23
              try clear c24
              try clear c24b0
              try clear c25
              try clear c25b0
              try clear c26
              try clear c26b0
              try clear c30
              try clear c31
              try clear c32
              try clear c33
              try clear c33b0
              try clear c34
              try clear c34b0
              try clear c34b1
              try clear hcz18_0
              try clear hcz18_1
              try clear hcz18_2
              try clear hcz20_0
              try clear hcz20_1
              try clear hcz20_2
              try clear hcz22_0
              try clear hcz22_1
              try clear hcz22_2
              try clear hcz28_0
              try clear hcz28_1
              try clear hcz28_2
              try clear hcz5_0
              try clear hcz5_1
              try clear hcz5_2
              try clear hcz6_0
              try clear hcz6_1
              try clear hcz6_2
              try clear hcz8_0
              try clear hcz8_1
              try clear hcz8_2
              try clear hfz18_0
              try clear hfz18_1
              try clear hfz18_2
              try clear hfz20_0
              try clear hfz20_1
              try clear hfz20_2
              try clear hfz22_0
              try clear hfz22_1
              try clear hfz22_2
              try clear hfz28_0
              try clear hfz28_1
              try clear hfz28_2
              try clear hfz5_0
              try clear hfz5_1
              try clear hfz5_2
              try clear hfz6_0
              try clear hfz6_1
              try clear hfz6_2
              try clear hfz8_0
              try clear hfz8_1
              try clear hfz8_2
              try clear hx231_0
              try clear hx235_0
              try clear hx236_0
              try clear p2
              try clear p231
              try clear p235
              try clear p236
              try clear p6
              try clear q2
              try clear q231
              try clear q235
              try clear q236
              obtain ⟨kq, x74_26, rfl, HA, HJ26, BK230, HB⟩ := hcut
              cases kq with
              | zero => exact absurd HA.out (by simp [impl_GoodLocks.j3])
              | succ kj26 =>
               have H := HA.out
               clear HA
               simp only [impl_GoodLocks.j3] at H
               by_cases c39 : x74_26 = true
               ·subst c39
                have H1 : (some false) = some r := by rw [if_pos rfl] at H; exact H
                clear H
                have H := H1
                clear H1
                obtain rfl := Option.some.inj H
                go_wp2
                go_ret
                exact ⟨by first | rfl | (simp [errW_none, errW_some] <;> rfl) | (simp [*, errW_none, errW_some] <;> rfl), by repeat (first | (with_reducible first | exact HB.out | apply below_alloc | apply pw_below_drewN | apply below_drew1 | refine below_set ?_ GE230.out) | exact HB.out)⟩
               ·replace c39 := Bool.eq_false_iff.mpr c39
                subst c39
                have H1 : ((slices_Contains_int_int.f kj26 l0_2 (rd l0_1 x41_3)).bind fun t243 => (if t243 = true then (some false) else ((impl_both.f (rd_L1 l0_0 x41_3) l0_2).bind fun t244 => (if (t244.length : Int) > 0 then (some false) else (impl_GoodLocks.l1 kj26 l0_0 (l0_0.length : Int) (wrap64 (x41_3 + 1)) l0_0 l0_1 l0_2))))) = some r := by rw [if_neg (show ¬ (false = true) by decide)] at H; exact H
                clear H
                have H := H1
                clear H1
                replace H := Option.bind_eq_some_iff.mp H
                obtain ⟨t243, A400, H⟩ := H
                replace H : (if t243 = true then (some false) else ((impl_both.f (rd_L1 l0_0 x41_3) l0_2).bind fun t244 => (if (t244.length : Int) > 0 then (some false) else (impl_GoodLocks.l1 kj26 l0_0 (l0_0.length : Int) (wrap64 (x41_3 + 1)) l0_0 l0_1 l0_2)))) = some r := H
                have A40 := Aside0.mk A400
                clear A400
                by_cases c41 : t243 = true
                ·subst c41
                 have H1 : (some false) = some r := by rw [if_pos rfl] at H; exact H
                 clear H
                 have H := H1
                 clear H1
                 obtain rfl := Option.some.inj H
                 have hcz42_0 : wc.cell? ⟨gb230, 0, none⟩ = some (.slice (some ad235) l0_0.length c0_0) := (blk_cell BK230.out 0).trans rfl
                 have hcz42_1 : wc.cell? ⟨gb230, 1, none⟩ = some (.slice (some ad236) l0_1.length c0_1) := (blk_cell BK230.out 1).trans rfl
                 have hcz42_2 : wc.cell? ⟨gb230, 2, none⟩ = some (.slice A0_2 l0_2.length c0_2) := (blk_cell BK230.out 2).trans rfl
                 have hfz42_0 := blk_frozen BK230.out 0
                 have hfz42_1 := blk_frozen BK230.out 1
                 have hfz42_2 := blk_frozen BK230.out 2
                 go_wp2_with (first | ((with_reducible refine gate_callee (f := 33) rfl ?_); refine goesL_ (some 78) rfl rfl Try.func33 (by kernel_rfl) rfl #[.slice A0_2 l0_2.length c0_2, .int .i64 (rd l0_1 x41_3)] rfl (by (try simp only [List.map_toArray, List.map_cons, List.map_nil]); first | done | rfl | (simp only [List.length_drop, List.length_take]; rfl)) ?_; (with_reducible refine (slices_Contains_int_int.calls kj26 _ _ l0_2 (rd l0_1 x41_3) true _ ?side1 ?side2 A40.out).mono ?_); (case side1 => repeat (first | exact (Kd.C_below HR0_2.out HB.out) | (with_reducible refine Kd.C_alloc ?_ _) | (with_reducible refine Kd.C_drewN ?_ _) | (with_reducible refine Kd.C_drew ?_))); (case side2 => exact HC0_2.out); rintro e w' ⟨rfl, ⟨nd, rfl⟩⟩; refine ⟨_, rfl, ?_⟩))
                 go_ret
                 exact ⟨by first | rfl | (simp [errW_none, errW_some] <;> rfl) | (simp [*, errW_none, errW_some] <;> rfl), by repeat (first | (with_reducible first | exact HB.out | apply below_alloc | apply pw_below_drewN | apply below_drew1 | refine below_set ?_ GE230.out) | exact HB.out)⟩
                ·replace c41 := Bool.eq_false_iff.mpr c41
                 subst c41
                 have H1 : ((impl_both.f (rd_L1 l0_0 x41_3) l0_2).bind fun t244 => (if (t244.length : Int) > 0 then (some false) else (impl_GoodLocks.l1 kj26 l0_0 (l0_0.length : Int) (wrap64 (x41_3 + 1)) l0_0 l0_1 l0_2))) = some r := by rw [if_neg (show ¬ (false = true) by decide)] at H; exact H
                 clear H
                 have H := H1
                 clear H1
                 replace H := Option.bind_eq_some_iff.mp H
                 obtain ⟨t244, A430, H⟩ := H
                 replace H : (if (t244.length : Int) > 0 then (some false) else (impl_GoodLocks.l1 kj26 l0_0 (l0_0.length : Int) (wrap64 (x41_3 + 1)) l0_0 l0_1 l0_2)) = some r := H
                 have A43 := Aside0.mk A430
                 clear A430
                 by_cases c44 : (t244.length : Int) > 0
                 ·rw [if_pos c44] at H
                  have c44b0 : decide (0 < (t244.length : Int)) = true := decide_eq_true c44
                  have c44b1 : decide (0 < t244.length) = true := decide_eq_true (by omega)
                  clear c44
                  obtain rfl := Option.some.inj H
                  have hcz45_0 : wc.cell? ⟨gb230, 0, none⟩ = some (.slice (some ad235) l0_0.length c0_0) := (blk_cell BK230.out 0).trans rfl
                  have hcz45_1 : wc.cell? ⟨gb230, 1, none⟩ = some (.slice (some ad236) l0_1.length c0_1) := (blk_cell BK230.out 1).trans rfl
                  have hcz45_2 : wc.cell? ⟨gb230, 2, none⟩ = some (.slice A0_2 l0_2.length c0_2) := (blk_cell BK230.out 2).trans rfl
                  have hfz45_0 := blk_frozen BK230.out 0
                  have hfz45_1 := blk_frozen BK230.out 1
                  have hfz45_2 := blk_frozen BK230.out 2
                  go_wp2_with (first | ((with_reducible refine gate_callee (f := 33) rfl ?_); refine goesL_ (some 78) rfl rfl Try.func33 (by kernel_rfl) rfl #[.slice A0_2 l0_2.length c0_2, .int .i64 (rd l0_1 x41_3)] rfl (by (try simp only [List.map_toArray, List.map_cons, List.map_nil]); first | done | rfl | (simp only [List.length_drop, List.length_take]; rfl)) ?_; (with_reducible refine (slices_Contains_int_int.calls kj26 _ _ l0_2 (rd l0_1 x41_3) false _ ?side1 ?side2 A40.out).mono ?_); (case side1 => repeat (first | exact (Kd.C_below HR0_2.out HB.out) | (with_reducible refine Kd.C_alloc ?_ _) | (with_reducible refine Kd.C_drewN ?_ _) | (with_reducible refine Kd.C_drew ?_))); (case side2 => exact HC0_2.out); rintro e w' ⟨rfl, ⟨nd, rfl⟩⟩; refine ⟨_, rfl, ?_⟩) | (go_at_call 44; (with_reducible refine (impl_both.calls _ _ (rd_L1 l0_0 x41_3) _ _ l0_2 t244 _ ?side1 ?side2 ?side3 ?side4 A43.out).mono ?_); (case side1 => repeat (first | exact (Kd.C_below HR235_0.out (by repeat (first | (with_reducible first | exact HB.out | apply below_alloc | apply pw_below_drewN | apply below_drew1 | refine below_set ?_ GE230.out) | exact HB.out))) | (with_reducible refine Kd.C_alloc ?_ _) | (with_reducible refine Kd.C_drewN ?_ _) | (with_reducible refine Kd.C_drew ?_))); (case side2 => exact HC235_0.out); (case side3 => repeat (first | exact (Kd.C_below HR0_2.out (by repeat (first | (with_reducible first | exact HB.out | apply below_alloc | apply pw_below_drewN | apply below_drew1 | refine below_set ?_ GE230.out) | exact HB.out))) | (with_reducible refine Kd.C_alloc ?_ _) | (with_reducible refine Kd.C_drewN ?_ _) | (with_reducible refine Kd.C_drew ?_))); (case side4 => exact HC0_2.out); rintro e w46 ⟨v245, rfl, ho0, hb⟩; have n0_ := Aside0.mk (Kd.R_lower ho0 (below_size (by repeat (first | (with_reducible first | exact HB.out | apply below_alloc | apply pw_below_drewN | apply below_drew1 | refine below_set ?_ GE230.out) | exact HB.out)))); have n1_ := Aside0.mk (blk_below (g := gb230) (o := .cells #[.slice (some ad235) l0_0.length c0_0, .slice (some ad236) l0_1.length c0_1, .slice A0_2 l0_2.length c0_2] 25 (0, 0)) (by (with_reducible repeat (first | refine blk_drewN ?_ _ | refine blk_drew ?_ | refine blk_alloc ?_ _)); exact BK230.out) hb); have n2_ := Aside0.mk (below_step (by repeat (first | (with_reducible first | exact HB.out | apply below_alloc | apply pw_below_drewN | apply below_drew1 | refine below_set ?_ GE230.out) | exact HB.out)) hb); clear BK230; clear HB; have HO246 := n0_; have BK230 := n1_; have HB := n2_; clear n0_ n1_ n2_; (try clear hb); (try clear hb2); (try clear hk); (try clear hi); (try clear ho0); obtain ⟨Ao47, co47, eo47⟩ := Kd.R_slice HO246.out; subst eo47))
                  go_ret
                  exact ⟨by first | rfl | (simp [errW_none, errW_some] <;> rfl) | (simp [*, errW_none, errW_some] <;> rfl), by repeat (first | (with_reducible first | exact HB.out | apply below_alloc | apply pw_below_drewN | apply below_drew1 | refine below_set ?_ GE230.out) | exact HB.out)⟩
                 ·rw [if_neg c44] at H
                  have c44b0 : decide (0 < (t244.length : Int)) = false := decide_eq_false c44
                  have c44b1 : decide (0 < t244.length) = false := decide_eq_false (by omega)
                  clear c44
                  have H' := Aside0.mk H
                  clear H
                  have hcz48_0 : wc.cell? ⟨gb230, 0, none⟩ = some (.slice (some ad235) l0_0.length c0_0) := (blk_cell BK230.out 0).trans rfl
                  have hcz48_1 : wc.cell? ⟨gb230, 1, none⟩ = some (.slice (some ad236) l0_1.length c0_1) := (blk_cell BK230.out 1).trans rfl
                  have hcz48_2 : wc.cell? ⟨gb230, 2, none⟩ = some (.slice A0_2 l0_2.length c0_2) := (blk_cell BK230.out 2).trans rfl
                  have hfz48_0 := blk_frozen BK230.out 0
                  have hfz48_1 := blk_frozen BK230.out 1
                  have hfz48_2 := blk_frozen BK230.out 2
                  go_wp2_with (first | ((with_reducible refine gate_callee (f := 33) rfl ?_); refine goesL_ (some 78) rfl rfl Try.func33 (by kernel_rfl) rfl #[.slice A0_2 l0_2.length c0_2, .int .i64 (rd l0_1 x41_3)] rfl (by (try simp only [List.map_toArray, List.map_cons, List.map_nil]); first | done | rfl | (simp only [List.length_drop, List.length_take]; rfl)) ?_; (with_reducible refine (slices_Contains_int_int.calls kj26 _ _ l0_2 (rd l0_1 x41_3) false _ ?side1 ?side2 A40.out).mono ?_); (case side1 => repeat (first | exact (Kd.C_below HR0_2.out HB.out) | (with_reducible refine Kd.C_alloc ?_ _) | (with_reducible refine Kd.C_drewN ?_ _) | (with_reducible refine Kd.C_drew ?_))); (case side2 => exact HC0_2.out); rintro e w' ⟨rfl, ⟨nd, rfl⟩⟩; refine ⟨_, rfl, ?_⟩) | (go_at_call 44; (with_reducible refine (impl_both.calls _ _ (rd_L1 l0_0 x41_3) _ _ l0_2 t244 _ ?side1 ?side2 ?side3 ?side4 A43.out).mono ?_); (case side1 => repeat (first | exact (Kd.C_below HR235_0.out (by repeat (first | (with_reducible first | exact HB.out | apply below_alloc | apply pw_below_drewN | apply below_drew1 | refine below_set ?_ GE230.out) | exact HB.out))) | (with_reducible refine Kd.C_alloc ?_ _) | (with_reducible refine Kd.C_drewN ?_ _) | (with_reducible refine Kd.C_drew ?_))); (case side2 => exact HC235_0.out); (case side3 => repeat (first | exact (Kd.C_below HR0_2.out (by repeat (first | (with_reducible first | exact HB.out | apply below_alloc | apply pw_below_drewN | apply below_drew1 | refine below_set ?_ GE230.out) | exact HB.out))) | (with_reducible refine Kd.C_alloc ?_ _) | (with_reducible refine Kd.C_drewN ?_ _) | (with_reducible refine Kd.C_drew ?_))); (case side4 => exact HC0_2.out); rintro e w49 ⟨v245, rfl, ho0, hb⟩; have n0_ := Aside0.mk (Kd.R_lower ho0 (below_size (by repeat (first | (with_reducible first | exact HB.out | apply below_alloc | apply pw_below_drewN | apply below_drew1 | refine below_set ?_ GE230.out) | exact HB.out)))); have n1_ := Aside0.mk (blk_below (g := gb230) (o := .cells #[.slice (some ad235) l0_0.length c0_0, .slice (some ad236) l0_1.length c0_1, .slice A0_2 l0_2.length c0_2] 25 (0, 0)) (by (with_reducible repeat (first | refine blk_drewN ?_ _ | refine blk_drew ?_ | refine blk_alloc ?_ _)); exact BK230.out) hb); have n2_ := Aside0.mk (below_step (by repeat (first | (with_reducible first | exact HB.out | apply below_alloc | apply pw_below_drewN | apply below_drew1 | refine below_set ?_ GE230.out) | exact HB.out)) hb); clear BK230; clear HB; have HO246 := n0_; have BK230 := n1_; have HB := n2_; clear n0_ n1_ n2_; (try clear hb); (try clear hb2); (try clear hk); (try clear hi); (try clear ho0); obtain ⟨Ao50, co50, eo50⟩ := Kd.R_slice HO246.out; subst eo50))
                  go_roundg kj26
                  case measure => have := HJ1.out; have := HK2.out; have := HK3.out; have := HJ26.out; omega
                  case rel => exact ⟨(wrap64 (x41_3 + 1)), (by first | rfl | (simp; done) | (simp [*]; done)), H', ⟨by have := HJ1.out; have := HK2.out; have := HK3.out; have := HJ26.out; omega⟩, ⟨by (with_reducible repeat (first | refine blk_drewN ?_ _ | refine blk_drew ?_ | refine blk_alloc ?_ _)); exact BK230.out⟩, ⟨by repeat (first | (with_reducible first | exact HB.out | apply below_alloc | apply pw_below_drewN | apply below_drew1 | refine below_set ?_ GE230.out) | exact HB.out)⟩⟩
            ·rw [if_neg c26] at H
             exact absurd H (by simp)
           ·rw [if_neg c25] at H
            exact absurd H (by simp)
          ·rw [if_neg c24] at H
           exact absurd H (by simp)
         ·rw [if_neg c23] at H
          have c23b0 : decide (x41_3 < (l0_0.length : Int)) = false := decide_eq_false c23
          clear c23
          obtain rfl := Option.some.inj H
          go_wp2
          go_ret
          exact ⟨by first | rfl | (simp [errW_none, errW_some] <;> rfl) | (simp [*, errW_none, errW_some] <;> rfl), by repeat (first | (with_reducible first | exact HB.out | apply below_alloc | apply pw_below_drewN | apply below_drew1 | refine below_set ?_ GE230.out) | exact HB.out)⟩

end Go.Proofs.Ytlknbopddalinaa.Pr
