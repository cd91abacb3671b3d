-- Written by xprint.py (a program of this session, over the kit's print). Not trusted: Lean checks it.
import Derived.Test.YtmimoaecdjkciaaPr0
import Derived.Test.YtmimoaecdjkciaaPr1
import Derived.Test.YtmimoaecdjkciaaPr4
import Derived.Test.YtmimoaecdjkciaaEBoth
import Derived.Test.YtmimoaecdjkciaaERelated
import Derived.Test.YtmimoaecdjkciaaETogether
namespace Go.Proofs.Ytmimoaecdjkciaa.Pr
open Go.RowKit Go.Proofs.YtmimoaecdjkciaaW.PrintWords Go.Proofs.YtmimoaecdjkciaaW.PrintLast Go.Proofs.YtmimoaecdjkciaaW.PrintMore
attribute [local go_sem] max2_int min2_int max_two min_two max_three min_three max_four min_four   -- for this text's walks alone
set_option linter.unusedVariables false
set_option linter.unusedSimpArgs false

-- EXTERN impl_together: in the text YtmimoaecdjkciaaETogether

/-! ### impl_JoinTwo: function 12 -/
mutual
def impl_JoinTwo.j0 : Nat → Bool → List Int → List (List Int) → List Int → List (List Int) → Option (List Int × (List (List Int)) × Bool)
 | 0, _, _, _, _, _ => none
 | k + 1, x24, x567000, x567001, x568000, x568001 => if x24 = true then (some (([] : List Int), ([] : List (List Int)), false)) else ((impl_both.f x567000 x568000).bind fun t571 => ((impl_together.f x567000 x568000).bind fun t574 => (impl_JoinTwo.l0 k t571 t574 (([] : List (List Int))) x567001 (x567001.length : Int) 0 x567000 x567001 x568000 x568001)))
def impl_JoinTwo.l0 : Nat → List Int → List Int → List (List Int) → List (List Int) → Int → Int → List Int → List (List Int) → List Int → List (List Int) → Option (List Int × (List (List Int)) × Bool)
 | 0, _, _, _, _, _, _, _, _, _, _ => none
 | k + 1, x6, x7, x8, x38, x39, x40, x567000, x567001, x568000, x568001 => if x40 < x39 then (if 0 ≤ x40 then (if x40 < (x38.length : Int) then (impl_JoinTwo.l1 k x6 x7 x8 (rd_L1 x38 x40) x38 x39 x40 x568001 (x568001.length : Int) 0 x567000 x567001 x568000 x568001) else (none)) else (none)) else ((impl_related.f x7 x8).bind fun bt580 => (some (bt580.1, bt580.2.1, bt580.2.2)))
def impl_JoinTwo.l1 : Nat → List Int → List Int → List (List Int) → List Int → List (List Int) → Int → Int → List (List Int) → Int → Int → List Int → List (List Int) → List Int → List (List Int) → Option (List Int × (List (List Int)) × Bool)
 | 0, _, _, _, _, _, _, _, _, _, _, _, _, _, _ => none
 | k + 1, x6, x7, x8, x10, x38, x39, x40, x45, x46, x47, x567000, x567001, x568000, x568001 => if x47 < x46 then (if 0 ≤ x47 then (if x47 < (x45.length : Int) then ((impl_under.f k x567000 x10 x6).bind fun t589 => ((impl_under.f k x568000 (rd_L1 x45 x47) x6).bind fun t592 => ((slices_Equal_int_int.f k t589 t592).bind fun t595 => (if t595 = true then (impl_JoinTwo.l2 k x6 x7 x8 x10 (rd_L1 x45 x47) (([] : List Int)) x38 x39 x40 x45 x46 x47 x7 (x7.length : Int) 0 x567000 x567001 x568000 x568001) else (impl_JoinTwo.l1 k x6 x7 x8 x10 x38 x39 x40 x45 x46 (wrap64 (x47 + 1)) x567000 x567001 x568000 x568001))))) else (none)) else (none)) else (impl_JoinTwo.l0 k x6 x7 x8 x38 x39 (wrap64 (x40 + 1)) x567000 x567001 x568000 x568001)
def impl_JoinTwo.l2 : Nat → List Int → List Int → List (List Int) → List Int → List Int → List Int → List (List Int) → Int → Int → List (List Int) → Int → Int → List Int → Int → Int → List Int → List (List Int) → List Int → List (List Int) → Option (List Int × (List (List Int)) × Bool)
 | 0, _, _, _, _, _, _, _, _, _, _, _, _, _, _, _, _, _, _, _ => none
 | k + 1, x6, x7, x8, x10, x12, x13, x38, x39, x40, x45, x46, x47, x64, x65, x66, x567000, x567001, x568000, x568001 => if x66 < x65 then (if 0 ≤ x66 then (if x66 < (x64.length : Int) then ((slices_Index_int_int.f k x567000 (rd x64 x66)).bind fun t603 => (if t603 ≥ 0 then (if 0 ≤ t603 then (if t603 < (x10.length : Int) then (if x13.length < 17592186044416 then (impl_JoinTwo.l2 k x6 x7 x8 x10 x12 (x13 ++ [rd x10 t603]) x38 x39 x40 x45 x46 x47 x64 x65 (wrap64 (x66 + 1)) x567000 x567001 x568000 x568001) else (none)) else (none)) else (none)) else ((slices_Index_int_int.f k x568000 (rd x64 x66)).bind fun t608 => (if 0 ≤ t608 then (if t608 < (x12.length : Int) then (if x13.length < 17592186044416 then (impl_JoinTwo.l2 k x6 x7 x8 x10 x12 (x13 ++ [rd x12 t608]) x38 x39 x40 x45 x46 x47 x64 x65 (wrap64 (x66 + 1)) x567000 x567001 x568000 x568001) else (none)) else (none)) else (none))))) else (none)) else (none)) else (if x8.length < 5864062014805 then (impl_JoinTwo.l1 k x6 x7 (x8 ++ [x13]) x10 x38 x39 x40 x45 x46 (wrap64 (x47 + 1)) x567000 x567001 x568000 x568001) else (none))
end
def impl_JoinTwo.f (k : Nat) (l0_0 : List Int) (l0_1 : List (List Int)) (l1_0 : List Int) (l1_1 : List (List Int)) : Option (List Int × (List (List Int)) × Bool) := (impl_GoodRelation.f k l0_0 l0_1).bind fun t569 => (if t569 = true then ((impl_GoodRelation.f k l1_0 l1_1).bind fun t570 => (impl_JoinTwo.j0 k (!t570) l0_0 l0_1 l1_0 l1_1)) else (impl_JoinTwo.j0 k true l0_0 l0_1 l1_0 l1_1))
def impl_JoinTwo.T3 : Bool × List (List Nat × List Nat) := (true, [([], []), ([0], [0]), ([], []), ([2], [2]), ([1, 3], [1, 3]), ([], []), ([5], [5]), ([], []), ([7], [7]), ([6, 8, 4], [6, 8]), ([], []), ([4, 9, 0, 1, 2, 3, 4], [4]), ([9, 11, 0, 1, 2, 3, 4, 5, 6, 7, 8, 9, 11], [9]), ([10, 12, 0, 1, 2, 3, 4, 5, 6, 7, 8, 9, 10, 11, 12], [10])])
def impl_JoinTwo.B3 : List Nat := [0, 1, 0, 4, 15, 0, 32, 0, 128, 511, 0, 1023, 3071, 8191]
theorem impl_JoinTwo.tab3 : rtab .any (opsOf Try.f12 3) = impl_JoinTwo.T3 := by kernel_rfl
theorem impl_JoinTwo.bits3 : waitsOk impl_JoinTwo.T3.2 impl_JoinTwo.B3 = true := by kernel_rfl
def impl_JoinTwo.T10 : Bool × List (List Nat × List Nat) := (true, [([], []), ([0], [0]), ([], []), ([], []), ([1, 2, 3], [1, 2, 3]), ([], []), ([5], [5]), ([], []), ([], []), ([6, 7, 8, 4], [6, 7, 8]), ([4, 9, 9], [4, 9]), ([10], [10])])
def impl_JoinTwo.B10 : List Nat := [0, 1, 0, 0, 15, 0, 32, 0, 0, 511, 1023, 2047]
theorem impl_JoinTwo.tab10 : rtab .any (opsOf Try.f12 10) = impl_JoinTwo.T10 := by kernel_rfl
theorem impl_JoinTwo.bits10 : waitsOk impl_JoinTwo.T10.2 impl_JoinTwo.B10 = true := by kernel_rfl
set_option maxHeartbeats 8000000 in
set_option maxRecDepth 100000 in
theorem impl_JoinTwo.calls (k : Nat) (A0_0 : Option Addr) (c0_0 : Nat) (l0_0 : List Int) (A0_1 : Option Addr) (c0_1 : Nat) (l0_1 : List (List Int)) (A1_0 : Option Addr) (c1_0 : Nat) (l1_0 : List Int) (A1_1 : Option Addr) (c1_1 : Nat) (l1_1 : List (List Int)) (r1 : List Int) (r2 : List (List Int)) (r3 : Bool) (w : World) (hr0_0 : Kd.C (Kd.int .i64) w A0_0 l0_0.length l0_0) (hc0_0 : l0_0.length ≤ c0_0) (hr0_1 : Kd.C (Kd.slice 3 (Kd.int .i64)) w A0_1 l0_1.length l0_1) (hc0_1 : l0_1.length ≤ c0_1) (hr1_0 : Kd.C (Kd.int .i64) w A1_0 l1_0.length l1_0) (hc1_0 : l1_0.length ≤ c1_0) (hr1_1 : Kd.C (Kd.slice 3 (Kd.int .i64)) w A1_1 l1_1.length l1_1) (hc1_1 : l1_1.length ≤ c1_1) (h : impl_JoinTwo.f k l0_0 l0_1 l1_0 l1_1 = some (r1, r2, r3)) :
  Calls Try.prog 12 #[.agg #[.slice A0_0 l0_0.length c0_0, .slice A0_1 l0_1.length c0_1], .agg #[.slice A1_0 l1_0.length c1_0, .slice A1_1 l1_1.length c1_1]] w fun e w' => ∃ v0_ v1_ : Value, e = .returned (.tuple #[.agg #[v0_, v1_], .bool r3]) ∧ Kd.R (Kd.int .i64) 3 w' w.heap.size (fun _ => True) v0_ r1 ∧ Kd.S (Kd.slice 3 (Kd.int .i64)) 22 w' w.heap.size (fun k_ => some k_ ≠ (v0_ : Value).ownBlock) v1_ r2 ∧ Below w.heap.size w w' := by
 have hu27 := Try.underlying27
 have HR0_0 := Aside0.mk hr0_0
 have HC0_0 := Aside0.mk hc0_0
 clear hr0_0 hc0_0
 have HR0_1 := Aside0.mk hr0_1
 have HC0_1 := Aside0.mk hc0_1
 clear hr0_1 hc0_1
 have HR1_0 := Aside0.mk hr1_0
 have HC1_0 := Aside0.mk hc1_0
 clear hr1_0 hc1_0
 have HR1_1 := Aside0.mk hr1_1
 have HC1_1 := Aside0.mk hc1_1
 clear hr1_1 hc1_1
 have HB := Aside0.mk (Below.refl w.heap.size w)
 have H : ((impl_GoodRelation.f k l0_0 l0_1).bind fun t569 => (if t569 = true then ((impl_GoodRelation.f k l1_0 l1_1).bind fun t570 => (impl_JoinTwo.j0 k (!t570) l0_0 l0_1 l1_0 l1_1)) else (impl_JoinTwo.j0 k true l0_0 l0_1 l1_0 l1_1))) = some (r1, r2, r3) := h
 clear h
 have HC3 := Aside0.mk H
 clear H
 go_enter Try.func12, Try.ntmps12
 go_upto_region 1 with (first | ((with_reducible refine gate_dst (N := 2) rfl ?_); refine box_event ?hg (N := 2) ?hd (cs := #[.slice A0_0 l0_0.length c0_0, .slice A0_1 l0_1.length c0_1]) (t := 27) ?hr ?_; (case hd => rfl); (case hg => rfl); (case hr => first | (go_simp; done) | (go_simp; rfl)); intro gb566 hg w4 hbox hb; have n0_ := Aside0.mk (below_step (by repeat (first | exact HB.out | apply below_alloc | apply pw_below_drewN | apply below_drew1)) hb); have n1_ := Aside0.mk (hbox); have n2_ := Aside0.mk ((by rw [hg]; exact (below_size (by repeat (first | exact HB.out | apply below_alloc | apply pw_below_drewN | apply below_drew1))) : w.heap.size ≤ gb566)); have n3_ := Aside0.mk ((by rw [hg]; exact (below_size (by repeat (first | exact HB.out | apply below_alloc | apply pw_below_drewN | apply below_drew1))) : w.heap.size ≤ gb566)); clear HB; have HB := n0_; have BK566 := n1_; have GW566 := n2_; have GE566 := n3_; clear n0_ n1_ n2_ n3_; clear hb hbox hg) | ((with_reducible refine gate_dst (N := 3) rfl ?_); refine box_event ?hg (N := 3) ?hd (cs := #[.slice A1_0 l1_0.length c1_0, .slice A1_1 l1_1.length c1_1]) (t := 27) ?hr ?_; (case hd => rfl); (case hg => rfl); (case hr => first | (go_simp; done) | (go_simp; rfl)); intro gb567 hg w5 hbox hb; have n0_ := Aside0.mk (blk_below (g := gb566) (o := .cells #[.slice A0_0 l0_0.length c0_0, .slice A0_1 l0_1.length c0_1] 27 (0, 0)) (by (with_reducible repeat (first | refine blk_drewN ?_ _ | refine blk_drew ?_ | refine blk_alloc ?_ _)); exact BK566.out) hb); have n1_ := Aside0.mk (below_step (by repeat (first | exact HB.out | apply below_alloc | apply pw_below_drewN | apply below_drew1 | refine below_set ?_ GE566.out)) hb); have n2_ := Aside0.mk (hbox); have n3_ := Aside0.mk ((by rw [hg]; exact (below_size (by repeat (first | exact HB.out | apply below_alloc | apply pw_below_drewN | apply below_drew1 | refine below_set ?_ GE566.out))) : w.heap.size ≤ gb567)); have n4_ := Aside0.mk ((by rw [hg]; exact (below_size (by repeat (first | exact HB.out | apply below_alloc | apply pw_below_drewN | apply below_drew1 | refine below_set ?_ GE566.out))) : w.heap.size ≤ gb567)); have n5_ := Aside0.mk ((by rw [hg]; exact Nat.ne_of_lt (blk_lt (g := gb566) (o := .cells #[.slice A0_0 l0_0.length c0_0, .slice A0_1 l0_1.length c0_1] 27 (0, 0)) (by (with_reducible repeat (first | refine blk_drewN ?_ _ | refine blk_drew ?_ | refine blk_alloc ?_ _)); exact BK566.out)) : gb566 ≠ gb567)); have n6_ := Aside0.mk ((by rw [hg]; exact Nat.ne_of_gt (blk_lt (g := gb566) (o := .cells #[.slice A0_0 l0_0.length c0_0, .slice A0_1 l0_1.length c0_1] 27 (0, 0)) (by (with_reducible repeat (first | refine blk_drewN ?_ _ | refine blk_drew ?_ | refine blk_alloc ?_ _)); exact BK566.out)) : gb567 ≠ gb566)); clear BK566; clear HB; have BK566 := n0_; have HB := n1_; have BK567 := n2_; have GW567 := n3_; have GE567 := n4_; have NB566_567 := n5_; have NB567_566 := n6_; clear n0_ n1_ n2_ n3_ n4_ n5_ n6_; clear hb hbox hg) | ((with_reducible refine gate_dst (N := 4) rfl ?_); refine box_event ?hg (N := 4) ?hd (cs := #[.slice none 0 0, .slice none 0 0]) (t := 27) ?hr ?_; (case hd => rfl); (case hg => rfl); (case hr => first | (go_simp; done) | (go_simp; rfl)); intro gb568 hg w6 hbox hb; have n0_ := Aside0.mk (blk_below (g := gb566) (o := .cells #[.slice A0_0 l0_0.length c0_0, .slice A0_1 l0_1.length c0_1] 27 (0, 0)) (by (with_reducible repeat (first | refine blk_drewN ?_ _ | refine blk_drew ?_ | refine blk_alloc ?_ _)); exact BK566.out) hb); have n1_ := Aside0.mk (blk_below (g := gb567) (o := .cells #[.slice A1_0 l1_0.length c1_0, .slice A1_1 l1_1.length c1_1] 27 (0, 0)) (by (with_reducible repeat (first | refine blk_drewN ?_ _ | refine blk_drew ?_ | refine blk_alloc ?_ _)); exact BK567.out) hb); have n2_ := Aside0.mk (below_step (by repeat (first | exact HB.out | apply below_alloc | apply pw_below_drewN | apply below_drew1 | refine below_set ?_ GE566.out | refine below_set ?_ GE567.out)) hb); have n3_ := Aside0.mk (hbox); have n4_ := Aside0.mk ((by rw [hg]; exact (below_size (by repeat (first | exact HB.out | apply below_alloc | apply pw_below_drewN | apply below_drew1 | refine below_set ?_ GE566.out | refine below_set ?_ GE567.out))) : w.heap.size ≤ gb568)); have n5_ := Aside0.mk ((by rw [hg]; exact (below_size (by repeat (first | exact HB.out | apply below_alloc | apply pw_below_drewN | apply below_drew1 | refine below_set ?_ GE566.out | refine below_set ?_ GE567.out))) : w.heap.size ≤ gb568)); have n6_ := Aside0.mk ((by rw [hg]; exact Nat.ne_of_lt (blk_lt (g := gb566) (o := .cells #[.slice A0_0 l0_0.length c0_0, .slice A0_1 l0_1.length c0_1] 27 (0, 0)) (by (with_reducible repeat (first | refine blk_drewN ?_ _ | refine blk_drew ?_ | refine blk_alloc ?_ _)); exact BK566.out)) : gb566 ≠ gb568)); have n7_ := Aside0.mk ((by rw [hg]; exact Nat.ne_of_gt (blk_lt (g := gb566) (o := .cells #[.slice A0_0 l0_0.length c0_0, .slice A0_1 l0_1.length c0_1] 27 (0, 0)) (by (with_reducible repeat (first | refine blk_drewN ?_ _ | refine blk_drew ?_ | refine blk_alloc ?_ _)); exact BK566.out)) : gb568 ≠ gb566)); have n8_ := Aside0.mk ((by rw [hg]; exact Nat.ne_of_lt (blk_lt (g := gb567) (o := .cells #[.slice A1_0 l1_0.length c1_0, .slice A1_1 l1_1.length c1_1] 27 (0, 0)) (by (with_reducible repeat (first | refine blk_drewN ?_ _ | refine blk_drew ?_ | refine blk_alloc ?_ _)); exact BK567.out)) : gb567 ≠ gb568)); have n9_ := Aside0.mk ((by rw [hg]; exact Nat.ne_of_gt (blk_lt (g := gb567) (o := .cells #[.slice A1_0 l1_0.length c1_0, .slice A1_1 l1_1.length c1_1] 27 (0, 0)) (by (with_reducible repeat (first | refine blk_drewN ?_ _ | refine blk_drew ?_ | refine blk_alloc ?_ _)); exact BK567.out)) : gb568 ≠ gb567)); clear BK566; clear BK567; clear HB; have BK566 := n0_; have BK567 := n1_; have HB := n2_; have BK568 := n3_; have GW568 := n4_; have GE568 := n5_; have NB566_568 := n6_; have NB568_566 := n7_; have NB567_568 := n8_; have NB568_567 := n9_; clear n0_ n1_ n2_ n3_ n4_ n5_ n6_ n7_ n8_ n9_; clear hb hbox hg))
 (try simp only [Act.put, List.setIfInBounds_toArray, List.set_cons_zero, List.set_cons_succ])
 go_cut [24] (fun v24 wc => ∃ (kq : Nat) (x24_2 : Bool), v24 = .bool x24_2 ∧ Aside0 (impl_JoinTwo.j0 kq x24_2 l0_0 l0_1 l1_0 l1_1 = some (r1, r2, r3)) ∧ Aside0 (kq ≤ k) ∧ Aside0 (wc.heap[gb566]? = some (.cells #[(.slice A0_0 l0_0.length c0_0), (.slice A0_1 l0_1.length c0_1)] 27 (0, 0))) ∧ Aside0 (wc.heap[gb567]? = some (.cells #[(.slice A1_0 l1_0.length c1_0), (.slice A1_1 l1_1.length c1_1)] 27 (0, 0))) ∧ Aside0 (wc.heap[gb568]? = some (.cells #[(.slice none 0 0), (.slice none 0 0)] 27 (0, 0))) ∧ Aside0 (Below w.heap.size w wc))
 case first =>
  have H := HC3.out
  clear HC3
  replace H := Option.bind_eq_some_iff.mp H
  obtain ⟨t569, A70, H⟩ := H
  replace H : (if t569 = true then ((impl_GoodRelation.f k l1_0 l1_1).bind fun t570 => (impl_JoinTwo.j0 k (!t570) l0_0 l0_1 l1_0 l1_1)) else (impl_JoinTwo.j0 k true l0_0 l0_1 l1_0 l1_1)) = some (r1, r2, r3) := H
  have A7 := Aside0.mk A70
  clear A70
  by_cases c8 : t569 = true
  ·subst c8
   have H1 : ((impl_GoodRelation.f k l1_0 l1_1).bind fun t570 => (impl_JoinTwo.j0 k (!t570) l0_0 l0_1 l1_0 l1_1)) = some (r1, r2, r3) := by rw [if_pos rfl] at H; exact H
   clear H
   have H := H1
   clear H1
   replace H := Option.bind_eq_some_iff.mp H
   obtain ⟨t570, A90, H⟩ := H
   replace H : (impl_JoinTwo.j0 k (!t570) l0_0 l0_1 l1_0 l1_1) = some (r1, r2, r3) := H
   have A9 := Aside0.mk A90
   clear A90
   have H' := Aside0.mk H
   clear H
   have hnb10 := NB566_567.out
   have hnc10 := NB567_566.out
   have hnb11 := NB566_568.out
   have hnc11 := NB568_566.out
   have hcz12_0 : w6.cell? ⟨gb566, 0, none⟩ = some (.slice A0_0 l0_0.length c0_0) := (blk_cell BK566.out 0).trans rfl
   have hcz12_1 : w6.cell? ⟨gb566, 1, none⟩ = some (.slice A0_1 l0_1.length c0_1) := (blk_cell BK566.out 1).trans rfl
   have hfz12_0 := blk_frozen BK566.out 0
   have hfz12_1 := blk_frozen BK566.out 1
   go_wp2_with (first | ((with_reducible refine gate_callee (f := 46) rfl ?_); refine goesL_ (some 18) rfl rfl Try.func46 (by kernel_rfl) rfl #[.agg #[.slice A0_0 l0_0.length c0_0, .slice A0_1 l0_1.length c0_1]] rfl (by (try simp only [List.map_toArray, List.map_cons, List.map_nil]); first | done | rfl | (simp only [List.length_drop, List.length_take]; rfl)) ?_; (with_reducible refine (impl_GoodRelation.calls k _ _ l0_0 _ _ l0_1 true _ ?side1 ?side2 ?side3 ?side4 A7.out).mono ?_); (case side1 => repeat (first | exact (Kd.C_below HR0_0.out HB.out) | (with_reducible refine Kd.C_alloc ?_ _) | (with_reducible refine Kd.C_drewN ?_ _) | (with_reducible refine Kd.C_drew ?_))); (case side2 => exact HC0_0.out); (case side3 => repeat (first | exact (Kd.C_below HR0_1.out HB.out) | (with_reducible refine Kd.C_alloc ?_ _) | (with_reducible refine Kd.C_drewN ?_ _) | (with_reducible refine Kd.C_drew ?_))); (case side4 => exact HC0_1.out); rintro e w13 ⟨rfl, hb⟩; refine ⟨_, rfl, ?_⟩; have n0_ := Aside0.mk (blk_below (g := gb566) (o := .cells #[.slice A0_0 l0_0.length c0_0, .slice A0_1 l0_1.length c0_1] 27 (0, 0)) (by (with_reducible repeat (first | refine blk_drewN ?_ _ | refine blk_drew ?_ | refine blk_alloc ?_ _)); exact BK566.out) hb); have n1_ := Aside0.mk (blk_below (g := gb567) (o := .cells #[.slice A1_0 l1_0.length c1_0, .slice A1_1 l1_1.length c1_1] 27 (0, 0)) (by (with_reducible repeat (first | refine blk_drewN ?_ _ | refine blk_drew ?_ | refine blk_alloc ?_ _)); exact BK567.out) hb); have n2_ := Aside0.mk (blk_below (g := gb568) (o := .cells #[.slice none 0 0, .slice none 0 0] 27 (0, 0)) (by (with_reducible repeat (first | refine blk_drewN ?_ _ | refine blk_drew ?_ | refine blk_alloc ?_ _)); exact BK568.out) hb); have n3_ := Aside0.mk (below_step (by repeat (first | exact HB.out | apply below_alloc | apply pw_below_drewN | apply below_drew1 | refine below_set ?_ GE566.out | refine below_set ?_ GE567.out | refine below_set ?_ GE568.out)) hb); clear BK566; clear BK567; clear BK568; clear HB; have BK566 := n0_; have BK567 := n1_; have BK568 := n2_; have HB := n3_; clear n0_ n1_ n2_ n3_; (try clear hb); (try clear hb2); (try clear hk); (try clear hi); have hnb14 := NB567_568.out; have hnc14 := NB568_567.out; have hcz15_0 : w13.cell? ⟨gb567, 0, none⟩ = some (.slice A1_0 l1_0.length c1_0) := (blk_cell BK567.out 0).trans rfl; have hcz15_1 : w13.cell? ⟨gb567, 1, none⟩ = some (.slice A1_1 l1_1.length c1_1) := (blk_cell BK567.out 1).trans rfl; have hfz15_0 := blk_frozen BK567.out 0; have hfz15_1 := blk_frozen BK567.out 1) | (go_at_call 46; (with_reducible refine (impl_GoodRelation.calls k _ _ l1_0 _ _ l1_1 t570 _ ?side1 ?side2 ?side3 ?side4 A9.out).mono ?_); (case side1 => repeat (first | exact (Kd.C_below HR1_0.out HB.out) | (with_reducible refine Kd.C_alloc ?_ _) | (with_reducible refine Kd.C_drewN ?_ _) | (with_reducible refine Kd.C_drew ?_))); (case side2 => exact HC1_0.out); (case side3 => repeat (first | exact (Kd.C_below HR1_1.out HB.out) | (with_reducible refine Kd.C_alloc ?_ _) | (with_reducible refine Kd.C_drewN ?_ _) | (with_reducible refine Kd.C_drew ?_))); (case side4 => exact HC1_1.out); rintro e w16 ⟨rfl, hb⟩; have n0_ := Aside0.mk (blk_below (g := gb566) (o := .cells #[.slice A0_0 l0_0.length c0_0, .slice A0_1 l0_1.length c0_1] 27 (0, 0)) (by (with_reducible repeat (first | refine blk_drewN ?_ _ | refine blk_drew ?_ | refine blk_alloc ?_ _)); exact BK566.out) hb); have n1_ := Aside0.mk (blk_below (g := gb567) (o := .cells #[.slice A1_0 l1_0.length c1_0, .slice A1_1 l1_1.length c1_1] 27 (0, 0)) (by (with_reducible repeat (first | refine blk_drewN ?_ _ | refine blk_drew ?_ | refine blk_alloc ?_ _)); exact BK567.out) hb); have n2_ := Aside0.mk (blk_below (g := gb568) (o := .cells #[.slice none 0 0, .slice none 0 0] 27 (0, 0)) (by (with_reducible repeat (first | refine blk_drewN ?_ _ | refine blk_drew ?_ | refine blk_alloc ?_ _)); exact BK568.out) hb); have n3_ := Aside0.mk (below_step (by repeat (first | exact HB.out | apply below_alloc | apply pw_below_drewN | apply below_drew1 | refine below_set ?_ GE566.out | refine below_set ?_ GE567.out | refine below_set ?_ GE568.out)) hb); clear BK566; clear BK567; clear BK568; clear HB; have BK566 := n0_; have BK567 := n1_; have BK568 := n2_; have HB := n3_; clear n0_ n1_ n2_ n3_; (try clear hb); (try clear hb2); (try clear hk); (try clear hi)))
   go_meet
   case rel => exact ⟨_, (!t570), (by first | rfl | (simp; done) | (simp [*]; done)), H', ⟨by first | omega | exact Nat.le_refl _⟩, ⟨by (with_reducible repeat (first | refine blk_drewN ?_ _ | refine blk_drew ?_ | refine blk_alloc ?_ _)); exact BK566.out⟩, ⟨by (with_reducible repeat (first | refine blk_drewN ?_ _ | refine blk_drew ?_ | refine blk_alloc ?_ _)); exact BK567.out⟩, ⟨by (with_reducible repeat (first | refine blk_drewN ?_ _ | refine blk_drew ?_ | refine blk_alloc ?_ _)); exact BK568.out⟩, ⟨by repeat (first | exact HB.out | apply below_alloc | apply pw_below_drewN | apply below_drew1 | refine below_set ?_ GE566.out | refine below_set ?_ GE567.out | refine below_set ?_ GE568.out)⟩⟩
  ·replace c8 := Bool.eq_false_iff.mpr c8
   subst c8
   have H1 : (impl_JoinTwo.j0 k true l0_0 l0_1 l1_0 l1_1) = some (r1, r2, r3) := by rw [if_neg (show ¬ (false = true) by decide)] at H; exact H
   clear H
   have H := H1
   clear H1
   have H' := Aside0.mk H
   clear H
   have hnb17 := NB566_567.out
   have hnc17 := NB567_566.out
   have hnb18 := NB566_568.out
   have hnc18 := NB568_566.out
   have hcz19_0 : w6.cell? ⟨gb566, 0, none⟩ = some (.slice A0_0 l0_0.length c0_0) := (blk_cell BK566.out 0).trans rfl
   have hcz19_1 : w6.cell? ⟨gb566, 1, none⟩ = some (.slice A0_1 l0_1.length c0_1) := (blk_cell BK566.out 1).trans rfl
   have hfz19_0 := blk_frozen BK566.out 0
   have hfz19_1 := blk_frozen BK566.out 1
   go_wp2_with (first | ((with_reducible refine gate_callee (f := 46) rfl ?_); refine goesL_ (some 18) rfl rfl Try.func46 (by kernel_rfl) rfl #[.agg #[.slice A0_0 l0_0.length c0_0, .slice A0_1 l0_1.length c0_1]] rfl (by (try simp only [List.map_toArray, List.map_cons, List.map_nil]); first | done | rfl | (simp only [List.length_drop, List.length_take]; rfl)) ?_; (with_reducible refine (impl_GoodRelation.calls k _ _ l0_0 _ _ l0_1 false _ ?side1 ?side2 ?side3 ?side4 A7.out).mono ?_); (case side1 => repeat (first | exact (Kd.C_below HR0_0.out HB.out) | (with_reducible refine Kd.C_alloc ?_ _) | (with_reducible refine Kd.C_drewN ?_ _) | (with_reducible refine Kd.C_drew ?_))); (case side2 => exact HC0_0.out); (case side3 => repeat (first | exact (Kd.C_below HR0_1.out HB.out) | (with_reducible refine Kd.C_alloc ?_ _) | (with_reducible refine Kd.C_drewN ?_ _) | (with_reducible refine Kd.C_drew ?_))); (case side4 => exact HC0_1.out); rintro e w20 ⟨rfl, hb⟩; refine ⟨_, rfl, ?_⟩; have n0_ := Aside0.mk (blk_below (g := gb566) (o := .cells #[.slice A0_0 l0_0.length c0_0, .slice A0_1 l0_1.length c0_1] 27 (0, 0)) (by (with_reducible repeat (first | refine blk_drewN ?_ _ | refine blk_drew ?_ | refine blk_alloc ?_ _)); exact BK566.out) hb); have n1_ := Aside0.mk (blk_below (g := gb567) (o := .cells #[.slice A1_0 l1_0.length c1_0, .slice A1_1 l1_1.length c1_1] 27 (0, 0)) (by (with_reducible repeat (first | refine blk_drewN ?_ _ | refine blk_drew ?_ | refine blk_alloc ?_ _)); exact BK567.out) hb); have n2_ := Aside0.mk (blk_below (g := gb568) (o := .cells #[.slice none 0 0, .slice none 0 0] 27 (0, 0)) (by (with_reducible repeat (first | refine blk_drewN ?_ _ | refine blk_drew ?_ | refine blk_alloc ?_ _)); exact BK568.out) hb); have n3_ := Aside0.mk (below_step (by repeat (first | exact HB.out | apply below_alloc | apply pw_below_drewN | apply below_drew1 | refine below_set ?_ GE566.out | refine below_set ?_ GE567.out | refine below_set ?_ GE568.out)) hb); clear BK566; clear BK567; clear BK568; clear HB; have BK566 := n0_; have BK567 := n1_; have BK568 := n2_; have HB := n3_; clear n0_ n1_ n2_ n3_; (try clear hb); (try clear hb2); (try clear hk); (try clear hi)))
   go_meet
   case rel => exact ⟨_, (true), (by first | rfl | (simp; done) | (simp [*]; done)), H', ⟨by first | omega | exact Nat.le_refl _⟩, ⟨by (with_reducible repeat (first | refine blk_drewN ?_ _ | refine blk_drew ?_ | refine blk_alloc ?_ _)); exact BK566.out⟩, ⟨by (with_reducible repeat (first | refine blk_drewN ?_ _ | refine blk_drew ?_ | refine blk_alloc ?_ _)); exact BK567.out⟩, ⟨by (with_reducible repeat (first | refine blk_drewN ?_ _ | refine blk_drew ?_ | refine blk_alloc ?_ _)); exact BK568.out⟩, ⟨by repeat (first | exact HB.out | apply below_alloc | apply pw_below_drewN | apply below_drew1 | refine below_set ?_ GE566.out | refine below_set ?_ GE567.out | refine below_set ?_ GE568.out)⟩⟩
 case rest =>
  clear HC3
  try clear c1
  try clear p2
  try clear c4
  try clear c8
  try clear c10
  try clear c11
  try clear c12
  try clear c14
  try clear c17
  try clear c18
  try clear hcz12_0
  try clear hcz12_1
  try clear hcz15_0
  try clear hcz15_1
  try clear hcz19_0
  try clear hcz19_1
  try clear hfz12_0
  try clear hfz12_1
  try clear hfz15_0
  try clear hfz15_1
  try clear hfz19_0
  try clear hfz19_1
  obtain ⟨kq, x24_2, rfl, HA, HJ2, BK566, BK567, BK568, HB⟩ := hcut
  cases kq with
  | zero => exact absurd HA.out (by simp [impl_JoinTwo.j0])
  | succ kj2 =>
   have H := HA.out
   clear HA
   simp only [impl_JoinTwo.j0] at H
   by_cases c21 : x24_2 = true
   ·subst c21
    have H1 : (some (([] : List Int), ([] : List (List Int)), false)) = some (r1, r2, r3) := by rw [if_pos rfl] at H; exact H
    clear H
    have H := H1
    clear H1
    simp only [Option.some.injEq, Prod.mk.injEq] at H
    obtain ⟨rfl, rfl, rfl⟩ := H
    have hnb22 := NB568_566.out
    have hnc22 := NB566_568.out
    have hnb23 := NB568_567.out
    have hnc23 := NB567_568.out
    have hcz24_0 : wc.cell? ⟨gb568, 0, none⟩ = some (.slice none 0 0) := (blk_cell BK568.out 0).trans rfl
    have hcz24_1 : wc.cell? ⟨gb568, 1, none⟩ = some (.slice none 0 0) := (blk_cell BK568.out 1).trans rfl
    have hfz24_0 := blk_frozen BK568.out 0
    have hfz24_1 := blk_frozen BK568.out 1
    go_wp2
    refine bodyPost_ret (results_ct rfl _ _ gb568 27 #[.slice none 0 0, .slice none 0 0] (0, 0) _ rfl (by (with_reducible repeat (first | refine blk_drewN ?_ _ | refine blk_drew ?_ | refine blk_alloc ?_ _)); refine blk_put (cs := #[.slice none 0 0, .slice none 0 0]) ?_ 1 _ rfl; (with_reducible repeat (first | refine blk_drewN ?_ _ | refine blk_drew ?_ | refine blk_alloc ?_ _)); refine blk_put (cs := #[.slice none 0 0, .slice none 0 0]) ?_ 0 _ rfl; (with_reducible repeat (first | refine blk_drewN ?_ _ | refine blk_drew ?_ | refine blk_alloc ?_ _)); exact BK568.out) Try.underlying27 rfl (by kernel_rfl)) rfl ?_
    exact ⟨_, _, by first | rfl | (simp [errW_none, errW_some] <;> rfl) | (simp [*, errW_none, errW_some] <;> rfl), by first | exact Kd.R_nil _ _ _ _ _ | exact Kd.N_nil _ _ _ _ _ | exact Kd.N_nil _ _ _ w.heap.size _ | exact Kd.V_nil _ _ _ _ _ | exact Kd.Q_nil _ _ _ _ _ | exact Kd.S_nil _ _ _ _ _, by first | exact Kd.S_nil _ _ _ _ _ | exact Kd.S_nil _ _ _ w.heap.size _ | exact Kd.N_nil _ _ _ _ _ | exact Kd.N_nil _ _ _ w.heap.size _ | exact Kd.V_nil _ _ _ _ _ | exact Kd.Q_nil _ _ _ _ _ | exact Kd.R_nil _ _ _ _ _, by repeat (first | exact HB.out | apply below_alloc | apply pw_below_drewN | apply below_drew1 | refine below_set ?_ GE566.out | refine below_set ?_ GE567.out | refine below_set ?_ GE568.out)⟩
   ·replace c21 := Bool.eq_false_iff.mpr c21
    subst c21
    have H1 : ((impl_both.f l0_0 l1_0).bind fun t571 => ((impl_together.f l0_0 l1_0).bind fun t574 => (impl_JoinTwo.l0 kj2 t571 t574 (([] : List (List Int))) l0_1 (l0_1.length : Int) 0 l0_0 l0_1 l1_0 l1_1))) = some (r1, r2, r3) := by rw [if_neg (show ¬ (false = true) by decide)] at H; exact H
    clear H
    have H := H1
    clear H1
    replace H := Option.bind_eq_some_iff.mp H
    obtain ⟨t571, A250, H⟩ := H
    replace H : ((impl_together.f l0_0 l1_0).bind fun t574 => (impl_JoinTwo.l0 kj2 t571 t574 (([] : List (List Int))) l0_1 (l0_1.length : Int) 0 l0_0 l0_1 l1_0 l1_1)) = some (r1, r2, r3) := H
    have A25 := Aside0.mk A250
    clear A250
    replace H := Option.bind_eq_some_iff.mp H
    obtain ⟨t574, A260, H⟩ := H
    replace H : (impl_JoinTwo.l0 kj2 t571 t574 (([] : List (List Int))) l0_1 (l0_1.length : Int) 0 l0_0 l0_1 l1_0 l1_1) = some (r1, r2, r3) := H
    have A26 := Aside0.mk A260
    clear A260
    obtain ⟨y577, hy577⟩ : ∃ y_ : List (List Int), y_ = (([] : List (List Int))) := ⟨_, rfl⟩
    replace H : (impl_JoinTwo.l0 kj2 t571 t574 y577 l0_1 (l0_1.length : Int) 0 l0_0 l0_1 l1_0 l1_1) = some (r1, r2, r3) := by first | (rw [hy577]; with_reducible exact H) | (have H2_ := (Option.bind_some _ _).symm.trans H; rw [hy577]; with_reducible exact H2_) | (have H2_ := (Option.bind_some _ _).symm.trans H; with_reducible exact H2_) | with_reducible exact H | (rw [hy577]; exact H) | exact H
    have Ny577 := Aside0.mk hy577
    clear hy577
    have H' := Aside0.mk H
    clear H
    try go_wp2
    have n0_ := Aside0.mk (blk_drew BK566.out)
    have n1_ := Aside0.mk (blk_drew BK567.out)
    have n2_ := Aside0.mk (blk_drew BK568.out)
    have n3_ := Aside0.mk (below_drew1 HB.out)
    clear BK566
    clear BK567
    clear BK568
    clear HB
    have BK566 := n0_
    have BK567 := n1_
    have BK568 := n2_
    have HB := n3_
    clear n0_ n1_ n2_ n3_
    refine start_ (n := 14) (S := fun w' => True) (ds := []) #[false, false, false, false, false, false, false, false, false, false, false, false, false, false] (by kernel_rfl) rfl rfl trivial (fun hHeld => ?_); refine with_tabW impl_JoinTwo.tab3 impl_JoinTwo.bits3 (fun HT_ HW_ => ?_)
    generalize wc.drew = w27 at BK566 BK567 BK568 HB hHeld ⊢
    refine pure_ (i := 0) (N := some 26) (v := ?_) (a' := ?_) #[true, false, false, false, false, false, false, false, false, false, false, false, false, false] rfl rfl (any_of HT_.out (by kernel_rfl)) (fun _ _ _ h => h) (Or.inl ⟨by rfl, ?_⟩) ?_ ?_
    rotate_left
    ·intro w'
     go_simp
     with_reducible rfl
    rotate_left
    ·simp only [Act.put, List.setIfInBounds_toArray, List.set_cons_zero, List.set_cons_succ, i64_w, i32_w]
     rfl
    refine pure_ (i := 2) (N := some 28) (v := ?_) (a' := ?_) #[true, false, true, false, false, false, false, false, false, false, false, false, false, false] rfl rfl (any_of HT_.out (by kernel_rfl)) (fun _ _ _ h => h) (Or.inl ⟨by rfl, ?_⟩) ?_ ?_
    rotate_left
    ·intro w'
     go_simp
     with_reducible rfl
    rotate_left
    ·simp only [Act.put, List.setIfInBounds_toArray, List.set_cons_zero, List.set_cons_succ, i64_w, i32_w]
     rfl
    refine pure_ (i := 5) (N := some 31) (v := ?_) (a' := ?_) #[true, false, true, false, false, true, false, false, false, false, false, false, false, false] rfl rfl (any_of HT_.out (by kernel_rfl)) (fun _ _ _ h => h) (Or.inl ⟨by rfl, ?_⟩) ?_ ?_
    rotate_left
    ·intro w'
     go_simp
     with_reducible rfl
    rotate_left
    ·simp only [Act.put, List.setIfInBounds_toArray, List.set_cons_zero, List.set_cons_succ, i64_w, i32_w]
     rfl
    refine pure_ (i := 7) (N := some 33) (v := ?_) (a' := ?_) #[true, false, true, false, false, true, false, true, false, false, false, false, false, false] rfl rfl (any_of HT_.out (by kernel_rfl)) (fun _ _ _ h => h) (Or.inl ⟨by rfl, ?_⟩) ?_ ?_
    rotate_left
    ·intro w'
     go_simp
     with_reducible rfl
    rotate_left
    ·simp only [Act.put, List.setIfInBounds_toArray, List.set_cons_zero, List.set_cons_succ, i64_w, i32_w]
     rfl
    refine inv_at [1, 3, 4, 6, 8, 9, 10, 11, 12, 13] (fun a0_ b a w' => ∃ (v572 : Value) (v575 : Value) (v578 : Value) (m11_ : Value) (m12_ : Value) (m13_ : Value), a = putSel a0_ b [(1, 27, .slice A0_0 l0_0.length c0_0), (3, 29, .slice A1_0 l1_0.length c1_0), (4, 30, v572), (6, 32, .slice A0_0 l0_0.length c0_0), (8, 34, .slice A1_0 l1_0.length c1_0), (9, 35, v575), (10, 36, v578), (11, 6, m11_), (12, 7, m12_), (13, 8, m13_)] ∧ (w'.heap[gb566]? = some (.cells #[.slice A0_0 l0_0.length c0_0, .slice A0_1 l0_1.length c0_1] 27 (0, 0))) ∧ (w'.heap[gb567]? = some (.cells #[.slice A1_0 l1_0.length c1_0, .slice A1_1 l1_1.length c1_1] 27 (0, 0))) ∧ (w'.heap[gb568]? = some (.cells #[.slice none 0 0, .slice none 0 0] 27 (0, 0))) ∧ (Below w.heap.size w w') ∧ (b 4 = true → Kd.R (Kd.int .i64) 3 w' w.heap.size (fun _ => True) v572 t571) ∧ (b 9 = true → Kd.R (Kd.int .i64) 3 w' w.heap.size (fun _ => True) v575 t574) ∧ (b 10 = true → Kd.S (Kd.slice 3 (Kd.int .i64)) 22 w' w.heap.size (fun _ => True) v578 y577) ∧ (b 11 = true → (m11_ : Value) = v572) ∧ (b 12 = true → (m12_ : Value) = v575) ∧ (b 13 = true → (m13_ : Value) = v578) ∧ (b 4 = true → b 9 = true → (∀ k_, (v572 : Value).ownBlock = some k_ → some k_ ≠ (v575 : Value).ownBlock)) ∧ (b 4 = true → b 10 = true → (∀ k_, (v572 : Value).ownBlock = some k_ → some k_ ≠ (v578 : Value).ownBlock)) ∧ (b 9 = true → b 10 = true → (∀ k_, (v575 : Value).ownBlock = some k_ → some k_ ≠ (v578 : Value).ownBlock))) HT_.out HW_.out (by kernel_rfl) (by kernel_rfl) ?_ ?_ ?_
    ·exact ⟨.bool false, .bool false, .bool false, .bool false, .bool false, .bool false, by simp only [putSel, Bool.false_eq_true, if_false], BK566.out, BK567.out, BK568.out, HB.out, fun h_ => absurd h_ (by decide), fun h_ => absurd h_ (by decide), fun h_ => absurd h_ (by decide), fun h_ => absurd h_ (by decide), fun h_ => absurd h_ (by decide), fun h_ => absurd h_ (by decide), (fun x_ _ => absurd x_ (by decide)), (fun x_ _ => absurd x_ (by decide)), (fun x_ _ => absurd x_ (by decide))⟩
    ·skip
     clear BK566 BK567 BK568 HB
     refine steps_cons ?_ ?_
     ·rintro b a w' ⟨v572, v575, v578, m11_, m12_, m13_, ha, Q_BK566, Q_BK567, Q_BK568, Q_HB, Q_HO573, Q_HO576, Q_HO579, Q_X11_, Q_X12_, Q_X13_, Q_C0, Q_C1, Q_C2⟩ hb_ hon hoff
      refine ⟨_, rfl, fun K hK => ?_⟩
      have e26 : a.tmps[26]? = some (.pointer (some ⟨gb566, 0, none⟩)) := by rw [ha]; exact (putSel_off rfl).trans rfl
      replace ha := Aside0.mk ha
      have BK566 := Aside0.mk Q_BK566
      have BK567 := Aside0.mk Q_BK567
      have BK568 := Aside0.mk Q_BK568
      have HB := Aside0.mk Q_HB
      have hc0_ : w'.cell? ⟨gb566, 0, none⟩ = some (.slice A0_0 l0_0.length c0_0) := (blk_cell BK566.out 0).trans rfl
      have hc1_ : w'.cell? ⟨gb566, 1, none⟩ = some (.slice A0_1 l0_1.length c0_1) := (blk_cell BK566.out 1).trans rfl
      refine value_ (w1 := w') (v := .slice A0_0 l0_0.length c0_0) (by rfl) rfl ?_ ?_
      ·go_simp
       (try simp only [i64_w])
       try rfl
      refine hK.out _ _ ⟨v572, v575, v578, m11_, m12_, m13_, (by rw [ha.out]; exact putSel_upk 0 hb_ rfl rfl rfl), Q_BK566, Q_BK567, Q_BK568, Q_HB, fun h0_ => absurd ((hoff 4 (by kernel_rfl)).symm.trans h0_) (by decide), fun h0_ => absurd ((hoff 9 (by kernel_rfl)).symm.trans h0_) (by decide), Q_HO579, fun h0_ => absurd ((hoff 11 (by kernel_rfl)).symm.trans h0_) (by decide), fun h0_ => absurd ((hoff 12 (by kernel_rfl)).symm.trans h0_) (by decide), fun h0_ => absurd ((hoff 13 (by kernel_rfl)).symm.trans h0_) (by decide), (fun x_ _ => absurd ((hoff 4 (by kernel_rfl)).symm.trans x_) (by decide)), (fun x_ _ => absurd ((hoff 4 (by kernel_rfl)).symm.trans x_) (by decide)), (fun x_ _ => absurd ((hoff 9 (by kernel_rfl)).symm.trans x_) (by decide))⟩
     refine steps_cons ?_ ?_
     ·rintro b a w' ⟨v572, v575, v578, m11_, m12_, m13_, ha, Q_BK566, Q_BK567, Q_BK568, Q_HB, Q_HO573, Q_HO576, Q_HO579, Q_X11_, Q_X12_, Q_X13_, Q_C0, Q_C1, Q_C2⟩ hb_ hon hoff
      refine ⟨_, rfl, fun K hK => ?_⟩
      have e28 : a.tmps[28]? = some (.pointer (some ⟨gb567, 0, none⟩)) := by rw [ha]; exact (putSel_off rfl).trans rfl
      replace ha := Aside0.mk ha
      have BK566 := Aside0.mk Q_BK566
      have BK567 := Aside0.mk Q_BK567
      have BK568 := Aside0.mk Q_BK568
      have HB := Aside0.mk Q_HB
      have hc0_ : w'.cell? ⟨gb567, 0, none⟩ = some (.slice A1_0 l1_0.length c1_0) := (blk_cell BK567.out 0).trans rfl
      have hc1_ : w'.cell? ⟨gb567, 1, none⟩ = some (.slice A1_1 l1_1.length c1_1) := (blk_cell BK567.out 1).trans rfl
      refine value_ (w1 := w') (v := .slice A1_0 l1_0.length c1_0) (by rfl) rfl ?_ ?_
      ·go_simp
       (try simp only [i64_w])
       try rfl
      refine hK.out _ _ ⟨v572, v575, v578, m11_, m12_, m13_, (by rw [ha.out]; exact putSel_upk 1 hb_ rfl rfl rfl), Q_BK566, Q_BK567, Q_BK568, Q_HB, fun h0_ => absurd ((hoff 4 (by kernel_rfl)).symm.trans h0_) (by decide), fun h0_ => absurd ((hoff 9 (by kernel_rfl)).symm.trans h0_) (by decide), Q_HO579, fun h0_ => absurd ((hoff 11 (by kernel_rfl)).symm.trans h0_) (by decide), fun h0_ => absurd ((hoff 12 (by kernel_rfl)).symm.trans h0_) (by decide), fun h0_ => absurd ((hoff 13 (by kernel_rfl)).symm.trans h0_) (by decide), (fun x_ _ => absurd ((hoff 4 (by kernel_rfl)).symm.trans x_) (by decide)), (fun x_ _ => absurd ((hoff 4 (by kernel_rfl)).symm.trans x_) (by decide)), (fun x_ _ => absurd ((hoff 9 (by kernel_rfl)).symm.trans x_) (by decide))⟩
     refine steps_cons ?_ ?_
     ·rintro b a w' ⟨v572, v575, v578, m11_, m12_, m13_, ha, Q_BK566, Q_BK567, Q_BK568, Q_HB, Q_HO573, Q_HO576, Q_HO579, Q_X11_, Q_X12_, Q_X13_, Q_C0, Q_C1, Q_C2⟩ hb_ hon hoff
      refine ⟨_, rfl, fun K hK => ?_⟩
      have e27 : a.tmps[27]? = some (.slice A0_0 l0_0.length c0_0) := by rw [ha]; exact putSel_on (e := (1, 27, .slice A0_0 l0_0.length c0_0)) 0 rfl rfl (hon 1 (by kernel_rfl)) rfl
      have e29 : a.tmps[29]? = some (.slice A1_0 l1_0.length c1_0) := by rw [ha]; exact putSel_on (e := (3, 29, .slice A1_0 l1_0.length c1_0)) 1 rfl rfl (hon 3 (by kernel_rfl)) rfl
      replace ha := Aside0.mk ha
      have BK566 := Aside0.mk Q_BK566
      have BK567 := Aside0.mk Q_BK567
      have BK568 := Aside0.mk Q_BK568
      have HB := Aside0.mk Q_HB
      refine goes_ Try.func47 (by kernel_rfl) rfl #[.slice A0_0 l0_0.length c0_0, .slice A1_0 l1_0.length c1_0] (by rfl) rfl rfl (by first | (simp only [List.map_toArray, List.map_cons, List.map_nil, Act.eval, Array.getD_eq_getD_getElem?, Option.getD_some, e27, e29]; done) | (simp only [List.map_toArray, List.map_cons, List.map_nil, Act.eval, Array.getD_eq_getD_getElem?, Option.getD_some, e27, e29]; rfl)) ?_
      with_reducible refine (impl_both.calls _ _ l0_0 _ _ l1_0 t571 _ ?side1 ?side2 ?side3 ?side4 A25.out).mono ?_
      (case side1 => repeat (first | exact (Kd.C_below HR0_0.out HB.out) | (with_reducible refine Kd.C_alloc ?_ _) | (with_reducible refine Kd.C_drewN ?_ _) | (with_reducible refine Kd.C_drew ?_)))
      (case side2 => exact HC0_0.out)
      (case side3 => repeat (first | exact (Kd.C_below HR1_0.out HB.out) | (with_reducible refine Kd.C_alloc ?_ _) | (with_reducible refine Kd.C_drewN ?_ _) | (with_reducible refine Kd.C_drew ?_)))
      (case side4 => exact HC1_0.out)
      rintro e w28 ⟨v572, rfl, ho0, hb⟩
      have nb_ := Aside0.mk (Kd.R_base ho0)
      refine ⟨_, rfl, ?_⟩
      have n0_ := Aside0.mk (Kd.R_lower ho0 (below_size (by repeat (first | exact HB.out | apply below_alloc | apply pw_below_drewN | apply below_drew1 | refine below_set ?_ GE566.out | refine below_set ?_ GE567.out | refine below_set ?_ GE568.out))))
      have n1_ := Aside0.mk (blk_below (g := gb566) (o := .cells #[.slice A0_0 l0_0.length c0_0, .slice A0_1 l0_1.length c0_1] 27 (0, 0)) (by (with_reducible repeat (first | refine blk_drewN ?_ _ | refine blk_drew ?_ | refine blk_alloc ?_ _)); exact BK566.out) hb)
      have n2_ := Aside0.mk (blk_below (g := gb567) (o := .cells #[.slice A1_0 l1_0.length c1_0, .slice A1_1 l1_1.length c1_1] 27 (0, 0)) (by (with_reducible repeat (first | refine blk_drewN ?_ _ | refine blk_drew ?_ | refine blk_alloc ?_ _)); exact BK567.out) hb)
      have n3_ := Aside0.mk (blk_below (g := gb568) (o := .cells #[.slice none 0 0, .slice none 0 0] 27 (0, 0)) (by (with_reducible repeat (first | refine blk_drewN ?_ _ | refine blk_drew ?_ | refine blk_alloc ?_ _)); exact BK568.out) hb)
      have n4_ := Aside0.mk (below_step (by repeat (first | exact HB.out | apply below_alloc | apply pw_below_drewN | apply below_drew1 | refine below_set ?_ GE566.out | refine below_set ?_ GE567.out | refine below_set ?_ GE568.out)) hb)
      have z_HO579 := fun (h0_ : b 10 = true) => (show Kd.S (Kd.slice 3 (Kd.int .i64)) 22 w28 w.heap.size (fun _ => True) v578 y577 from by first | exact (Kd.S_elder' (by (with_reducible repeat (first | apply Kd.S_alloc | apply Kd.S_drewN | apply Kd.S_drew)); exact (Q_HO579 h0_)) (Kd.R_base ho0) hb) | exact Kd.S_mono (Kd.S_elder' (by (with_reducible repeat (first | apply Kd.S_alloc | apply Kd.S_drewN | apply Kd.S_drew)); exact (Q_HO579 h0_)) (Kd.R_base ho0) hb) (fun _ h_ => by first | trivial | exact h_ | exact h_.1))
      clear BK566
      clear BK567
      clear BK568
      clear HB
      have HO573 := n0_
      have BK566 := n1_
      have BK567 := n2_
      have BK568 := n3_
      have HB := n4_
      clear n0_ n1_ n2_ n3_ n4_
      (try clear hb)
      (try clear hb2)
      (try clear hk)
      (try clear hi)
      (try clear ho0)
      refine hK.out _ _ ⟨v572, v575, v578, m11_, m12_, m13_, (by rw [ha.out]; exact putSel_upk 2 hb_ rfl rfl rfl), (by (with_reducible repeat (first | refine blk_drewN ?_ _ | refine blk_drew ?_ | refine blk_alloc ?_ _)); exact BK566.out), (by (with_reducible repeat (first | refine blk_drewN ?_ _ | refine blk_drew ?_ | refine blk_alloc ?_ _)); exact BK567.out), (by (with_reducible repeat (first | refine blk_drewN ?_ _ | refine blk_drew ?_ | refine blk_alloc ?_ _)); exact BK568.out), (by repeat (first | exact HB.out | apply below_alloc | apply pw_below_drewN | apply below_drew1 | refine below_set ?_ GE566.out | refine below_set ?_ GE567.out | refine below_set ?_ GE568.out)), fun _ => (by (with_reducible repeat (first | apply Kd.R_alloc | apply Kd.R_drewN | apply Kd.R_drew)); exact HO573.out), fun h0_ => absurd ((hoff 9 (by kernel_rfl)).symm.trans h0_) (by decide), z_HO579, fun h0_ => absurd ((hoff 11 (by kernel_rfl)).symm.trans h0_) (by decide), fun h0_ => absurd ((hoff 12 (by kernel_rfl)).symm.trans h0_) (by decide), fun h0_ => absurd ((hoff 13 (by kernel_rfl)).symm.trans h0_) (by decide), (fun _ y_ => absurd ((hoff 9 (by kernel_rfl)).symm.trans y_) (by decide)), (fun _ y_ => apt_new nb_.out (fun k_ h_ => Kd.S_lt (Q_HO579 y_) k_ h_)), (fun x_ _ => absurd ((hoff 9 (by kernel_rfl)).symm.trans x_) (by decide))⟩
     refine steps_cons ?_ ?_
     ·rintro b a w' ⟨v572, v575, v578, m11_, m12_, m13_, ha, Q_BK566, Q_BK567, Q_BK568, Q_HB, Q_HO573, Q_HO576, Q_HO579, Q_X11_, Q_X12_, Q_X13_, Q_C0, Q_C1, Q_C2⟩ hb_ hon hoff
      refine ⟨_, rfl, fun K hK => ?_⟩
      have e31 : a.tmps[31]? = some (.pointer (some ⟨gb566, 0, none⟩)) := by rw [ha]; exact (putSel_off rfl).trans rfl
      replace ha := Aside0.mk ha
      have BK566 := Aside0.mk Q_BK566
      have BK567 := Aside0.mk Q_BK567
      have BK568 := Aside0.mk Q_BK568
      have HB := Aside0.mk Q_HB
      have hc0_ : w'.cell? ⟨gb566, 0, none⟩ = some (.slice A0_0 l0_0.length c0_0) := (blk_cell BK566.out 0).trans rfl
      have hc1_ : w'.cell? ⟨gb566, 1, none⟩ = some (.slice A0_1 l0_1.length c0_1) := (blk_cell BK566.out 1).trans rfl
      refine value_ (w1 := w') (v := .slice A0_0 l0_0.length c0_0) (by rfl) rfl ?_ ?_
      ·go_simp
       (try simp only [i64_w])
       try rfl
      refine hK.out _ _ ⟨v572, v575, v578, m11_, m12_, m13_, (by rw [ha.out]; exact putSel_upk 3 hb_ rfl rfl rfl), Q_BK566, Q_BK567, Q_BK568, Q_HB, Q_HO573, fun h0_ => absurd ((hoff 9 (by kernel_rfl)).symm.trans h0_) (by decide), Q_HO579, fun h0_ => absurd ((hoff 11 (by kernel_rfl)).symm.trans h0_) (by decide), fun h0_ => absurd ((hoff 12 (by kernel_rfl)).symm.trans h0_) (by decide), fun h0_ => absurd ((hoff 13 (by kernel_rfl)).symm.trans h0_) (by decide), (fun _ y_ => absurd ((hoff 9 (by kernel_rfl)).symm.trans y_) (by decide)), Q_C1, (fun x_ _ => absurd ((hoff 9 (by kernel_rfl)).symm.trans x_) (by decide))⟩
     refine steps_cons ?_ ?_
     ·rintro b a w' ⟨v572, v575, v578, m11_, m12_, m13_, ha, Q_BK566, Q_BK567, Q_BK568, Q_HB, Q_HO573, Q_HO576, Q_HO579, Q_X11_, Q_X12_, Q_X13_, Q_C0, Q_C1, Q_C2⟩ hb_ hon hoff
      refine ⟨_, rfl, fun K hK => ?_⟩
      have e33 : a.tmps[33]? = some (.pointer (some ⟨gb567, 0, none⟩)) := by rw [ha]; exact (putSel_off rfl).trans rfl
      replace ha := Aside0.mk ha
      have BK566 := Aside0.mk Q_BK566
      have BK567 := Aside0.mk Q_BK567
      have BK568 := Aside0.mk Q_BK568
      have HB := Aside0.mk Q_HB
      have hc0_ : w'.cell? ⟨gb567, 0, none⟩ = some (.slice A1_0 l1_0.length c1_0) := (blk_cell BK567.out 0).trans rfl
      have hc1_ : w'.cell? ⟨gb567, 1, none⟩ = some (.slice A1_1 l1_1.length c1_1) := (blk_cell BK567.out 1).trans rfl
      refine value_ (w1 := w') (v := .slice A1_0 l1_0.length c1_0) (by rfl) rfl ?_ ?_
      ·go_simp
       (try simp only [i64_w])
       try rfl
      refine hK.out _ _ ⟨v572, v575, v578, m11_, m12_, m13_, (by rw [ha.out]; exact putSel_upk 4 hb_ rfl rfl rfl), Q_BK566, Q_BK567, Q_BK568, Q_HB, Q_HO573, fun h0_ => absurd ((hoff 9 (by kernel_rfl)).symm.trans h0_) (by decide), Q_HO579, fun h0_ => absurd ((hoff 11 (by kernel_rfl)).symm.trans h0_) (by decide), fun h0_ => absurd ((hoff 12 (by kernel_rfl)).symm.trans h0_) (by decide), fun h0_ => absurd ((hoff 13 (by kernel_rfl)).symm.trans h0_) (by decide), (fun _ y_ => absurd ((hoff 9 (by kernel_rfl)).symm.trans y_) (by decide)), Q_C1, (fun x_ _ => absurd ((hoff 9 (by kernel_rfl)).symm.trans x_) (by decide))⟩
     refine steps_cons ?_ ?_
     ·rintro b a w' ⟨v572, v575, v578, m11_, m12_, m13_, ha, Q_BK566, Q_BK567, Q_BK568, Q_HB, Q_HO573, Q_HO576, Q_HO579, Q_X11_, Q_X12_, Q_X13_, Q_C0, Q_C1, Q_C2⟩ hb_ hon hoff
      refine ⟨_, rfl, fun K hK => ?_⟩
      have e32 : a.tmps[32]? = some (.slice A0_0 l0_0.length c0_0) := by rw [ha]; exact putSel_on (e := (6, 32, .slice A0_0 l0_0.length c0_0)) 3 rfl rfl (hon 6 (by kernel_rfl)) rfl
      have e34 : a.tmps[34]? = some (.slice A1_0 l1_0.length c1_0) := by rw [ha]; exact putSel_on (e := (8, 34, .slice A1_0 l1_0.length c1_0)) 4 rfl rfl (hon 8 (by kernel_rfl)) rfl
      replace ha := Aside0.mk ha
      have BK566 := Aside0.mk Q_BK566
      have BK567 := Aside0.mk Q_BK567
      have BK568 := Aside0.mk Q_BK568
      have HB := Aside0.mk Q_HB
      have HO573 := Aside0.mk (Q_HO573 (hon 4 (by kernel_rfl)))
      refine goes_ Try.func48 (by kernel_rfl) rfl #[.slice A0_0 l0_0.length c0_0, .slice A1_0 l1_0.length c1_0] (by rfl) rfl rfl (by first | (simp only [List.map_toArray, List.map_cons, List.map_nil, Act.eval, Array.getD_eq_getD_getElem?, Option.getD_some, e32, e34]; done) | (simp only [List.map_toArray, List.map_cons, List.map_nil, Act.eval, Array.getD_eq_getD_getElem?, Option.getD_some, e32, e34]; rfl)) ?_
      with_reducible refine (impl_together.calls _ _ l0_0 _ _ l1_0 t574 _ ?side1 ?side2 ?side3 ?side4 A26.out).mono ?_
      (case side1 => repeat (first | exact (Kd.C_below HR0_0.out HB.out) | (with_reducible refine Kd.C_alloc ?_ _) | (with_reducible refine Kd.C_drewN ?_ _) | (with_reducible refine Kd.C_drew ?_)))
      (case side2 => exact HC0_0.out)
      (case side3 => repeat (first | exact (Kd.C_below HR1_0.out HB.out) | (with_reducible refine Kd.C_alloc ?_ _) | (with_reducible refine Kd.C_drewN ?_ _) | (with_reducible refine Kd.C_drew ?_)))
      (case side4 => exact HC1_0.out)
      rintro e w30 ⟨v575, rfl, ho0, hb⟩
      have nb_ := Aside0.mk (Kd.R_base ho0)
      refine ⟨_, rfl, ?_⟩
      have n0_ := Aside0.mk (Kd.R_elder' (by (with_reducible repeat (first | apply Kd.R_alloc | apply Kd.R_drewN | apply Kd.R_drew)); exact HO573.out) (Kd.R_base ho0) hb)
      have n1_ := Aside0.mk (Kd.R_lower (Kd.R_new' ho0 (Kd.R_lt (by (with_reducible repeat (first | apply Kd.R_alloc | apply Kd.R_drewN | apply Kd.R_drew)); exact HO573.out))) (below_size (by repeat (first | exact HB.out | apply below_alloc | apply pw_below_drewN | apply below_drew1 | refine below_set ?_ GE566.out | refine below_set ?_ GE567.out | refine below_set ?_ GE568.out))))
      have n2_ := Aside0.mk (blk_below (g := gb566) (o := .cells #[.slice A0_0 l0_0.length c0_0, .slice A0_1 l0_1.length c0_1] 27 (0, 0)) (by (with_reducible repeat (first | refine blk_drewN ?_ _ | refine blk_drew ?_ | refine blk_alloc ?_ _)); exact BK566.out) hb)
      have n3_ := Aside0.mk (blk_below (g := gb567) (o := .cells #[.slice A1_0 l1_0.length c1_0, .slice A1_1 l1_1.length c1_1] 27 (0, 0)) (by (with_reducible repeat (first | refine blk_drewN ?_ _ | refine blk_drew ?_ | refine blk_alloc ?_ _)); exact BK567.out) hb)
      have n4_ := Aside0.mk (blk_below (g := gb568) (o := .cells #[.slice none 0 0, .slice none 0 0] 27 (0, 0)) (by (with_reducible repeat (first | refine blk_drewN ?_ _ | refine blk_drew ?_ | refine blk_alloc ?_ _)); exact BK568.out) hb)
      have n5_ := Aside0.mk (below_step (by repeat (first | exact HB.out | apply below_alloc | apply pw_below_drewN | apply below_drew1 | refine below_set ?_ GE566.out | refine below_set ?_ GE567.out | refine below_set ?_ GE568.out)) hb)
      have z_HO579 := fun (h0_ : b 10 = true) => (show Kd.S (Kd.slice 3 (Kd.int .i64)) 22 w30 w.heap.size (fun _ => True) v578 y577 from by first | exact (Kd.S_elder' (by (with_reducible repeat (first | apply Kd.S_alloc | apply Kd.S_drewN | apply Kd.S_drew)); exact (Q_HO579 h0_)) (Kd.R_base ho0) hb) | exact Kd.S_mono (Kd.S_elder' (by (with_reducible repeat (first | apply Kd.S_alloc | apply Kd.S_drewN | apply Kd.S_drew)); exact (Q_HO579 h0_)) (Kd.R_base ho0) hb) (fun _ h_ => by first | trivial | exact h_ | exact h_.1))
      clear HO573
      clear BK566
      clear BK567
      clear BK568
      clear HB
      have HO573 := n0_
      have HO576 := n1_
      have BK566 := n2_
      have BK567 := n3_
      have BK568 := n4_
      have HB := n5_
      clear n0_ n1_ n2_ n3_ n4_ n5_
      (try clear hb)
      (try clear hb2)
      (try clear hk)
      (try clear hi)
      (try clear ho0)
      refine hK.out _ _ ⟨v572, v575, v578, m11_, m12_, m13_, (by rw [ha.out]; exact putSel_upk 5 hb_ rfl rfl rfl), (by (with_reducible repeat (first | refine blk_drewN ?_ _ | refine blk_drew ?_ | refine blk_alloc ?_ _)); exact BK566.out), (by (with_reducible repeat (first | refine blk_drewN ?_ _ | refine blk_drew ?_ | refine blk_alloc ?_ _)); exact BK567.out), (by (with_reducible repeat (first | refine blk_drewN ?_ _ | refine blk_drew ?_ | refine blk_alloc ?_ _)); exact BK568.out), (by repeat (first | exact HB.out | apply below_alloc | apply pw_below_drewN | apply below_drew1 | refine below_set ?_ GE566.out | refine below_set ?_ GE567.out | refine below_set ?_ GE568.out)), fun _ => (by (with_reducible repeat (first | apply Kd.R_alloc | apply Kd.R_drewN | apply Kd.R_drew)); exact Kd.R_mono HO573.out (fun _ hk => by first | trivial | exact hk.2)), fun _ => (by (with_reducible repeat (first | apply Kd.R_alloc | apply Kd.R_drewN | apply Kd.R_drew)); exact Kd.R_mono HO576.out (fun _ hk => by first | trivial | exact hk.2)), z_HO579, fun h0_ => absurd ((hoff 11 (by kernel_rfl)).symm.trans h0_) (by decide), fun h0_ => absurd ((hoff 12 (by kernel_rfl)).symm.trans h0_) (by decide), fun h0_ => absurd ((hoff 13 (by kernel_rfl)).symm.trans h0_) (by decide), (fun x_ _ => apt_sym (apt_new nb_.out (fun k_ h_ => Kd.R_lt (Q_HO573 x_) k_ h_))), Q_C1, (fun _ y_ => apt_new nb_.out (fun k_ h_ => Kd.S_lt (Q_HO579 y_) k_ h_))⟩
     refine steps_cons ?_ ?_
     ·rintro b a w' ⟨v572, v575, v578, m11_, m12_, m13_, ha, Q_BK566, Q_BK567, Q_BK568, Q_HB, Q_HO573, Q_HO576, Q_HO579, Q_X11_, Q_X12_, Q_X13_, Q_C0, Q_C1, Q_C2⟩ hb_ hon hoff
      refine ⟨_, rfl, fun K hK => ?_⟩
      replace ha := Aside0.mk ha
      have BK566 := Aside0.mk Q_BK566
      have BK567 := Aside0.mk Q_BK567
      have BK568 := Aside0.mk Q_BK568
      have HB := Aside0.mk Q_HB
      refine Kd.S_lit_step (Kd.slice 3 (Kd.int .i64)) _ 22 ?hg (N := 36) ?hd (xs := ([] : List (List Int))) (inner := []) (ok := fun _ => True) (okp := fun _ => True) ?hr ?hp (fun _ hk => hk) trivial (Below.refl _ _) (Nat.le_refl _) (by simp) ?_; (case hd => rfl); (case hg => rfl); (case hr => first | (go_simp; done) | (go_simp; rfl)); (case hp => exact (Reps.none _ _))
      intro v578 w28 ho29 hb hg_ hnew_
      have nb_ := Aside0.mk (Kd.S_base ho29)
      clear hg_ hnew_
      (first | rw [← Ny577.out] at ho29 | (simp only [Int.reduceToNat] at ho29; rw [← Ny577.out] at ho29))
      have n0_ := Aside0.mk (Kd.S_lower ho29 (below_size (by repeat (first | exact HB.out | apply below_alloc | apply pw_below_drewN | apply below_drew1 | refine below_set ?_ GE566.out | refine below_set ?_ GE567.out | refine below_set ?_ GE568.out))))
      have n1_ := Aside0.mk (blk_below (g := gb566) (o := .cells #[.slice A0_0 l0_0.length c0_0, .slice A0_1 l0_1.length c0_1] 27 (0, 0)) (by (with_reducible repeat (first | refine blk_drewN ?_ _ | refine blk_drew ?_ | refine blk_alloc ?_ _)); exact BK566.out) hb)
      have n2_ := Aside0.mk (blk_below (g := gb567) (o := .cells #[.slice A1_0 l1_0.length c1_0, .slice A1_1 l1_1.length c1_1] 27 (0, 0)) (by (with_reducible repeat (first | refine blk_drewN ?_ _ | refine blk_drew ?_ | refine blk_alloc ?_ _)); exact BK567.out) hb)
      have n3_ := Aside0.mk (blk_below (g := gb568) (o := .cells #[.slice none 0 0, .slice none 0 0] 27 (0, 0)) (by (with_reducible repeat (first | refine blk_drewN ?_ _ | refine blk_drew ?_ | refine blk_alloc ?_ _)); exact BK568.out) hb)
      have n4_ := Aside0.mk (below_step (by repeat (first | exact HB.out | apply below_alloc | apply pw_below_drewN | apply below_drew1 | refine below_set ?_ GE566.out | refine below_set ?_ GE567.out | refine below_set ?_ GE568.out)) hb)
      have z_HO573 := fun (h0_ : b 4 = true) => (show Kd.R (Kd.int .i64) 3 w28 w.heap.size (fun _ => True) v572 t571 from by first | exact (Kd.R_below (by (with_reducible repeat (first | apply Kd.R_alloc | apply Kd.R_drewN | apply Kd.R_drew)); exact (Q_HO573 h0_)) hb) | exact Kd.R_mono (Kd.R_below (by (with_reducible repeat (first | apply Kd.R_alloc | apply Kd.R_drewN | apply Kd.R_drew)); exact (Q_HO573 h0_)) hb) (fun _ h_ => by first | trivial | exact h_ | exact h_.1))
      have z_HO576 := fun (h0_ : b 9 = true) => (show Kd.R (Kd.int .i64) 3 w28 w.heap.size (fun _ => True) v575 t574 from by first | exact (Kd.R_below (by (with_reducible repeat (first | apply Kd.R_alloc | apply Kd.R_drewN | apply Kd.R_drew)); exact (Q_HO576 h0_)) hb) | exact Kd.R_mono (Kd.R_below (by (with_reducible repeat (first | apply Kd.R_alloc | apply Kd.R_drewN | apply Kd.R_drew)); exact (Q_HO576 h0_)) hb) (fun _ h_ => by first | trivial | exact h_ | exact h_.1))
      clear BK566
      clear BK567
      clear BK568
      clear HB
      have HO579 := n0_
      have BK566 := n1_
      have BK567 := n2_
      have BK568 := n3_
      have HB := n4_
      clear n0_ n1_ n2_ n3_ n4_
      clear hb ho29
      refine hK.out _ _ ⟨v572, v575, v578, m11_, m12_, m13_, (by rw [ha.out]; exact putSel_upk 6 hb_ rfl rfl rfl), (by (with_reducible repeat (first | refine blk_drewN ?_ _ | refine blk_drew ?_ | refine blk_alloc ?_ _)); exact BK566.out), (by (with_reducible repeat (first | refine blk_drewN ?_ _ | refine blk_drew ?_ | refine blk_alloc ?_ _)); exact BK567.out), (by (with_reducible repeat (first | refine blk_drewN ?_ _ | refine blk_drew ?_ | refine blk_alloc ?_ _)); exact BK568.out), (by repeat (first | exact HB.out | apply below_alloc | apply pw_below_drewN | apply below_drew1 | refine below_set ?_ GE566.out | refine below_set ?_ GE567.out | refine below_set ?_ GE568.out)), z_HO573, z_HO576, fun _ => (by (with_reducible repeat (first | apply Kd.S_alloc | apply Kd.S_drewN | apply Kd.S_drew)); exact HO579.out), Q_X11_, Q_X12_, fun h0_ => absurd ((hoff 13 (by kernel_rfl)).symm.trans h0_) (by decide), Q_C0, (fun x_ _ => apt_sym (apt_new nb_.out (fun k_ h_ => Kd.R_lt (Q_HO573 x_) k_ h_))), (fun x_ _ => apt_sym (apt_new nb_.out (fun k_ h_ => Kd.R_lt (Q_HO576 x_) k_ h_)))⟩
     refine steps_cons ?_ ?_
     ·rintro b a w' ⟨v572, v575, v578, m11_, m12_, m13_, ha, Q_BK566, Q_BK567, Q_BK568, Q_HB, Q_HO573, Q_HO576, Q_HO579, Q_X11_, Q_X12_, Q_X13_, Q_C0, Q_C1, Q_C2⟩ hb_ hon hoff
      refine ⟨_, rfl, fun K hK => ?_⟩
      have e30 : a.tmps[30]? = some (v572) := by rw [ha]; exact putSel_on (e := (4, 30, v572)) 2 rfl rfl (hon 4 (by kernel_rfl)) rfl
      replace ha := Aside0.mk ha
      have BK566 := Aside0.mk Q_BK566
      have BK567 := Aside0.mk Q_BK567
      have BK568 := Aside0.mk Q_BK568
      have HB := Aside0.mk Q_HB
      have HO573 := Aside0.mk (Q_HO573 (hon 4 (by kernel_rfl)))
      have HO576 := Aside0.mk (Q_HO576 (hon 9 (by kernel_rfl)))
      refine value_ (w1 := w') (v := v572) (by rfl) rfl ?_ ?_
      ·go_simp
       (try simp only [i64_w])
       try rfl
      refine hK.out _ _ ⟨v572, v575, v578, (v572), m12_, m13_, (by rw [ha.out]; exact putSel_upk 7 hb_ rfl rfl rfl), Q_BK566, Q_BK567, Q_BK568, Q_HB, Q_HO573, Q_HO576, Q_HO579, fun _ => rfl, fun h0_ => absurd ((hoff 12 (by kernel_rfl)).symm.trans h0_) (by decide), fun h0_ => absurd ((hoff 13 (by kernel_rfl)).symm.trans h0_) (by decide), Q_C0, Q_C1, Q_C2⟩
     refine steps_cons ?_ ?_
     ·rintro b a w' ⟨v572, v575, v578, m11_, m12_, m13_, ha, Q_BK566, Q_BK567, Q_BK568, Q_HB, Q_HO573, Q_HO576, Q_HO579, Q_X11_, Q_X12_, Q_X13_, Q_C0, Q_C1, Q_C2⟩ hb_ hon hoff
      refine ⟨_, rfl, fun K hK => ?_⟩
      have e35 : a.tmps[35]? = some (v575) := by rw [ha]; exact putSel_on (e := (9, 35, v575)) 5 rfl rfl (hon 9 (by kernel_rfl)) rfl
      replace ha := Aside0.mk ha
      have BK566 := Aside0.mk Q_BK566
      have BK567 := Aside0.mk Q_BK567
      have BK568 := Aside0.mk Q_BK568
      have HB := Aside0.mk Q_HB
      have HO573 := Aside0.mk (Q_HO573 (hon 4 (by kernel_rfl)))
      have HO576 := Aside0.mk (Q_HO576 (hon 9 (by kernel_rfl)))
      refine value_ (w1 := w') (v := v575) (by rfl) rfl ?_ ?_
      ·go_simp
       (try simp only [i64_w])
       try rfl
      refine hK.out _ _ ⟨v572, v575, v578, m11_, (v575), m13_, (by rw [ha.out]; exact putSel_upk 8 hb_ rfl rfl rfl), Q_BK566, Q_BK567, Q_BK568, Q_HB, Q_HO573, Q_HO576, Q_HO579, Q_X11_, fun _ => rfl, fun h0_ => absurd ((hoff 13 (by kernel_rfl)).symm.trans h0_) (by decide), Q_C0, Q_C1, Q_C2⟩
     refine steps_cons ?_ ?_
     ·rintro b a w' ⟨v572, v575, v578, m11_, m12_, m13_, ha, Q_BK566, Q_BK567, Q_BK568, Q_HB, Q_HO573, Q_HO576, Q_HO579, Q_X11_, Q_X12_, Q_X13_, Q_C0, Q_C1, Q_C2⟩ hb_ hon hoff
      refine ⟨_, rfl, fun K hK => ?_⟩
      have e36 : a.tmps[36]? = some (v578) := by rw [ha]; exact putSel_on (e := (10, 36, v578)) 6 rfl rfl (hon 10 (by kernel_rfl)) rfl
      replace ha := Aside0.mk ha
      have BK566 := Aside0.mk Q_BK566
      have BK567 := Aside0.mk Q_BK567
      have BK568 := Aside0.mk Q_BK568
      have HB := Aside0.mk Q_HB
      have HO573 := Aside0.mk (Q_HO573 (hon 4 (by kernel_rfl)))
      have HO576 := Aside0.mk (Q_HO576 (hon 9 (by kernel_rfl)))
      have HO579 := Aside0.mk (Q_HO579 (hon 10 (by kernel_rfl)))
      refine value_ (w1 := w') (v := v578) (by rfl) rfl ?_ ?_
      ·go_simp
       (try simp only [i64_w])
       try rfl
      refine hK.out _ _ ⟨v572, v575, v578, m11_, m12_, (v578), (by rw [ha.out]; exact putSel_upk 9 hb_ rfl rfl rfl), Q_BK566, Q_BK567, Q_BK568, Q_HB, Q_HO573, Q_HO576, Q_HO579, Q_X11_, Q_X12_, fun _ => rfl, Q_C0, Q_C1, Q_C2⟩
     exact steps_nil
    rintro b a w32 hall ⟨v572, v575, v578, m11_, m12_, m13_, ha, Q_BK566, Q_BK567, Q_BK568, Q_HB, Q_HO573, Q_HO576, Q_HO579, Q_X11_, Q_X12_, Q_X13_, Q_C0, Q_C1, Q_C2⟩
    clear BK566 BK567 BK568 HB
    have hb1_ := hall 1 (by kernel_rfl)
    have hb3_ := hall 3 (by kernel_rfl)
    have hb4_ := hall 4 (by kernel_rfl)
    have hb6_ := hall 6 (by kernel_rfl)
    have hb8_ := hall 8 (by kernel_rfl)
    have hb9_ := hall 9 (by kernel_rfl)
    have hb10_ := hall 10 (by kernel_rfl)
    have hb11_ := hall 11 (by kernel_rfl)
    have hb12_ := hall 12 (by kernel_rfl)
    have hb13_ := hall 13 (by kernel_rfl)
    subst ha
    obtain rfl := (Q_X11_ hb11_).symm
    obtain rfl := (Q_X12_ hb12_).symm
    obtain rfl := (Q_X13_ hb13_).symm
    simp only [putSel, hb1_, hb3_, hb4_, hb6_, hb8_, hb9_, hb10_, hb11_, hb12_, hb13_, if_true, Act.put, List.setIfInBounds_toArray, List.set_cons_zero, List.set_cons_succ]
    have BK566 := Aside0.mk Q_BK566
    clear Q_BK566
    have BK567 := Aside0.mk Q_BK567
    clear Q_BK567
    have BK568 := Aside0.mk Q_BK568
    clear Q_BK568
    have HB := Aside0.mk Q_HB
    clear Q_HB
    have HO573 := Aside0.mk (Kd.R_reok rfl (Q_HO573 hb4_) (Q_C0 hb4_ hb9_))

    have HO576 := Aside0.mk (Kd.R_reok rfl (Q_HO576 hb9_) (apt_sym (Q_C0 hb4_ hb9_)))

    have HO579 := Aside0.mk (S_reok_nil (ok' := fun k_ => some k_ ≠ (v572 : Value).ownBlock ∧ some k_ ≠ (v575 : Value).ownBlock) Ny577.out (Q_HO579 hb10_) (fun k_ h_ => ⟨(apt_sym (Q_C1 hb4_ hb10_)) k_ h_, (apt_sym (Q_C2 hb9_ hb10_)) k_ h_⟩))

    clear hall hb1_ hb3_ hb4_ hb6_ hb8_ hb9_ hb10_ hb11_ hb12_ hb13_
    have hnb33 := NB566_567.out
    have hnc33 := NB567_566.out
    have hnb34 := NB566_568.out
    have hnc34 := NB568_566.out
    have hcz35_0 : w32.cell? ⟨gb566, 0, none⟩ = some (.slice A0_0 l0_0.length c0_0) := (blk_cell BK566.out 0).trans rfl
    have hcz35_1 : w32.cell? ⟨gb566, 1, none⟩ = some (.slice A0_1 l0_1.length c0_1) := (blk_cell BK566.out 1).trans rfl
    have hfz35_0 := blk_frozen BK566.out 0
    have hfz35_1 := blk_frozen BK566.out 1
    try go_wp2
    go_loopg [8, 40] kj2 (fun kq v8 v40 w' => ∃ (x8_2 : List (List Int)) (x40_2 : Int), v40 = .int .i64 x40_2 ∧ Aside0 (impl_JoinTwo.l0 kq t571 t574 x8_2 l0_1 (l0_1.length : Int) x40_2 l0_0 l0_1 l1_0 l1_1 = some (r1, r2, r3)) ∧ Aside0 (kq ≤ kj2) ∧ Aside0 (Kd.R (Kd.int .i64) 3 w' w.heap.size (fun k_ => some k_ ≠ (v575 : Value).ownBlock) v572 t571) ∧ Aside0 (Kd.R (Kd.int .i64) 3 w' w.heap.size (fun k_ => some k_ ≠ (v572 : Value).ownBlock) v575 t574) ∧ Aside0 (Kd.S (Kd.slice 3 (Kd.int .i64)) 22 w' w.heap.size (fun k_ => some k_ ≠ (v572 : Value).ownBlock ∧ some k_ ≠ (v575 : Value).ownBlock) v8 x8_2) ∧ Aside0 (w'.heap[gb566]? = some (.cells #[(.slice A0_0 l0_0.length c0_0), (.slice A0_1 l0_1.length c0_1)] 27 (0, 0))) ∧ Aside0 (w'.heap[gb567]? = some (.cells #[(.slice A1_0 l1_0.length c1_0), (.slice A1_1 l1_1.length c1_1)] 27 (0, 0))) ∧ Aside0 (w'.heap[gb568]? = some (.cells #[(.slice none 0 0), (.slice none 0 0)] 27 (0, 0))) ∧ Aside0 (Below w.heap.size w w'))
    case atStart => exact ⟨(y577), (0), (by first | rfl | (simp; done) | (simp [*]; done)), H', ⟨Nat.le_refl _⟩, ⟨by (with_reducible repeat (first | apply Kd.R_alloc | apply Kd.R_drewN | apply Kd.R_drew)); exact HO573.out⟩, ⟨by (with_reducible repeat (first | apply Kd.R_alloc | apply Kd.R_drewN | apply Kd.R_drew)); exact HO576.out⟩, ⟨by (with_reducible repeat (first | apply Kd.S_alloc | apply Kd.S_drewN | apply Kd.S_drew)); exact HO579.out⟩, ⟨by (with_reducible repeat (first | refine blk_drewN ?_ _ | refine blk_drew ?_ | refine blk_alloc ?_ _)); exact BK566.out⟩, ⟨by (with_reducible repeat (first | refine blk_drewN ?_ _ | refine blk_drew ?_ | refine blk_alloc ?_ _)); exact BK567.out⟩, ⟨by (with_reducible repeat (first | refine blk_drewN ?_ _ | refine blk_drew ?_ | refine blk_alloc ?_ _)); exact BK568.out⟩, ⟨by repeat (first | exact HB.out | apply below_alloc | apply pw_below_drewN | apply below_drew1 | refine below_set ?_ GE566.out | refine below_set ?_ GE567.out | refine below_set ?_ GE568.out)⟩⟩
    case round =>
     clear H'
     try clear c1
     try clear c2
     try clear p2
     try clear c3
     try clear c4
     try clear c8
     try clear c10
     try clear c11
     try clear c12
     try clear c14
     try clear c17
     try clear c18
     try clear c21
     try clear c22
     try clear c23
     try clear c33
     try clear c34
     try clear hcz12_0
     try clear hcz12_1
     try clear hcz15_0
     try clear hcz15_1
     try clear hcz19_0
     try clear hcz19_1
     try clear hcz24_0
     try clear hcz24_1
     try clear hcz35_0
     try clear hcz35_1
     try clear hfz12_0
     try clear hfz12_1
     try clear hfz15_0
     try clear hfz15_1
     try clear hfz19_0
     try clear hfz19_1
     try clear hfz24_0
     try clear hfz24_1
     try clear hfz35_0
     try clear hfz35_1
     try clear p2
     obtain ⟨x8_2, x40_2, rfl, HA, HK2, HO_6, HO_7, HO_8, BK566, BK567, BK568, HB⟩ := hrel
     cases gk with
     | zero => exact absurd HA.out (by simp [impl_JoinTwo.l0])
     | succ k2 =>
      have H := HA.out
      clear HA
      simp only [impl_JoinTwo.l0] at H
      by_cases c36 : x40_2 < (l0_1.length : Int)
      ·rw [if_pos c36] at H
       have c36b0 : decide (x40_2 < (l0_1.length : Int)) = true := decide_eq_true c36
       clear c36
       by_cases c37 : 0 ≤ x40_2
       ·rw [if_pos c37] at H
        have c37b0 : decide (0 ≤ x40_2) = true := decide_eq_true c37
        clear c37
        by_cases c38 : x40_2 < (l0_1.length : Int)
        ·rw [if_pos c38] at H
         have c38b0 : decide (x40_2 < (l0_1.length : Int)) = true := decide_eq_true c38
         clear c38
         have H' := Aside0.mk H
         clear H
         have p587 : 0 ≤ (x40_2 : Int) := of_decide_eq_true (by first | (with_reducible assumption) | assumption)
         have q587 : x40_2 < (l0_1.length : Int) := of_decide_eq_true (by first | (with_reducible assumption) | assumption)
         obtain ⟨ad587, A587_0, c587_0, e587, hx587_0, hl587_0, hi587_0⟩ := at_L1 HR0_1.out x40_2 p587 q587
         cases e587
         replace hx587_0 := (HB.out.cell (World.block_lt_of_cell? w _ hx587_0)).trans hx587_0
         have HR587_0 := Aside0.mk hi587_0
         have HC587_0 := Aside0.mk hl587_0
         clear hi587_0 hl587_0
         replace p587 := eq_true p587
         replace q587 := eq_true q587
         have hnb39 := NB567_566.out
         have hnc39 := NB566_567.out
         have hnb40 := NB567_568.out
         have hnc40 := NB568_567.out
         have hcz41_0 : wr.cell? ⟨gb567, 0, none⟩ = some (.slice A1_0 l1_0.length c1_0) := (blk_cell BK567.out 0).trans rfl
         have hcz41_1 : wr.cell? ⟨gb567, 1, none⟩ = some (.slice A1_1 l1_1.length c1_1) := (blk_cell BK567.out 1).trans rfl
         have hfz41_0 := blk_frozen BK567.out 0
         have hfz41_1 := blk_frozen BK567.out 1
         go_wp2
         go_loopg [8, 47] k2 (fun kq v8 v47 w' => ∃ (x8_3 : List (List Int)) (x47_3 : Int), v47 = .int .i64 x47_3 ∧ Aside0 (impl_JoinTwo.l1 kq t571 t574 x8_3 (rd_L1 l0_1 x40_2) l0_1 (l0_1.length : Int) x40_2 l1_1 (l1_1.length : Int) x47_3 l0_0 l0_1 l1_0 l1_1 = some (r1, r2, r3)) ∧ Aside0 (kq ≤ k2) ∧ Aside0 (Kd.R (Kd.int .i64) 3 w' w.heap.size (fun k_ => some k_ ≠ (v575 : Value).ownBlock) v572 t571) ∧ Aside0 (Kd.R (Kd.int .i64) 3 w' w.heap.size (fun k_ => some k_ ≠ (v572 : Value).ownBlock) v575 t574) ∧ Aside0 (Kd.S (Kd.slice 3 (Kd.int .i64)) 22 w' w.heap.size (fun k_ => some k_ ≠ (v572 : Value).ownBlock ∧ some k_ ≠ (v575 : Value).ownBlock) v8 x8_3) ∧ Aside0 (w'.heap[gb566]? = some (.cells #[(.slice A0_0 l0_0.length c0_0), (.slice (some ad587) l0_1.length c0_1)] 27 (0, 0))) ∧ Aside0 (w'.heap[gb567]? = some (.cells #[(.slice A1_0 l1_0.length c1_0), (.slice A1_1 l1_1.length c1_1)] 27 (0, 0))) ∧ Aside0 (w'.heap[gb568]? = some (.cells #[(.slice none 0 0), (.slice none 0 0)] 27 (0, 0))) ∧ Aside0 (Below w.heap.size w w'))
         case atStart => exact ⟨(x8_2), (0), (by first | rfl | (simp; done) | (simp [*]; done)), H', ⟨Nat.le_refl _⟩, ⟨by (with_reducible repeat (first | apply Kd.R_alloc | apply Kd.R_drewN | apply Kd.R_drew)); exact HO_6.out⟩, ⟨by (with_reducible repeat (first | apply Kd.R_alloc | apply Kd.R_drewN | apply Kd.R_drew)); exact HO_7.out⟩, ⟨by (with_reducible repeat (first | apply Kd.S_alloc | apply Kd.S_drewN | apply Kd.S_drew)); exact HO_8.out⟩, ⟨by (with_reducible repeat (first | refine blk_drewN ?_ _ | refine blk_drew ?_ | refine blk_alloc ?_ _)); exact BK566.out⟩, ⟨by (with_reducible repeat (first | refine blk_drewN ?_ _ | refine blk_drew ?_ | refine blk_alloc ?_ _)); exact BK567.out⟩, ⟨by (with_reducible repeat (first | refine blk_drewN ?_ _ | refine blk_drew ?_ | refine blk_alloc ?_ _)); exact BK568.out⟩, ⟨by repeat (first | exact HB.out | apply below_alloc | apply pw_below_drewN | apply below_drew1 | refine below_set ?_ GE566.out | refine below_set ?_ GE567.out | refine below_set ?_ GE568.out)⟩⟩
         case round =>
          clear H'
          try clear c1
          try clear c2
          try clear p2
          try clear c3
          try clear c4
          try clear c5
          try clear p5
          try clear q5
          try clear hx5
          try clear c8
          try clear c10
          try clear c11
          try clear c12
          try clear c14
          try clear c17
          try clear c18
          try clear c21
          try clear c22
          try clear c23
          try clear c33
          try clear c34
          try clear c36
          try clear c36b0
          try clear c37
          try clear c37b0
          try clear c38
          try clear c38b0
          try clear c39
          try clear c40
          try clear hcz12_0
          try clear hcz12_1
          try clear hcz15_0
          try clear hcz15_1
          try clear hcz19_0
          try clear hcz19_1
          try clear hcz24_0
          try clear hcz24_1
          try clear hcz35_0
          try clear hcz35_1
          try clear hcz41_0
          try clear hcz41_1
          try clear hfz12_0
          try clear hfz12_1
          try clear hfz15_0
          try clear hfz15_1
          try clear hfz19_0
          try clear hfz19_1
          try clear hfz24_0
          try clear hfz24_1
          try clear hfz35_0
          try clear hfz35_1
          try clear hfz41_0
          try clear hfz41_1
          try clear hx587_0
          try clear p2
          try clear p587
          try clear q587
          obtain ⟨x8_3, x47_3, rfl, HA, HK3, HO_6, HO_7, HO_8, BK566, BK567, BK568, HB⟩ := hrel
          cases gk with
          | zero => exact absurd HA.out (by simp [impl_JoinTwo.l1])
          | succ k3 =>
           have H := HA.out
           clear HA
           simp only [impl_JoinTwo.l1] at H
           by_cases c42 : x47_3 < (l1_1.length : Int)
           ·rw [if_pos c42] at H
            have c42b0 : decide (x47_3 < (l1_1.length : Int)) = true := decide_eq_true c42
            clear c42
            by_cases c43 : 0 ≤ x47_3
            ·rw [if_pos c43] at H
             have c43b0 : decide (0 ≤ x47_3) = true := decide_eq_true c43
             clear c43
             by_cases c44 : x47_3 < (l1_1.length : Int)
             ·rw [if_pos c44] at H
              have c44b0 : decide (x47_3 < (l1_1.length : Int)) = true := decide_eq_true c44
              clear c44
              replace H := Option.bind_eq_some_iff.mp H
              obtain ⟨t589, A450, H⟩ := H
              replace H : ((impl_under.f k3 l1_0 (rd_L1 l1_1 x47_3) t571).bind fun t592 => ((slices_Equal_int_int.f k3 t589 t592).bind fun t595 => (if t595 = true then (impl_JoinTwo.l2 k3 t571 t574 x8_3 (rd_L1 l0_1 x40_2) (rd_L1 l1_1 x47_3) (([] : List Int)) l0_1 (l0_1.length : Int) x40_2 l1_1 (l1_1.length : Int) x47_3 t574 (t574.length : Int) 0 l0_0 l0_1 l1_0 l1_1) else (impl_JoinTwo.l1 k3 t571 t574 x8_3 (rd_L1 l0_1 x40_2) l0_1 (l0_1.length : Int) x40_2 l1_1 (l1_1.length : Int) (wrap64 (x47_3 + 1)) l0_0 l0_1 l1_0 l1_1)))) = some (r1, r2, r3) := H
              have A45 := Aside0.mk A450
              clear A450
              replace H := Option.bind_eq_some_iff.mp H
              obtain ⟨t592, A460, H⟩ := H
              replace H : ((slices_Equal_int_int.f k3 t589 t592).bind fun t595 => (if t595 = true then (impl_JoinTwo.l2 k3 t571 t574 x8_3 (rd_L1 l0_1 x40_2) (rd_L1 l1_1 x47_3) (([] : List Int)) l0_1 (l0_1.length : Int) x40_2 l1_1 (l1_1.length : Int) x47_3 t574 (t574.length : Int) 0 l0_0 l0_1 l1_0 l1_1) else (impl_JoinTwo.l1 k3 t571 t574 x8_3 (rd_L1 l0_1 x40_2) l0_1 (l0_1.length : Int) x40_2 l1_1 (l1_1.length : Int) (wrap64 (x47_3 + 1)) l0_0 l0_1 l1_0 l1_1))) = some (r1, r2, r3) := H
              have A46 := Aside0.mk A460
              clear A460
              replace H := Option.bind_eq_some_iff.mp H
              obtain ⟨t595, A470, H⟩ := H
              replace H : (if t595 = true then (impl_JoinTwo.l2 k3 t571 t574 x8_3 (rd_L1 l0_1 x40_2) (rd_L1 l1_1 x47_3) (([] : List Int)) l0_1 (l0_1.length : Int) x40_2 l1_1 (l1_1.length : Int) x47_3 t574 (t574.length : Int) 0 l0_0 l0_1 l1_0 l1_1) else (impl_JoinTwo.l1 k3 t571 t574 x8_3 (rd_L1 l0_1 x40_2) l0_1 (l0_1.length : Int) x40_2 l1_1 (l1_1.length : Int) (wrap64 (x47_3 + 1)) l0_0 l0_1 l1_0 l1_1)) = some (r1, r2, r3) := H
              have A47 := Aside0.mk A470
              clear A470
              by_cases c48 : t595 = true
              ·subst c48
               have H1 : (impl_JoinTwo.l2 k3 t571 t574 x8_3 (rd_L1 l0_1 x40_2) (rd_L1 l1_1 x47_3) (([] : List Int)) l0_1 (l0_1.length : Int) x40_2 l1_1 (l1_1.length : Int) x47_3 t574 (t574.length : Int) 0 l0_0 l0_1 l1_0 l1_1) = some (r1, r2, r3) := by rw [if_pos rfl] at H; exact H
               clear H
               have H := H1
               clear H1
               obtain ⟨y596, hy596⟩ : ∃ y_ : List Int, y_ = (([] : List Int)) := ⟨_, rfl⟩
               replace H : (impl_JoinTwo.l2 k3 t571 t574 x8_3 (rd_L1 l0_1 x40_2) (rd_L1 l1_1 x47_3) y596 l0_1 (l0_1.length : Int) x40_2 l1_1 (l1_1.length : Int) x47_3 t574 (t574.length : Int) 0 l0_0 l0_1 l1_0 l1_1) = some (r1, r2, r3) := by first | (rw [hy596]; with_reducible exact H) | (have H2_ := (Option.bind_some _ _).symm.trans H; rw [hy596]; with_reducible exact H2_) | (have H2_ := (Option.bind_some _ _).symm.trans H; with_reducible exact H2_) | with_reducible exact H | (rw [hy596]; exact H) | exact H
               have Ny596 := Aside0.mk hy596
               clear hy596
               have H' := Aside0.mk H
               clear H
               have p588 : 0 ≤ (x47_3 : Int) := of_decide_eq_true (by first | (with_reducible assumption) | assumption)
               have q588 : x47_3 < (l1_1.length : Int) := of_decide_eq_true (by first | (with_reducible assumption) | assumption)
               obtain ⟨ad588, A588_0, c588_0, e588, hx588_0, hl588_0, hi588_0⟩ := at_L1 HR1_1.out x47_3 p588 q588
               cases e588
               replace hx588_0 := (HB.out.cell (World.block_lt_of_cell? w _ hx588_0)).trans hx588_0
               have HR588_0 := Aside0.mk hi588_0
               have HC588_0 := Aside0.mk hl588_0
               clear hi588_0 hl588_0
               replace p588 := eq_true p588
               replace q588 := eq_true q588
               try go_wp2
               have n0_ := Aside0.mk (Kd.R_drew HO_6.out)
               have n1_ := Aside0.mk (Kd.R_drew HO_7.out)
               have n2_ := Aside0.mk (Kd.S_drew HO_8.out)
               have n3_ := Aside0.mk (blk_drew BK566.out)
               have n4_ := Aside0.mk (blk_drew BK567.out)
               have n5_ := Aside0.mk (blk_drew BK568.out)
               have n6_ := Aside0.mk (below_drew1 HB.out)
               clear HO_6
               clear HO_7
               clear HO_8
               clear BK566
               clear BK567
               clear BK568
               clear HB
               have HO_6 := n0_
               have HO_7 := n1_
               have HO_8 := n2_
               have BK566 := n3_
               have BK567 := n4_
               have BK568 := n5_
               have HB := n6_
               clear n0_ n1_ n2_ n3_ n4_ n5_ n6_
               obtain ⟨Ao50, co50, eo50⟩ := Kd.R_slice HO_6.out
               (first | subst eo50 | (injection eo50 with f1_ f2_ f3_; have f4_ := f1_.symm; have f5_ := f3_.symm; clear f1_ f2_ f3_; subst f4_; subst f5_))
               refine start_ (n := 12) (S := fun w' => w'.cell? ⟨gb566, 0, none⟩ = some (.slice A0_0 l0_0.length c0_0) ∧ w'.cell? ⟨gb566, 1, none⟩ = some (.slice (some ad587) l0_1.length c0_1) ∧ w'.cell? ⟨gb567, 0, none⟩ = some (.slice A1_0 l1_0.length c1_0) ∧ w'.cell? ⟨gb567, 1, none⟩ = some (.slice (some ad588) l1_1.length c1_1)) (ds := []) #[false, false, false, false, false, false, false, false, false, false, false, false] (by kernel_rfl) rfl rfl ⟨(blk_cell BK566.out 0).trans rfl, (blk_cell BK566.out 1).trans rfl, (blk_cell BK567.out 0).trans rfl, (blk_cell BK567.out 1).trans rfl⟩ (fun hHeld => ?_); refine with_tabW impl_JoinTwo.tab10 impl_JoinTwo.bits10 (fun HT_ HW_ => ?_)
               generalize wr.drew = w49 at HO_6 HO_7 HO_8 BK566 BK567 BK568 HB hHeld ⊢
               refine pure_ (i := 0) (N := some 51) (v := ?_) (a' := ?_) #[true, false, false, false, false, false, false, false, false, false, false, false] rfl rfl (any_of HT_.out (by kernel_rfl)) (fun _ _ _ h => h) (Or.inl ⟨by rfl, ?_⟩) ?_ ?_
               rotate_left
               ·intro w'
                go_simp
                with_reducible rfl
               rotate_left
               ·simp only [Act.put, List.setIfInBounds_toArray, List.set_cons_zero, List.set_cons_succ, i64_w, i32_w]
                rfl
               refine pure_ (i := 2) (N := some 53) (v := ?_) (a' := ?_) #[true, false, true, false, false, false, false, false, false, false, false, false] rfl rfl (any_of HT_.out (by kernel_rfl)) (fun _ _ _ h => h) (Or.inl ⟨by rfl, ?_⟩) ?_ ?_
               rotate_left
               ·intro w'
                go_simp
                with_reducible rfl
               rotate_left
               ·simp only [Act.put, List.setIfInBounds_toArray, List.set_cons_zero, List.set_cons_succ, i64_w, i32_w]
                rfl
               refine pure_ (i := 3) (N := some 54) (v := ?_) (a' := ?_) #[true, false, true, true, false, false, false, false, false, false, false, false] rfl rfl (any_of HT_.out (by kernel_rfl)) (fun _ _ _ h => h) (Or.inl ⟨by rfl, ?_⟩) ?_ ?_
               rotate_left
               ·intro w'
                go_simp
                with_reducible rfl
               rotate_left
               ·simp only [Act.put, List.setIfInBounds_toArray, List.set_cons_zero, List.set_cons_succ, i64_w, i32_w]
                rfl
               refine pure_ (i := 5) (N := some 56) (v := ?_) (a' := ?_) #[true, false, true, true, false, true, false, false, false, false, false, false] rfl rfl (any_of HT_.out (by kernel_rfl)) (fun _ _ _ h => h) (Or.inl ⟨by rfl, ?_⟩) ?_ ?_
               rotate_left
               ·intro w'
                go_simp
                with_reducible rfl
               rotate_left
               ·simp only [Act.put, List.setIfInBounds_toArray, List.set_cons_zero, List.set_cons_succ, i64_w, i32_w]
                rfl
               refine pure_ (i := 7) (N := some 58) (v := ?_) (a' := ?_) #[true, false, true, true, false, true, false, true, false, false, false, false] rfl rfl (any_of HT_.out (by kernel_rfl)) (fun _ _ _ h => h) (Or.inl ⟨by rfl, ?_⟩) ?_ ?_
               rotate_left
               ·intro w'
                go_simp
                with_reducible rfl
               rotate_left
               ·simp only [Act.put, List.setIfInBounds_toArray, List.set_cons_zero, List.set_cons_succ, i64_w, i32_w]
                rfl
               refine pure_ (i := 8) (N := some 59) (v := ?_) (a' := ?_) #[true, false, true, true, false, true, false, true, true, false, false, false] rfl rfl (any_of HT_.out (by kernel_rfl)) (fun _ _ _ h => h) (Or.inl ⟨by rfl, ?_⟩) ?_ ?_
               rotate_left
               ·intro w'
                go_simp
                with_reducible rfl
               rotate_left
               ·simp only [Act.put, List.setIfInBounds_toArray, List.set_cons_zero, List.set_cons_succ, i64_w, i32_w]
                rfl
               refine take_ (i := 1) (N := some 52) (v := ?_) (a' := ?_) #[true, true, true, true, false, true, false, true, true, false, false, false] rfl rfl (take_ofW HT_.out HW_.out (by kernel_rfl)) (fun _ _ _ h => h) (Or.inl ⟨by rfl, ?_⟩) hHeld ?_ ?_
               rotate_left
               ·rintro w' ⟨s0, s1, s2, s3⟩
                go_simp
                with_reducible rfl
               rotate_left
               ·simp only [Act.put, List.setIfInBounds_toArray, List.set_cons_zero, List.set_cons_succ, i64_w, i32_w]
                rfl
               refine take_ (i := 6) (N := some 57) (v := ?_) (a' := ?_) #[true, true, true, true, false, true, true, true, true, false, false, false] rfl rfl (take_ofW HT_.out HW_.out (by kernel_rfl)) (fun _ _ _ h => h) (Or.inl ⟨by rfl, ?_⟩) hHeld ?_ ?_
               rotate_left
               ·rintro w' ⟨s0, s1, s2, s3⟩
                go_simp
                with_reducible rfl
               rotate_left
               ·simp only [Act.put, List.setIfInBounds_toArray, List.set_cons_zero, List.set_cons_succ, i64_w, i32_w]
                rfl
               refine one_ (i := 4) (N := some 55) #[true, true, true, true, true, true, true, true, true, false, false, false] rfl rfl (one_of HT_.out (by kernel_rfl)) (by decide) (fun K hK => ?_)
               refine goes_ Try.func50 (by kernel_rfl) rfl #[.slice A0_0 l0_0.length c0_0, .slice A587_0 (rd_L1 l0_1 x40_2).length c587_0, .slice Ao50 t571.length co50] (by rfl) rfl rfl (by (try simp only [List.map_toArray, List.map_cons, List.map_nil]); first | done | rfl | (simp only [List.length_drop, List.length_take]; rfl)) ?_
               with_reducible refine (impl_under.calls k3 _ _ l0_0 _ _ (rd_L1 l0_1 x40_2) _ _ t571 t589 _ ?side1 ?side2 ?side3 ?side4 ?side5 ?side6 A45.out).mono ?_
               (case side1 => repeat (first | exact (Kd.C_below HR0_0.out HB.out) | (with_reducible refine Kd.C_alloc ?_ _) | (with_reducible refine Kd.C_drewN ?_ _) | (with_reducible refine Kd.C_drew ?_)))
               (case side2 => exact HC0_0.out)
               (case side3 => repeat (first | exact (Kd.C_below HR587_0.out HB.out) | (with_reducible refine Kd.C_alloc ?_ _) | (with_reducible refine Kd.C_drewN ?_ _) | (with_reducible refine Kd.C_drew ?_)))
               (case side4 => exact HC587_0.out)
               (case side5 => repeat (first | exact (Kd.R_reads' HO_6.out).2.2 | (with_reducible refine Kd.C_alloc ?_ _) | (with_reducible refine Kd.C_drewN ?_ _) | (with_reducible refine Kd.C_drew ?_)))
               (case side6 => exact (Kd.R_reads' HO_6.out).2.1)
               rintro e w51 ⟨v590, rfl, ho0, hb⟩
               refine ⟨_, rfl, ?_⟩
               have n0_ := Aside0.mk (Kd.R_elder' (by (with_reducible repeat (first | apply Kd.R_alloc | apply Kd.R_drewN | apply Kd.R_drew)); exact HO_6.out) (Kd.R_base ho0) hb)
               have n1_ := Aside0.mk (Kd.R_elder' (by (with_reducible repeat (first | apply Kd.R_alloc | apply Kd.R_drewN | apply Kd.R_drew)); exact HO_7.out) (Kd.R_base ho0) hb)
               have n2_ := Aside0.mk (Kd.S_elder' (by (with_reducible repeat (first | apply Kd.S_alloc | apply Kd.S_drewN | apply Kd.S_drew)); exact HO_8.out) (Kd.R_base ho0) hb)
               have n3_ := Aside0.mk (Kd.R_lower (Kd.R_new' (Kd.R_new' ho0 (Kd.R_lt (by (with_reducible repeat (first | apply Kd.R_alloc | apply Kd.R_drewN | apply Kd.R_drew)); exact HO_6.out))) (Kd.R_lt (by (with_reducible repeat (first | apply Kd.R_alloc | apply Kd.R_drewN | apply Kd.R_drew)); exact HO_7.out))) (below_size (by repeat (first | exact HB.out | apply below_alloc | apply pw_below_drewN | apply below_drew1 | refine below_set ?_ GE566.out | refine below_set ?_ GE567.out | refine below_set ?_ GE568.out))))
               have n4_ := Aside0.mk (blk_below (g := gb566) (o := .cells #[.slice A0_0 l0_0.length c0_0, .slice (some ad587) l0_1.length c0_1] 27 (0, 0)) (by (with_reducible repeat (first | refine blk_drewN ?_ _ | refine blk_drew ?_ | refine blk_alloc ?_ _)); exact BK566.out) hb)
               have n5_ := Aside0.mk (blk_below (g := gb567) (o := .cells #[.slice A1_0 l1_0.length c1_0, .slice (some ad588) l1_1.length c1_1] 27 (0, 0)) (by (with_reducible repeat (first | refine blk_drewN ?_ _ | refine blk_drew ?_ | refine blk_alloc ?_ _)); exact BK567.out) hb)
               have n6_ := Aside0.mk (blk_below (g := gb568) (o := .cells #[.slice none 0 0, .slice none 0 0] 27 (0, 0)) (by (with_reducible repeat (first | refine blk_drewN ?_ _ | refine blk_drew ?_ | refine blk_alloc ?_ _)); exact BK568.out) hb)
               have n7_ := Aside0.mk (below_step (by repeat (first | exact HB.out | apply below_alloc | apply pw_below_drewN | apply below_drew1 | refine below_set ?_ GE566.out | refine below_set ?_ GE567.out | refine below_set ?_ GE568.out)) hb)
               clear HO_6
               clear HO_7
               clear HO_8
               clear BK566
               clear BK567
               clear BK568
               clear HB
               have HO_6 := n0_
               have HO_7 := n1_
               have HO_8 := n2_
               have HO591 := n3_
               have BK566 := n4_
               have BK567 := n5_
               have BK568 := n6_
               have HB := n7_
               clear n0_ n1_ n2_ n3_ n4_ n5_ n6_ n7_
               (try clear hb)
               (try clear hb2)
               (try clear hk)
               (try clear hi)
               (try clear ho0)
               refine hK.out _ _ ⟨(blk_cell BK566.out 0).trans rfl, (blk_cell BK566.out 1).trans rfl, (blk_cell BK567.out 0).trans rfl, (blk_cell BK567.out 1).trans rfl⟩ (fun hHeld => ?_)
               clear hK K
               refine norm_ (a' := ?_) ?_ ?_
               rotate_left
               ·show Act.put _ (some 55) _ = _
                simp only [Act.put, List.setIfInBounds_toArray, List.set_cons_zero, List.set_cons_succ, i64_w, i32_w]
                rfl
               refine one_ (i := 9) (N := some 60) #[true, true, true, true, true, true, true, true, true, true, false, false] rfl rfl (one_of HT_.out (by kernel_rfl)) (by decide) (fun K hK => ?_)
               refine goes_ Try.func50 (by kernel_rfl) rfl #[.slice A1_0 l1_0.length c1_0, .slice A588_0 (rd_L1 l1_1 x47_3).length c588_0, .slice Ao50 t571.length co50] (by rfl) rfl rfl (by (try simp only [List.map_toArray, List.map_cons, List.map_nil]); first | done | rfl | (simp only [List.length_drop, List.length_take]; rfl)) ?_
               with_reducible refine (impl_under.calls k3 _ _ l1_0 _ _ (rd_L1 l1_1 x47_3) _ _ t571 t592 _ ?side1 ?side2 ?side3 ?side4 ?side5 ?side6 A46.out).mono ?_
               (case side1 => repeat (first | exact (Kd.C_below HR1_0.out HB.out) | (with_reducible refine Kd.C_alloc ?_ _) | (with_reducible refine Kd.C_drewN ?_ _) | (with_reducible refine Kd.C_drew ?_)))
               (case side2 => exact HC1_0.out)
               (case side3 => repeat (first | exact (Kd.C_below HR588_0.out HB.out) | (with_reducible refine Kd.C_alloc ?_ _) | (with_reducible refine Kd.C_drewN ?_ _) | (with_reducible refine Kd.C_drew ?_)))
               (case side4 => exact HC588_0.out)
               (case side5 => repeat (first | exact (Kd.R_reads' HO_6.out).2.2 | (with_reducible refine Kd.C_alloc ?_ _) | (with_reducible refine Kd.C_drewN ?_ _) | (with_reducible refine Kd.C_drew ?_)))
               (case side6 => exact (Kd.R_reads' HO_6.out).2.1)
               rintro e w52 ⟨v593, rfl, ho0, hb⟩
               refine ⟨_, rfl, ?_⟩
               have n0_ := Aside0.mk (Kd.R_elder' (by (with_reducible repeat (first | apply Kd.R_alloc | apply Kd.R_drewN | apply Kd.R_drew)); exact HO_6.out) (Kd.R_base ho0) hb)
               have n1_ := Aside0.mk (Kd.R_elder' (by (with_reducible repeat (first | apply Kd.R_alloc | apply Kd.R_drewN | apply Kd.R_drew)); exact HO_7.out) (Kd.R_base ho0) hb)
               have n2_ := Aside0.mk (Kd.S_elder' (by (with_reducible repeat (first | apply Kd.S_alloc | apply Kd.S_drewN | apply Kd.S_drew)); exact HO_8.out) (Kd.R_base ho0) hb)
               have n3_ := Aside0.mk (Kd.R_elder' (by (with_reducible repeat (first | apply Kd.R_alloc | apply Kd.R_drewN | apply Kd.R_drew)); exact HO591.out) (Kd.R_base ho0) hb)
               have n4_ := Aside0.mk (Kd.R_lower (Kd.R_new' (Kd.R_new' (Kd.R_new' ho0 (Kd.R_lt (by (with_reducible repeat (first | apply Kd.R_alloc | apply Kd.R_drewN | apply Kd.R_drew)); exact HO_6.out))) (Kd.R_lt (by (with_reducible repeat (first | apply Kd.R_alloc | apply Kd.R_drewN | apply Kd.R_drew)); exact HO_7.out))) (Kd.R_lt (by (with_reducible repeat (first | apply Kd.R_alloc | apply Kd.R_drewN | apply Kd.R_drew)); exact HO591.out))) (below_size (by repeat (first | exact HB.out | apply below_alloc | apply pw_below_drewN | apply below_drew1 | refine below_set ?_ GE566.out | refine below_set ?_ GE567.out | refine below_set ?_ GE568.out))))
               have n5_ := Aside0.mk (blk_below (g := gb566) (o := .cells #[.slice A0_0 l0_0.length c0_0, .slice (some ad587) l0_1.length c0_1] 27 (0, 0)) (by (with_reducible repeat (first | refine blk_drewN ?_ _ | refine blk_drew ?_ | refine blk_alloc ?_ _)); exact BK566.out) hb)
               have n6_ := Aside0.mk (blk_below (g := gb567) (o := .cells #[.slice A1_0 l1_0.length c1_0, .slice (some ad588) l1_1.length c1_1] 27 (0, 0)) (by (with_reducible repeat (first | refine blk_drewN ?_ _ | refine blk_drew ?_ | refine blk_alloc ?_ _)); exact BK567.out) hb)
               have n7_ := Aside0.mk (blk_below (g := gb568) (o := .cells #[.slice none 0 0, .slice none 0 0] 27 (0, 0)) (by (with_reducible repeat (first | refine blk_drewN ?_ _ | refine blk_drew ?_ | refine blk_alloc ?_ _)); exact BK568.out) hb)
               have n8_ := Aside0.mk (below_step (by repeat (first | exact HB.out | apply below_alloc | apply pw_below_drewN | apply below_drew1 | refine below_set ?_ GE566.out | refine below_set ?_ GE567.out | refine below_set ?_ GE568.out)) hb)
               clear HO_6
               clear HO_7
               clear HO_8
               clear HO591
               clear BK566
               clear BK567
               clear BK568
               clear HB
               have HO_6 := n0_
               have HO_7 := n1_
               have HO_8 := n2_
               have HO591 := n3_
               have HO594 := n4_
               have BK566 := n5_
               have BK567 := n6_
               have BK568 := n7_
               have HB := n8_
               clear n0_ n1_ n2_ n3_ n4_ n5_ n6_ n7_ n8_
               (try clear hb)
               (try clear hb2)
               (try clear hk)
               (try clear hi)
               (try clear ho0)
               obtain ⟨Ao53, co53, eo53⟩ := Kd.R_slice HO591.out
               (first | subst eo53 | (injection eo53 with f1_ f2_ f3_; have f4_ := f1_.symm; have f5_ := f3_.symm; clear f1_ f2_ f3_; subst f4_; subst f5_))
               obtain ⟨Ao54, co54, eo54⟩ := Kd.R_slice HO594.out
               (first | subst eo54 | (injection eo54 with f1_ f2_ f3_; have f4_ := f1_.symm; have f5_ := f3_.symm; clear f1_ f2_ f3_; subst f4_; subst f5_))
               refine hK.out _ _ ⟨(blk_cell BK566.out 0).trans rfl, (blk_cell BK566.out 1).trans rfl, (blk_cell BK567.out 0).trans rfl, (blk_cell BK567.out 1).trans rfl⟩ (fun hHeld => ?_)
               clear hK K
               refine norm_ (a' := ?_) ?_ ?_
               rotate_left
               ·show Act.put _ (some 60) _ = _
                simp only [Act.put, List.setIfInBounds_toArray, List.set_cons_zero, List.set_cons_succ, i64_w, i32_w]
                rfl
               refine one_ (i := 10) (N := some 61) #[true, true, true, true, true, true, true, true, true, true, true, false] rfl rfl (one_of HT_.out (by kernel_rfl)) (by decide) (fun K hK => ?_)
               refine goes_ Try.func49 (by kernel_rfl) rfl #[.slice Ao53 t589.length co53, .slice Ao54 t592.length co54] (by rfl) rfl rfl (by (try simp only [List.map_toArray, List.map_cons, List.map_nil]); first | done | rfl | (simp only [List.length_drop, List.length_take]; rfl)) ?_
               with_reducible refine (slices_Equal_int_int.calls k3 _ _ t589 _ _ t592 true _ ?side1 ?side2 ?side3 ?side4 A47.out).mono ?_
               (case side1 => repeat (first | exact (Kd.R_reads' HO591.out).2.2 | (with_reducible refine Kd.C_alloc ?_ _) | (with_reducible refine Kd.C_drewN ?_ _) | (with_reducible refine Kd.C_drew ?_)))
               (case side2 => exact (Kd.R_reads' HO591.out).2.1)
               (case side3 => repeat (first | exact (Kd.R_reads' HO594.out).2.2 | (with_reducible refine Kd.C_alloc ?_ _) | (with_reducible refine Kd.C_drewN ?_ _) | (with_reducible refine Kd.C_drew ?_)))
               (case side4 => exact (Kd.R_reads' HO594.out).2.1)
               rintro e w' ⟨rfl, ⟨nd, rfl⟩⟩
               refine ⟨_, rfl, ?_⟩
               refine hK.out _ _ ⟨(blk_cell BK566.out 0).trans rfl, (blk_cell BK566.out 1).trans rfl, (blk_cell BK567.out 0).trans rfl, (blk_cell BK567.out 1).trans rfl⟩ (fun hHeld => ?_)
               clear hK K
               refine norm_ (a' := ?_) ?_ ?_
               rotate_left
               ·show Act.put _ (some 61) _ = _
                simp only [Act.put, List.setIfInBounds_toArray, List.set_cons_zero, List.set_cons_succ, i64_w, i32_w]
                rfl
               refine pure_ (i := 11) (N := some 62) (v := ?_) (a' := ?_) #[true, true, true, true, true, true, true, true, true, true, true, true] rfl rfl (any_of HT_.out (by kernel_rfl)) (fun _ _ _ h => h) (Or.inl ⟨by rfl, ?_⟩) ?_ ?_
               rotate_left
               ·intro w'
                go_simp
                with_reducible rfl
               rotate_left
               ·simp only [Act.put, List.setIfInBounds_toArray, List.set_cons_zero, List.set_cons_succ, i64_w, i32_w]
                rfl
               refine done_ (done_of HT_.out (by kernel_rfl)) ?_
               try go_wp2_with (first | ((with_reducible refine gate_dst (N := 63) rfl ?_); refine Kd.R_lit (Kd.int .i64) _ 3 ?hg (N := 63) ?hd (xs := ([] : List Int)) (inner := []) (ok := fun _ => True) (okp := fun _ => True) ?hr ?hp (fun _ hk => hk) trivial (Below.refl _ _) (Nat.le_refl _) (by simp) ?_; (case hd => rfl); (case hg => rfl); (case hr => first | (go_simp; done) | (go_simp; rfl)); (case hp => exact (Reps.none _ _)); intro v597 w55 ho56 hb hg_ hnew_; clear hg_ hnew_; (first | rw [← Ny596.out] at ho56 | (simp only [Int.reduceToNat] at ho56; rw [← Ny596.out] at ho56)); have n0_ := Aside0.mk (Kd.R_elder' (by (with_reducible repeat (first | apply Kd.R_alloc | apply Kd.R_drewN | apply Kd.R_drew)); exact HO_6.out) (Kd.R_base ho56) hb); have n1_ := Aside0.mk (Kd.R_elder' (by (with_reducible repeat (first | apply Kd.R_alloc | apply Kd.R_drewN | apply Kd.R_drew)); exact HO_7.out) (Kd.R_base ho56) hb); have n2_ := Aside0.mk (Kd.S_elder' (by (with_reducible repeat (first | apply Kd.S_alloc | apply Kd.S_drewN | apply Kd.S_drew)); exact HO_8.out) (Kd.R_base ho56) hb); have n3_ := Aside0.mk (Kd.R_elder' (by (with_reducible repeat (first | apply Kd.R_alloc | apply Kd.R_drewN | apply Kd.R_drew)); exact HO591.out) (Kd.R_base ho56) hb); have n4_ := Aside0.mk (Kd.R_elder' (by (with_reducible repeat (first | apply Kd.R_alloc | apply Kd.R_drewN | apply Kd.R_drew)); exact HO594.out) (Kd.R_base ho56) hb); have n5_ := Aside0.mk (Kd.R_lower (Kd.R_new' (Kd.R_new' (Kd.R_new' (Kd.R_new' ho56 (Kd.R_lt (by (with_reducible repeat (first | apply Kd.R_alloc | apply Kd.R_drewN | apply Kd.R_drew)); exact HO_6.out))) (Kd.R_lt (by (with_reducible repeat (first | apply Kd.R_alloc | apply Kd.R_drewN | apply Kd.R_drew)); exact HO_7.out))) (Kd.R_lt (by (with_reducible repeat (first | apply Kd.R_alloc | apply Kd.R_drewN | apply Kd.R_drew)); exact HO591.out))) (Kd.R_lt (by (with_reducible repeat (first | apply Kd.R_alloc | apply Kd.R_drewN | apply Kd.R_drew)); exact HO594.out))) (below_size (by repeat (first | exact HB.out | apply below_alloc | apply pw_below_drewN | apply below_drew1 | refine below_set ?_ GE566.out | refine below_set ?_ GE567.out | refine below_set ?_ GE568.out)))); have n6_ := Aside0.mk (blk_below (g := gb566) (o := .cells #[.slice A0_0 l0_0.length c0_0, .slice (some ad587) l0_1.length c0_1] 27 (0, 0)) (by (with_reducible repeat (first | refine blk_drewN ?_ _ | refine blk_drew ?_ | refine blk_alloc ?_ _)); exact BK566.out) hb); have n7_ := Aside0.mk (blk_below (g := gb567) (o := .cells #[.slice A1_0 l1_0.length c1_0, .slice (some ad588) l1_1.length c1_1] 27 (0, 0)) (by (with_reducible repeat (first | refine blk_drewN ?_ _ | refine blk_drew ?_ | refine blk_alloc ?_ _)); exact BK567.out) hb); have n8_ := Aside0.mk (blk_below (g := gb568) (o := .cells #[.slice none 0 0, .slice none 0 0] 27 (0, 0)) (by (with_reducible repeat (first | refine blk_drewN ?_ _ | refine blk_drew ?_ | refine blk_alloc ?_ _)); exact BK568.out) hb); have n9_ := Aside0.mk (below_step (by repeat (first | exact HB.out | apply below_alloc | apply pw_below_drewN | apply below_drew1 | refine below_set ?_ GE566.out | refine below_set ?_ GE567.out | refine below_set ?_ GE568.out)) hb); clear HO_6; clear HO_7; clear HO_8; clear HO591; clear HO594; clear BK566; clear BK567; clear BK568; clear HB; have HO_6 := n0_; have HO_7 := n1_; have HO_8 := n2_; have HO591 := n3_; have HO594 := n4_; have HO598 := n5_; have BK566 := n6_; have BK567 := n7_; have BK568 := n8_; have HB := n9_; clear n0_ n1_ n2_ n3_ n4_ n5_ n6_ n7_ n8_ n9_; clear hb ho56; obtain ⟨Ao57, co57, eo57⟩ := Kd.R_slice HO_7.out; subst eo57))
               go_loopg [13, 66] k3 (fun kq v13 v66 w' => ∃ (x13_4 : List Int) (x66_4 : Int), v66 = .int .i64 x66_4 ∧ Aside0 (impl_JoinTwo.l2 kq t571 t574 x8_3 (rd_L1 l0_1 x40_2) (rd_L1 l1_1 x47_3) x13_4 l0_1 (l0_1.length : Int) x40_2 l1_1 (l1_1.length : Int) x47_3 t574 (t574.length : Int) x66_4 l0_0 l0_1 l1_0 l1_1 = some (r1, r2, r3)) ∧ Aside0 (kq ≤ k3) ∧ Aside0 (Kd.R (Kd.int .i64) 3 w' w.heap.size (fun k_ => some k_ ≠ ((.slice Ao57 t574.length co57) : Value).ownBlock ∧ some k_ ≠ (v13 : Value).ownBlock ∧ some k_ ≠ ((.slice Ao57 t574.length co57) : Value).ownBlock) (.slice Ao50 t571.length co50) t571) ∧ Aside0 (Kd.R (Kd.int .i64) 3 w' w.heap.size (fun k_ => some k_ ≠ ((.slice Ao50 t571.length co50) : Value).ownBlock ∧ some k_ ≠ (v13 : Value).ownBlock) (.slice Ao57 t574.length co57) t574) ∧ Aside0 (Kd.S (Kd.slice 3 (Kd.int .i64)) 22 w' w.heap.size (fun k_ => some k_ ≠ ((.slice Ao50 t571.length co50) : Value).ownBlock ∧ some k_ ≠ ((.slice Ao57 t574.length co57) : Value).ownBlock ∧ some k_ ≠ (v13 : Value).ownBlock ∧ some k_ ≠ ((.slice Ao57 t574.length co57) : Value).ownBlock) u8 x8_3) ∧ Aside0 (Kd.R (Kd.int .i64) 3 w' w.heap.size (fun k_ => some k_ ≠ ((.slice Ao50 t571.length co50) : Value).ownBlock ∧ some k_ ≠ ((.slice Ao57 t574.length co57) : Value).ownBlock ∧ some k_ ≠ ((.slice Ao57 t574.length co57) : Value).ownBlock) v13 x13_4) ∧ Aside0 (Kd.R (Kd.int .i64) 3 w' w.heap.size (fun k_ => some k_ ≠ ((.slice Ao50 t571.length co50) : Value).ownBlock ∧ some k_ ≠ (v13 : Value).ownBlock) (.slice Ao57 t574.length co57) t574) ∧ Aside0 (w'.heap[gb566]? = some (.cells #[(.slice A0_0 l0_0.length c0_0), (.slice (some ad587) l0_1.length c0_1)] 27 (0, 0))) ∧ Aside0 (w'.heap[gb567]? = some (.cells #[(.slice A1_0 l1_0.length c1_0), (.slice (some ad588) l1_1.length c1_1)] 27 (0, 0))) ∧ Aside0 (w'.heap[gb568]? = some (.cells #[(.slice none 0 0), (.slice none 0 0)] 27 (0, 0))) ∧ Aside0 (Below w.heap.size w w'))
               case atStart => exact ⟨(y596), (0), (by first | rfl | (simp; done) | (simp [*]; done)), H', ⟨Nat.le_refl _⟩, ⟨by (with_reducible repeat (first | apply Kd.R_alloc | apply Kd.R_drewN | apply Kd.R_drew)); exact Kd.R_mono HO_6.out (fun _ hk => ⟨hk.1.1.1, ⟨hk.2, hk.1.1.1⟩⟩)⟩, ⟨by (with_reducible repeat (first | apply Kd.R_alloc | apply Kd.R_drewN | apply Kd.R_drew)); exact Kd.R_mono HO_7.out (fun _ hk => ⟨hk.1.1.1, hk.2⟩)⟩, ⟨by (with_reducible repeat (first | apply Kd.S_alloc | apply Kd.S_drewN | apply Kd.S_drew)); exact Kd.S_mono HO_8.out (fun _ hk => ⟨hk.1.1.1.1, ⟨hk.1.1.1.2, ⟨hk.2, hk.1.1.1.2⟩⟩⟩)⟩, ⟨by (with_reducible repeat (first | apply Kd.R_alloc | apply Kd.R_drewN | apply Kd.R_drew)); exact Kd.R_mono HO598.out (fun _ hk => ⟨hk.1.1.1.2, ⟨hk.1.1.2, hk.1.1.2⟩⟩)⟩, ⟨by (with_reducible repeat (first | apply Kd.R_alloc | apply Kd.R_drewN | apply Kd.R_drew)); exact Kd.R_mono HO_7.out (fun _ hk => ⟨hk.1.1.1, hk.2⟩)⟩, ⟨by (with_reducible repeat (first | refine blk_drewN ?_ _ | refine blk_drew ?_ | refine blk_alloc ?_ _)); exact BK566.out⟩, ⟨by (with_reducible repeat (first | refine blk_drewN ?_ _ | refine blk_drew ?_ | refine blk_alloc ?_ _)); exact BK567.out⟩, ⟨by (with_reducible repeat (first | refine blk_drewN ?_ _ | refine blk_drew ?_ | refine blk_alloc ?_ _)); exact BK568.out⟩, ⟨by repeat (first | exact HB.out | apply below_alloc | apply pw_below_drewN | apply below_drew1 | refine below_set ?_ GE566.out | refine below_set ?_ GE567.out | refine below_set ?_ GE568.out)⟩⟩
               case round =>
                clear H'
                try clear c1
                try clear c2
                try clear p2
                try clear c3
                try clear c4
                try clear c5
                try clear p5
                try clear q5
                try clear hx5
                try clear p6
                try clear c8
                try clear c10
                try clear c11
                try clear c12
                try clear c14
                try clear c17
                try clear c18
                try clear c21
                try clear c22
                try clear c23
                try clear c33
                try clear c34
                try clear c36
                try clear c36b0
                try clear c37
                try clear c37b0
                try clear c38
                try clear c38b0
                try clear c39
                try clear c40
                try clear c42
                try clear c42b0
                try clear c43
                try clear c43b0
                try clear c44
                try clear c44b0
                try clear c48
                try clear c49
                try clear c50
                try clear hcz12_0
                try clear hcz12_1
                try clear hcz15_0
                try clear hcz15_1
                try clear hcz19_0
                try clear hcz19_1
                try clear hcz24_0
                try clear hcz24_1
                try clear hcz35_0
                try clear hcz35_1
                try clear hcz41_0
                try clear hcz41_1
                try clear hfz12_0
                try clear hfz12_1
                try clear hfz15_0
                try clear hfz15_1
                try clear hfz19_0
                try clear hfz19_1
                try clear hfz24_0
                try clear hfz24_1
                try clear hfz35_0
                try clear hfz35_1
                try clear hfz41_0
                try clear hfz41_1
                try clear hx587_0
                try clear hx588_0
                try clear p2
                try clear p5
                try clear p587
                try clear p588
                try clear q5
                try clear q587
                try clear q588
                obtain ⟨x13_4, x66_4, rfl, HA, HK4, HO_6, HO_7, HO_8, HO_13, HO_64, BK566, BK567, BK568, HB⟩ := hrel
                cases gk with
                | zero => exact absurd HA.out (by simp [impl_JoinTwo.l2])
                | succ k4 =>
                 have H := HA.out
                 clear HA
                 simp only [impl_JoinTwo.l2] at H
                 by_cases c58 : x66_4 < (t574.length : Int)
                 ·rw [if_pos c58] at H
                  have c58b0 : decide (x66_4 < (t574.length : Int)) = true := decide_eq_true c58
                  clear c58
                  by_cases c59 : 0 ≤ x66_4
                  ·rw [if_pos c59] at H
                   have c59b0 : decide (0 ≤ x66_4) = true := decide_eq_true c59
                   clear c59
                   by_cases c60 : x66_4 < (t574.length : Int)
                   ·rw [if_pos c60] at H
                    have c60b0 : decide (x66_4 < (t574.length : Int)) = true := decide_eq_true c60
                    clear c60
                    replace H := Option.bind_eq_some_iff.mp H
                    obtain ⟨t603, A610, H⟩ := H
                    replace H : (if t603 ≥ 0 then (if 0 ≤ t603 then (if t603 < ((rd_L1 l0_1 x40_2).length : Int) then (if x13_4.length < 17592186044416 then (impl_JoinTwo.l2 k4 t571 t574 x8_3 (rd_L1 l0_1 x40_2) (rd_L1 l1_1 x47_3) (x13_4 ++ [rd (rd_L1 l0_1 x40_2) t603]) l0_1 (l0_1.length : Int) x40_2 l1_1 (l1_1.length : Int) x47_3 t574 (t574.length : Int) (wrap64 (x66_4 + 1)) l0_0 l0_1 l1_0 l1_1) else (none)) else (none)) else (none)) else ((slices_Index_int_int.f k4 l1_0 (rd t574 x66_4)).bind fun t608 => (if 0 ≤ t608 then (if t608 < ((rd_L1 l1_1 x47_3).length : Int) then (if x13_4.length < 17592186044416 then (impl_JoinTwo.l2 k4 t571 t574 x8_3 (rd_L1 l0_1 x40_2) (rd_L1 l1_1 x47_3) (x13_4 ++ [rd (rd_L1 l1_1 x47_3) t608]) l0_1 (l0_1.length : Int) x40_2 l1_1 (l1_1.length : Int) x47_3 t574 (t574.length : Int) (wrap64 (x66_4 + 1)) l0_0 l0_1 l1_0 l1_1) else (none)) else (none)) else (none)))) = some (r1, r2, r3) := H
                    have A61 := Aside0.mk A610
                    clear A610
                    by_cases c62 : t603 ≥ 0
                    ·rw [if_pos c62] at H
                     have c62b0 : decide (0 ≤ t603) = true := decide_eq_true c62
                     clear c62
                     by_cases c63 : 0 ≤ t603
                     ·rw [if_pos c63] at H
                      have c63b0 : decide (0 ≤ t603) = true := decide_eq_true c63
                      clear c63
                      by_cases c64 : t603 < ((rd_L1 l0_1 x40_2).length : Int)
                      ·rw [if_pos c64] at H
                       have c64b0 : decide (t603 < ((rd_L1 l0_1 x40_2).length : Int)) = true := decide_eq_true c64
                       clear c64
                       by_cases c65 : x13_4.length < 17592186044416
                       ·rw [if_pos c65] at H
                        have LMc65 := Aside0.mk c65
                        clear c65
                        obtain ⟨y605, hy605⟩ : ∃ y_ : List Int, y_ = (x13_4 ++ [rd (rd_L1 l0_1 x40_2) t603]) := ⟨_, rfl⟩
                        replace H : (impl_JoinTwo.l2 k4 t571 t574 x8_3 (rd_L1 l0_1 x40_2) (rd_L1 l1_1 x47_3) y605 l0_1 (l0_1.length : Int) x40_2 l1_1 (l1_1.length : Int) x47_3 t574 (t574.length : Int) (wrap64 (x66_4 + 1)) l0_0 l0_1 l1_0 l1_1) = some (r1, r2, r3) := by first | (rw [hy605]; with_reducible exact H) | (have H2_ := (Option.bind_some _ _).symm.trans H; rw [hy605]; with_reducible exact H2_) | (have H2_ := (Option.bind_some _ _).symm.trans H; with_reducible exact H2_) | with_reducible exact H | (rw [hy605]; exact H) | exact H
                        have Ny605 := Aside0.mk hy605
                        clear hy605
                        have H' := Aside0.mk H
                        clear H
                        have p602 : 0 ≤ (x66_4 : Int) := of_decide_eq_true (by first | (with_reducible assumption) | assumption)
                        have q602 : x66_4 < (t574.length : Int) := of_decide_eq_true (by first | (with_reducible assumption) | assumption)
                        obtain ⟨ad602, e602, hx602_0⟩ := Kd.at_int (Kd.R_reads' HO_64.out).2.2 x66_4 p602 q602
                        cases e602
                        replace p602 := eq_true p602
                        replace q602 := eq_true q602
                        have hnb66 := NB566_567.out
                        have hnc66 := NB567_566.out
                        have hnb67 := NB566_568.out
                        have hnc67 := NB568_566.out
                        have hcz68_0 : wr.cell? ⟨gb566, 0, none⟩ = some (.slice A0_0 l0_0.length c0_0) := (blk_cell BK566.out 0).trans rfl
                        have hcz68_1 : wr.cell? ⟨gb566, 1, none⟩ = some (.slice (some ad587) l0_1.length c0_1) := (blk_cell BK566.out 1).trans rfl
                        have hfz68_0 := blk_frozen BK566.out 0
                        have hfz68_1 := blk_frozen BK566.out 1
                        go_wp2_with (first | ((with_reducible refine gate_callee (f := 51) rfl ?_); refine goesL_ (some 73) rfl rfl Try.func51 (by kernel_rfl) rfl #[.slice A0_0 l0_0.length c0_0, .int .i64 (rd t574 x66_4)] rfl (by (try simp only [List.map_toArray, List.map_cons, List.map_nil]); first | done | rfl | (simp only [List.length_drop, List.length_take]; rfl)) ?_; (with_reducible refine (slices_Index_int_int.calls k4 _ _ l0_0 (rd t574 x66_4) t603 _ ?side1 ?side2 A61.out).mono ?_); (case side1 => repeat (first | exact (Kd.C_below HR0_0.out HB.out) | (with_reducible refine Kd.C_alloc ?_ _) | (with_reducible refine Kd.C_drewN ?_ _) | (with_reducible refine Kd.C_drew ?_))); (case side2 => exact HC0_0.out); rintro e w' ⟨rfl, ⟨nd, rfl⟩⟩; refine ⟨_, rfl, ?_⟩; have p604 : 0 ≤ (t603 : Int) := of_decide_eq_true (by first | (with_reducible assumption) | assumption); have q604 : t603 < ((rd_L1 l0_1 x40_2).length : Int) := of_decide_eq_true (by first | (with_reducible assumption) | assumption); obtain ⟨ad604, e604, hx604_0⟩ := Kd.at_int HR587_0.out t603 p604 q604; cases e604; replace hx604_0 := (HB.out.cell (World.block_lt_of_cell? w _ hx604_0)).trans hx604_0; replace p604 := eq_true p604; replace q604 := eq_true q604) | ((with_reducible refine gate_builtin (b := .append) (xs := #[.tmp 76, .tmp 81]) rfl ?_); at_builtin; refine Kd.R_append (Kd.int .i64) (w0 := w) w.heap.size rfl (.tmp 76) (.tmp 81) 22 3 (.int .i64 0) 8 rfl Try.underlying22 info3 rfl (by decide) (by omega) u13 x13_4 (rd (rd_L1 l0_1 x40_2) t603) [.int .i64 (rd (rd_L1 l0_1 x40_2) t603)] (fun k_ => some k_ ≠ (.slice Ao50 t571.length co50 : Value).ownBlock ∧ some k_ ≠ (.slice (some ad602) t574.length co57 : Value).ownBlock ∧ some k_ ≠ (.slice (some ad602) t574.length co57 : Value).ownBlock) (fun _ => False) rfl rfl ?aP (fun _ hk => hk.elim) ?aF ?aO ?aB ?aS ?aL ?_; (case aP => exact rfl); (case aB => exact (by repeat (first | exact HB.out | apply below_alloc | apply pw_below_drewN | apply below_drew1 | refine below_set ?_ GE566.out | refine below_set ?_ GE567.out | refine below_set ?_ GE568.out))); (case aF => exact (fun k_ hk => ⟨Kd.fresh' (Kd.R_lt (by (with_reducible repeat (first | apply Kd.R_alloc | apply Kd.R_drewN | apply Kd.R_drew)); exact HO_6.out)) k_ hk, Kd.fresh' (Kd.R_lt (by (with_reducible repeat (first | apply Kd.R_alloc | apply Kd.R_drewN | apply Kd.R_drew)); exact HO_7.out)) k_ hk, Kd.fresh' (Kd.R_lt (by (with_reducible repeat (first | apply Kd.R_alloc | apply Kd.R_drewN | apply Kd.R_drew)); exact HO_64.out)) k_ hk⟩)); (case aO => exact (by (with_reducible repeat (first | apply Kd.R_alloc | apply Kd.R_drewN | apply Kd.R_drew)); exact HO_13.out)); (case aS => exact (below_size (by repeat (first | exact HB.out | apply below_alloc | apply pw_below_drewN | apply below_drew1 | refine below_set ?_ GE566.out | refine below_set ?_ GE567.out | refine below_set ?_ GE568.out)))); (case aL => have := LMc65.out; omega); intro v606 w69 ho hb hg hat; rw [← Ny605.out] at ho; have n0_ := Aside0.mk (Kd.R_after (ok := (fun k_ => some k_ ≠ (.slice (some ad602) t574.length co57 : Value).ownBlock ∧ some k_ ≠ (.slice (some ad602) t574.length co57 : Value).ownBlock)) (by (with_reducible repeat (first | apply Kd.R_alloc | apply Kd.R_drewN | apply Kd.R_drew)); exact Kd.R_mono HO_6.out (fun _ hk => ⟨⟨hk.1, hk.2.2⟩, hk.2.1⟩)) hg hat); have n1_ := Aside0.mk (Kd.R_after (ok := (fun k_ => some k_ ≠ (.slice Ao50 t571.length co50 : Value).ownBlock)) (by (with_reducible repeat (first | apply Kd.R_alloc | apply Kd.R_drewN | apply Kd.R_drew)); exact HO_7.out) hg hat); have n2_ := Aside0.mk (Kd.S_after (ok := (fun k_ => some k_ ≠ (.slice Ao50 t571.length co50 : Value).ownBlock ∧ some k_ ≠ (.slice (some ad602) t574.length co57 : Value).ownBlock ∧ some k_ ≠ (.slice (some ad602) t574.length co57 : Value).ownBlock)) (by (with_reducible repeat (first | apply Kd.S_alloc | apply Kd.S_drewN | apply Kd.S_drew)); exact Kd.S_mono HO_8.out (fun _ hk => ⟨⟨hk.1, ⟨hk.2.1, hk.2.2.2⟩⟩, hk.2.2.1⟩)) hg hat); have n3_ := Aside0.mk (Kd.R_after (ok := (fun k_ => some k_ ≠ (.slice Ao50 t571.length co50 : Value).ownBlock)) (by (with_reducible repeat (first | apply Kd.R_alloc | apply Kd.R_drewN | apply Kd.R_drew)); exact HO_64.out) hg hat); have n4_ := Aside0.mk (blk_grown (g := gb566) (o := .cells #[.slice A0_0 l0_0.length c0_0, .slice (some ad587) l0_1.length c0_1] 27 (0, 0)) (by (with_reducible repeat (first | refine blk_drewN ?_ _ | refine blk_drew ?_ | refine blk_alloc ?_ _)); exact BK566.out) hg (Kd.R_ne HO_13.out BK566.out (by decide))); have n5_ := Aside0.mk (blk_grown (g := gb567) (o := .cells #[.slice A1_0 l1_0.length c1_0, .slice (some ad588) l1_1.length c1_1] 27 (0, 0)) (by (with_reducible repeat (first | refine blk_drewN ?_ _ | refine blk_drew ?_ | refine blk_alloc ?_ _)); exact BK567.out) hg (Kd.R_ne HO_13.out BK567.out (by decide))); have n6_ := Aside0.mk (blk_grown (g := gb568) (o := .cells #[.slice none 0 0, .slice none 0 0] 27 (0, 0)) (by (with_reducible repeat (first | refine blk_drewN ?_ _ | refine blk_drew ?_ | refine blk_alloc ?_ _)); exact BK568.out) hg (Kd.R_ne HO_13.out BK568.out (by decide))); have n7_ := Aside0.mk (hb); have n8_ := Aside0.mk (ho); clear HO_6; clear HO_7; clear HO_8; clear HO_64; clear BK566; clear BK567; clear BK568; clear HB; clear HO_13; have HO_6 := n0_; have HO_7 := n1_; have HO_8 := n2_; have HO_64 := n3_; have BK566 := n4_; have BK567 := n5_; have BK568 := n6_; have HB := n7_; have HO607 := n8_; clear n0_ n1_ n2_ n3_ n4_ n5_ n6_ n7_ n8_; clear ho hb hg hat))
                        go_roundg k4
                        case measure => have := HJ2.out; have := HK2.out; have := HK3.out; have := HK4.out; omega
                        case rel => exact ⟨(y605), (wrap64 (x66_4 + 1)), (by first | rfl | (simp; done) | (simp [*]; done)), H', ⟨by have := HJ2.out; have := HK2.out; have := HK3.out; have := HK4.out; omega⟩, ⟨by (with_reducible repeat (first | apply Kd.R_alloc | apply Kd.R_drewN | apply Kd.R_drew)); exact Kd.R_mono HO_6.out (fun _ hk => ⟨hk.1.1, ⟨hk.2, hk.1.2⟩⟩)⟩, ⟨by (with_reducible repeat (first | apply Kd.R_alloc | apply Kd.R_drewN | apply Kd.R_drew)); exact HO_7.out⟩, ⟨by (with_reducible repeat (first | apply Kd.S_alloc | apply Kd.S_drewN | apply Kd.S_drew)); exact Kd.S_mono HO_8.out (fun _ hk => ⟨hk.1.1, ⟨hk.1.2.1, ⟨hk.2, hk.1.2.2⟩⟩⟩)⟩, ⟨by (with_reducible repeat (first | apply Kd.R_alloc | apply Kd.R_drewN | apply Kd.R_drew)); exact HO607.out⟩, ⟨by (with_reducible repeat (first | apply Kd.R_alloc | apply Kd.R_drewN | apply Kd.R_drew)); exact HO_64.out⟩, ⟨by (with_reducible repeat (first | refine blk_drewN ?_ _ | refine blk_drew ?_ | refine blk_alloc ?_ _)); exact BK566.out⟩, ⟨by (with_reducible repeat (first | refine blk_drewN ?_ _ | refine blk_drew ?_ | refine blk_alloc ?_ _)); exact BK567.out⟩, ⟨by (with_reducible repeat (first | refine blk_drewN ?_ _ | refine blk_drew ?_ | refine blk_alloc ?_ _)); exact BK568.out⟩, ⟨by repeat (first | exact HB.out | apply below_alloc | apply pw_below_drewN | apply below_drew1 | refine below_set ?_ GE566.out | refine below_set ?_ GE567.out | refine below_set ?_ GE568.out)⟩⟩
                       ·rw [if_neg c65] at H
                        exact absurd H (by simp)
                      ·rw [if_neg c64] at H
                       exact absurd H (by simp)
                     ·rw [if_neg c63] at H
                      exact absurd H (by simp)
                    ·rw [if_neg c62] at H
                     have c62b0 : decide (0 ≤ t603) = false := decide_eq_false c62
                     clear c62
                     replace H := Option.bind_eq_some_iff.mp H
                     obtain ⟨t608, A700, H⟩ := H
                     replace H : (if 0 ≤ t608 then (if t608 < ((rd_L1 l1_1 x47_3).length : Int) then (if x13_4.length < 17592186044416 then (impl_JoinTwo.l2 k4 t571 t574 x8_3 (rd_L1 l0_1 x40_2) (rd_L1 l1_1 x47_3) (x13_4 ++ [rd (rd_L1 l1_1 x47_3) t608]) l0_1 (l0_1.length : Int) x40_2 l1_1 (l1_1.length : Int) x47_3 t574 (t574.length : Int) (wrap64 (x66_4 + 1)) l0_0 l0_1 l1_0 l1_1) else (none)) else (none)) else (none)) = some (r1, r2, r3) := H
                     have A70 := Aside0.mk A700
                     clear A700
                     by_cases c71 : 0 ≤ t608
                     ·rw [if_pos c71] at H
                      have c71b0 : decide (0 ≤ t608) = true := decide_eq_true c71
                      clear c71
                      by_cases c72 : t608 < ((rd_L1 l1_1 x47_3).length : Int)
                      ·rw [if_pos c72] at H
                       have c72b0 : decide (t608 < ((rd_L1 l1_1 x47_3).length : Int)) = true := decide_eq_true c72
                       clear c72
                       by_cases c73 : x13_4.length < 17592186044416
                       ·rw [if_pos c73] at H
                        have LMc73 := Aside0.mk c73
                        clear c73
                        obtain ⟨y610, hy610⟩ : ∃ y_ : List Int, y_ = (x13_4 ++ [rd (rd_L1 l1_1 x47_3) t608]) := ⟨_, rfl⟩
                        replace H : (impl_JoinTwo.l2 k4 t571 t574 x8_3 (rd_L1 l0_1 x40_2) (rd_L1 l1_1 x47_3) y610 l0_1 (l0_1.length : Int) x40_2 l1_1 (l1_1.length : Int) x47_3 t574 (t574.length : Int) (wrap64 (x66_4 + 1)) l0_0 l0_1 l1_0 l1_1) = some (r1, r2, r3) := by first | (rw [hy610]; with_reducible exact H) | (have H2_ := (Option.bind_some _ _).symm.trans H; rw [hy610]; with_reducible exact H2_) | (have H2_ := (Option.bind_some _ _).symm.trans H; with_reducible exact H2_) | with_reducible exact H | (rw [hy610]; exact H) | exact H
                        have Ny610 := Aside0.mk hy610
                        clear hy610
                        have H' := Aside0.mk H
                        clear H
                        have p602 : 0 ≤ (x66_4 : Int) := of_decide_eq_true (by first | (with_reducible assumption) | assumption)
                        have q602 : x66_4 < (t574.length : Int) := of_decide_eq_true (by first | (with_reducible assumption) | assumption)
                        obtain ⟨ad602, e602, hx602_0⟩ := Kd.at_int (Kd.R_reads' HO_64.out).2.2 x66_4 p602 q602
                        cases e602
                        replace p602 := eq_true p602
                        replace q602 := eq_true q602
                        have hnb74 := NB566_567.out
                        have hnc74 := NB567_566.out
                        have hnb75 := NB566_568.out
                        have hnc75 := NB568_566.out
                        have hcz76_0 : wr.cell? ⟨gb566, 0, none⟩ = some (.slice A0_0 l0_0.length c0_0) := (blk_cell BK566.out 0).trans rfl
                        have hcz76_1 : wr.cell? ⟨gb566, 1, none⟩ = some (.slice (some ad587) l0_1.length c0_1) := (blk_cell BK566.out 1).trans rfl
                        have hfz76_0 := blk_frozen BK566.out 0
                        have hfz76_1 := blk_frozen BK566.out 1
                        go_wp2_with (first | ((with_reducible refine gate_callee (f := 51) rfl ?_); refine goesL_ (some 73) rfl rfl Try.func51 (by kernel_rfl) rfl #[.slice A0_0 l0_0.length c0_0, .int .i64 (rd t574 x66_4)] rfl (by (try simp only [List.map_toArray, List.map_cons, List.map_nil]); first | done | rfl | (simp only [List.length_drop, List.length_take]; rfl)) ?_; (with_reducible refine (slices_Index_int_int.calls k4 _ _ l0_0 (rd t574 x66_4) t603 _ ?side1 ?side2 A61.out).mono ?_); (case side1 => repeat (first | exact (Kd.C_below HR0_0.out HB.out) | (with_reducible refine Kd.C_alloc ?_ _) | (with_reducible refine Kd.C_drewN ?_ _) | (with_reducible refine Kd.C_drew ?_))); (case side2 => exact HC0_0.out); rintro e w' ⟨rfl, ⟨nd, rfl⟩⟩; refine ⟨_, rfl, ?_⟩; have hnb77 := NB567_568.out; have hnc77 := NB568_567.out; have hcz78_0 : wr.cell? ⟨gb567, 0, none⟩ = some (.slice A1_0 l1_0.length c1_0) := (blk_cell BK567.out 0).trans rfl; have hcz78_1 : wr.cell? ⟨gb567, 1, none⟩ = some (.slice (some ad588) l1_1.length c1_1) := (blk_cell BK567.out 1).trans rfl; have hfz78_0 := blk_frozen BK567.out 0; have hfz78_1 := blk_frozen BK567.out 1) | ((with_reducible refine gate_callee (f := 51) rfl ?_); refine goesL_ (some 88) rfl rfl Try.func51 (by kernel_rfl) rfl #[.slice A1_0 l1_0.length c1_0, .int .i64 (rd t574 x66_4)] rfl (by (try simp only [List.map_toArray, List.map_cons, List.map_nil]); first | done | rfl | (simp only [List.length_drop, List.length_take]; rfl)) ?_; (with_reducible refine (slices_Index_int_int.calls k4 _ _ l1_0 (rd t574 x66_4) t608 _ ?side1 ?side2 A70.out).mono ?_); (case side1 => repeat (first | exact (Kd.C_below HR1_0.out (by repeat (first | exact HB.out | apply below_alloc | apply pw_below_drewN | apply below_drew1 | refine below_set ?_ GE566.out | refine below_set ?_ GE567.out | refine below_set ?_ GE568.out))) | (with_reducible refine Kd.C_alloc ?_ _) | (with_reducible refine Kd.C_drewN ?_ _) | (with_reducible refine Kd.C_drew ?_))); (case side2 => exact HC1_0.out); rintro e w' ⟨rfl, ⟨nd, rfl⟩⟩; refine ⟨_, rfl, ?_⟩; have p609 : 0 ≤ (t608 : Int) := of_decide_eq_true (by first | (with_reducible assumption) | assumption); have q609 : t608 < ((rd_L1 l1_1 x47_3).length : Int) := of_decide_eq_true (by first | (with_reducible assumption) | assumption); obtain ⟨ad609, e609, hx609_0⟩ := Kd.at_int HR588_0.out t608 p609 q609; cases e609; replace hx609_0 := (HB.out.cell (World.block_lt_of_cell? w _ hx609_0)).trans hx609_0; replace p609 := eq_true p609; replace q609 := eq_true q609) | ((with_reducible refine gate_builtin (b := .append) (xs := #[.tmp 83, .tmp 91]) rfl ?_); at_builtin; refine Kd.R_append (Kd.int .i64) (w0 := w) w.heap.size rfl (.tmp 83) (.tmp 91) 22 3 (.int .i64 0) 8 rfl Try.underlying22 info3 rfl (by decide) (by omega) u13 x13_4 (rd (rd_L1 l1_1 x47_3) t608) [.int .i64 (rd (rd_L1 l1_1 x47_3) t608)] (fun k_ => some k_ ≠ (.slice Ao50 t571.length co50 : Value).ownBlock ∧ some k_ ≠ (.slice (some ad602) t574.length co57 : Value).ownBlock ∧ some k_ ≠ (.slice (some ad602) t574.length co57 : Value).ownBlock) (fun _ => False) rfl rfl ?aP (fun _ hk => hk.elim) ?aF ?aO ?aB ?aS ?aL ?_; (case aP => exact rfl); (case aB => exact (by repeat (first | exact HB.out | apply below_alloc | apply pw_below_drewN | apply below_drew1 | refine below_set ?_ GE566.out | refine below_set ?_ GE567.out | refine below_set ?_ GE568.out))); (case aF => exact (fun k_ hk => ⟨Kd.fresh' (Kd.R_lt (by (with_reducible repeat (first | apply Kd.R_alloc | apply Kd.R_drewN | apply Kd.R_drew)); exact HO_6.out)) k_ hk, Kd.fresh' (Kd.R_lt (by (with_reducible repeat (first | apply Kd.R_alloc | apply Kd.R_drewN | apply Kd.R_drew)); exact HO_7.out)) k_ hk, Kd.fresh' (Kd.R_lt (by (with_reducible repeat (first | apply Kd.R_alloc | apply Kd.R_drewN | apply Kd.R_drew)); exact HO_64.out)) k_ hk⟩)); (case aO => exact (by (with_reducible repeat (first | apply Kd.R_alloc | apply Kd.R_drewN | apply Kd.R_drew)); exact HO_13.out)); (case aS => exact (below_size (by repeat (first | exact HB.out | apply below_alloc | apply pw_below_drewN | apply below_drew1 | refine below_set ?_ GE566.out | refine below_set ?_ GE567.out | refine below_set ?_ GE568.out)))); (case aL => have := LMc73.out; omega); intro v611 w79 ho hb hg hat; rw [← Ny610.out] at ho; have n0_ := Aside0.mk (Kd.R_after (ok := (fun k_ => some k_ ≠ (.slice (some ad602) t574.length co57 : Value).ownBlock ∧ some k_ ≠ (.slice (some ad602) t574.length co57 : Value).ownBlock)) (by (with_reducible repeat (first | apply Kd.R_alloc | apply Kd.R_drewN | apply Kd.R_drew)); exact Kd.R_mono HO_6.out (fun _ hk => ⟨⟨hk.1, hk.2.2⟩, hk.2.1⟩)) hg hat); have n1_ := Aside0.mk (Kd.R_after (ok := (fun k_ => some k_ ≠ (.slice Ao50 t571.length co50 : Value).ownBlock)) (by (with_reducible repeat (first | apply Kd.R_alloc | apply Kd.R_drewN | apply Kd.R_drew)); exact HO_7.out) hg hat); have n2_ := Aside0.mk (Kd.S_after (ok := (fun k_ => some k_ ≠ (.slice Ao50 t571.length co50 : Value).ownBlock ∧ some k_ ≠ (.slice (some ad602) t574.length co57 : Value).ownBlock ∧ some k_ ≠ (.slice (some ad602) t574.length co57 : Value).ownBlock)) (by (with_reducible repeat (first | apply Kd.S_alloc | apply Kd.S_drewN | apply Kd.S_drew)); exact Kd.S_mono HO_8.out (fun _ hk => ⟨⟨hk.1, ⟨hk.2.1, hk.2.2.2⟩⟩, hk.2.2.1⟩)) hg hat); have n3_ := Aside0.mk (Kd.R_after (ok := (fun k_ => some k_ ≠ (.slice Ao50 t571.length co50 : Value).ownBlock)) (by (with_reducible repeat (first | apply Kd.R_alloc | apply Kd.R_drewN | apply Kd.R_drew)); exact HO_64.out) hg hat); have n4_ := Aside0.mk (blk_grown (g := gb566) (o := .cells #[.slice A0_0 l0_0.length c0_0, .slice (some ad587) l0_1.length c0_1] 27 (0, 0)) (by (with_reducible repeat (first | refine blk_drewN ?_ _ | refine blk_drew ?_ | refine blk_alloc ?_ _)); exact BK566.out) hg (Kd.R_ne HO_13.out BK566.out (by decide))); have n5_ := Aside0.mk (blk_grown (g := gb567) (o := .cells #[.slice A1_0 l1_0.length c1_0, .slice (some ad588) l1_1.length c1_1] 27 (0, 0)) (by (with_reducible repeat (first | refine blk_drewN ?_ _ | refine blk_drew ?_ | refine blk_alloc ?_ _)); exact BK567.out) hg (Kd.R_ne HO_13.out BK567.out (by decide))); have n6_ := Aside0.mk (blk_grown (g := gb568) (o := .cells #[.slice none 0 0, .slice none 0 0] 27 (0, 0)) (by (with_reducible repeat (first | refine blk_drewN ?_ _ | refine blk_drew ?_ | refine blk_alloc ?_ _)); exact BK568.out) hg (Kd.R_ne HO_13.out BK568.out (by decide))); have n7_ := Aside0.mk (hb); have n8_ := Aside0.mk (ho); clear HO_6; clear HO_7; clear HO_8; clear HO_64; clear BK566; clear BK567; clear BK568; clear HB; clear HO_13; have HO_6 := n0_; have HO_7 := n1_; have HO_8 := n2_; have HO_64 := n3_; have BK566 := n4_; have BK567 := n5_; have BK568 := n6_; have HB := n7_; have HO612 := n8_; clear n0_ n1_ n2_ n3_ n4_ n5_ n6_ n7_ n8_; clear ho hb hg hat))
                        go_roundg k4
                        case measure => have := HJ2.out; have := HK2.out; have := HK3.out; have := HK4.out; omega
                        case rel => exact ⟨(y610), (wrap64 (x66_4 + 1)), (by first | rfl | (simp; done) | (simp [*]; done)), H', ⟨by have := HJ2.out; have := HK2.out; have := HK3.out; have := HK4.out; omega⟩, ⟨by (with_reducible repeat (first | apply Kd.R_alloc | apply Kd.R_drewN | apply Kd.R_drew)); exact Kd.R_mono HO_6.out (fun _ hk => ⟨hk.1.1, ⟨hk.2, hk.1.2⟩⟩)⟩, ⟨by (with_reducible repeat (first | apply Kd.R_alloc | apply Kd.R_drewN | apply Kd.R_drew)); exact HO_7.out⟩, ⟨by (with_reducible repeat (first | apply Kd.S_alloc | apply Kd.S_drewN | apply Kd.S_drew)); exact Kd.S_mono HO_8.out (fun _ hk => ⟨hk.1.1, ⟨hk.1.2.1, ⟨hk.2, hk.1.2.2⟩⟩⟩)⟩, ⟨by (with_reducible repeat (first | apply Kd.R_alloc | apply Kd.R_drewN | apply Kd.R_drew)); exact HO612.out⟩, ⟨by (with_reducible repeat (first | apply Kd.R_alloc | apply Kd.R_drewN | apply Kd.R_drew)); exact HO_64.out⟩, ⟨by (with_reducible repeat (first | refine blk_drewN ?_ _ | refine blk_drew ?_ | refine blk_alloc ?_ _)); exact BK566.out⟩, ⟨by (with_reducible repeat (first | refine blk_drewN ?_ _ | refine blk_drew ?_ | refine blk_alloc ?_ _)); exact BK567.out⟩, ⟨by (with_reducible repeat (first | refine blk_drewN ?_ _ | refine blk_drew ?_ | refine blk_alloc ?_ _)); exact BK568.out⟩, ⟨by repeat (first | exact HB.out | apply below_alloc | apply pw_below_drewN | apply below_drew1 | refine below_set ?_ GE566.out | refine below_set ?_ GE567.out | refine below_set ?_ GE568.out)⟩⟩
                       ·rw [if_neg c73] at H
                        exact absurd H (by simp)
                      ·rw [if_neg c72] at H
                       exact absurd H (by simp)
                     ·rw [if_neg c71] at H
                      exact absurd H (by simp)
                   ·rw [if_neg c60] at H
                    exact absurd H (by simp)
                  ·rw [if_neg c59] at H
                   exact absurd H (by simp)
                 ·rw [if_neg c58] at H
                  have c58b0 : decide (x66_4 < (t574.length : Int)) = false := decide_eq_false c58
                  clear c58
                  by_cases c80 : x8_3.length < 5864062014805
                  ·rw [if_pos c80] at H
                   have LMc80 := Aside0.mk c80
                   clear c80
                   obtain ⟨y599, hy599⟩ : ∃ y_ : List (List Int), y_ = (x8_3 ++ [x13_4]) := ⟨_, rfl⟩
                   replace H : (impl_JoinTwo.l1 k4 t571 t574 y599 (rd_L1 l0_1 x40_2) l0_1 (l0_1.length : Int) x40_2 l1_1 (l1_1.length : Int) (wrap64 (x47_3 + 1)) l0_0 l0_1 l1_0 l1_1) = some (r1, r2, r3) := by first | (rw [hy599]; with_reducible exact H) | (have H2_ := (Option.bind_some _ _).symm.trans H; rw [hy599]; with_reducible exact H2_) | (have H2_ := (Option.bind_some _ _).symm.trans H; with_reducible exact H2_) | with_reducible exact H | (rw [hy599]; exact H) | exact H
                   have Ny599 := Aside0.mk hy599
                   clear hy599
                   have H' := Aside0.mk H
                   clear H
                   obtain ⟨Ao82, co82, eo82⟩ := Kd.R_slice HO_13.out
                   subst eo82
                   go_wp2_with (first | ((with_reducible refine gate_builtin (b := .append) (xs := #[.tmp 94, .tmp 96]) rfl ?_); at_builtin; refine Kd.S_append (Kd.slice 3 (Kd.int .i64)) (w0 := w) w.heap.size rfl (.tmp 94) (.tmp 96) 23 22 (.slice none 0 0) 24 rfl Try.underlying23 info22 rfl (by decide) (by omega) u8 x8_3 x13_4 [.slice Ao82 x13_4.length co82] (fun k_ => some k_ ≠ (.slice Ao50 t571.length co50 : Value).ownBlock ∧ some k_ ≠ (.slice Ao57 t574.length co57 : Value).ownBlock ∧ some k_ ≠ (.slice Ao57 t574.length co57 : Value).ownBlock) (fun k_ => some k_ = (.slice Ao82 x13_4.length co82 : Value).ownBlock) rfl rfl ?aP (fun k_ hk_ => ((Kd.R_mono (ok' := fun k_ => ((fun k_ => some k_ ≠ (.slice Ao50 t571.length co50 : Value).ownBlock ∧ some k_ ≠ (.slice Ao57 t574.length co57 : Value).ownBlock ∧ some k_ ≠ (.slice Ao57 t574.length co57 : Value).ownBlock)) k_ ∧ some k_ ≠ (u8 : Value).ownBlock) (Kd.R_apart' (HO_13.out) (Kd.S_typed HO_8.out) (by decide)) (fun k_ hk => ⟨⟨hk.1.1, ⟨hk.1.2.1, hk.1.2.2⟩⟩, hk.2⟩))).1 k_ hk_.symm) ?aF ?aO ?aB ?aS ?aL ?_; (case aP => exact Kd.M_row (Kd.R_mono (Kd.R_tight rfl (Kd.R_mono (ok' := fun k_ => ((fun k_ => some k_ ≠ (.slice Ao50 t571.length co50 : Value).ownBlock ∧ some k_ ≠ (.slice Ao57 t574.length co57 : Value).ownBlock ∧ some k_ ≠ (.slice Ao57 t574.length co57 : Value).ownBlock)) k_ ∧ some k_ ≠ (u8 : Value).ownBlock) (Kd.R_apart' (HO_13.out) (Kd.S_typed HO_8.out) (by decide)) (fun k_ hk => ⟨⟨hk.1.1, ⟨hk.1.2.1, hk.1.2.2⟩⟩, hk.2⟩))) (fun _ h_ => h_))); (case aB => exact (by repeat (first | exact HB.out | apply below_alloc | apply pw_below_drewN | apply below_drew1 | refine below_set ?_ GE566.out | refine below_set ?_ GE567.out | refine below_set ?_ GE568.out))); (case aF => exact (fun k_ hk => ⟨Kd.fresh' (Kd.R_lt (by (with_reducible repeat (first | apply Kd.R_alloc | apply Kd.R_drewN | apply Kd.R_drew)); exact HO_6.out)) k_ hk, Kd.fresh' (Kd.R_lt (by (with_reducible repeat (first | apply Kd.R_alloc | apply Kd.R_drewN | apply Kd.R_drew)); exact HO_7.out)) k_ hk, Kd.fresh' (Kd.R_lt (by (with_reducible repeat (first | apply Kd.R_alloc | apply Kd.R_drewN | apply Kd.R_drew)); exact HO_64.out)) k_ hk⟩)); (case aO => exact (by (with_reducible repeat (first | apply Kd.S_alloc | apply Kd.S_drewN | apply Kd.S_drew)); exact Kd.S_mono HO_8.out (fun k_ hk => ⟨⟨hk.1, ⟨hk.2.1, hk.2.2.2⟩⟩, fun e_ => hk.2.2.1 e_⟩))); (case aS => exact (below_size (by repeat (first | exact HB.out | apply below_alloc | apply pw_below_drewN | apply below_drew1 | refine below_set ?_ GE566.out | refine below_set ?_ GE567.out | refine below_set ?_ GE568.out)))); (case aL => have := LMc80.out; omega); intro v600 w81 ho hb hg hat; rw [← Ny599.out] at ho; have n0_ := Aside0.mk (Kd.R_over' (by (with_reducible repeat (first | apply Kd.R_alloc | apply Kd.R_drewN | apply Kd.R_drew)); exact HO_6.out) (Kd.S_typed (by (with_reducible repeat (first | apply Kd.S_alloc | apply Kd.S_drewN | apply Kd.S_drew)); exact HO_8.out)) (by decide) hg); have n1_ := Aside0.mk (Kd.R_over' (by (with_reducible repeat (first | apply Kd.R_alloc | apply Kd.R_drewN | apply Kd.R_drew)); exact HO_7.out) (Kd.S_typed (by (with_reducible repeat (first | apply Kd.S_alloc | apply Kd.S_drewN | apply Kd.S_drew)); exact HO_8.out)) (by decide) hg); have n2_ := Aside0.mk (Kd.R_over' (by (with_reducible repeat (first | apply Kd.R_alloc | apply Kd.R_drewN | apply Kd.R_drew)); exact HO_64.out) (Kd.S_typed (by (with_reducible repeat (first | apply Kd.S_alloc | apply Kd.S_drewN | apply Kd.S_drew)); exact HO_8.out)) (by decide) hg); have n3_ := Aside0.mk (blk_grown (g := gb566) (o := .cells #[.slice A0_0 l0_0.length c0_0, .slice (some ad587) l0_1.length c0_1] 27 (0, 0)) (by (with_reducible repeat (first | refine blk_drewN ?_ _ | refine blk_drew ?_ | refine blk_alloc ?_ _)); exact BK566.out) hg (Kd.S_ne HO_8.out BK566.out (by decide))); have n4_ := Aside0.mk (blk_grown (g := gb567) (o := .cells #[.slice A1_0 l1_0.length c1_0, .slice (some ad588) l1_1.length c1_1] 27 (0, 0)) (by (with_reducible repeat (first | refine blk_drewN ?_ _ | refine blk_drew ?_ | refine blk_alloc ?_ _)); exact BK567.out) hg (Kd.S_ne HO_8.out BK567.out (by decide))); have n5_ := Aside0.mk (blk_grown (g := gb568) (o := .cells #[.slice none 0 0, .slice none 0 0] 27 (0, 0)) (by (with_reducible repeat (first | refine blk_drewN ?_ _ | refine blk_drew ?_ | refine blk_alloc ?_ _)); exact BK568.out) hg (Kd.S_ne HO_8.out BK568.out (by decide))); have n6_ := Aside0.mk (hb); have n7_ := Aside0.mk (ho); clear HO_6; clear HO_7; clear HO_64; clear BK566; clear BK567; clear BK568; clear HB; clear HO_8; clear HO_13; have HO_6 := n0_; have HO_7 := n1_; have HO_64 := n2_; have BK566 := n3_; have BK567 := n4_; have BK568 := n5_; have HB := n6_; have HO601 := n7_; clear n0_ n1_ n2_ n3_ n4_ n5_ n6_ n7_; clear ho hb hg hat))
                   go_roundg k4
                   case measure => have := HJ2.out; have := HK2.out; have := HK3.out; have := HK4.out; omega
                   case rel => exact ⟨(y599), (wrap64 (x47_3 + 1)), (by first | rfl | (simp; done) | (simp [*]; done)), H', ⟨by have := HJ2.out; have := HK2.out; have := HK3.out; have := HK4.out; omega⟩, ⟨by (with_reducible repeat (first | apply Kd.R_alloc | apply Kd.R_drewN | apply Kd.R_drew)); exact Kd.R_mono HO_6.out (fun _ hk => hk.1)⟩, ⟨by (with_reducible repeat (first | apply Kd.R_alloc | apply Kd.R_drewN | apply Kd.R_drew)); exact Kd.R_mono HO_7.out (fun _ hk => hk.1)⟩, ⟨by (with_reducible repeat (first | apply Kd.S_alloc | apply Kd.S_drewN | apply Kd.S_drew)); exact Kd.S_mono HO601.out (fun _ hk => ⟨hk.1, hk.2.1⟩)⟩, ⟨by (with_reducible repeat (first | refine blk_drewN ?_ _ | refine blk_drew ?_ | refine blk_alloc ?_ _)); exact BK566.out⟩, ⟨by (with_reducible repeat (first | refine blk_drewN ?_ _ | refine blk_drew ?_ | refine blk_alloc ?_ _)); exact BK567.out⟩, ⟨by (with_reducible repeat (first | refine blk_drewN ?_ _ | refine blk_drew ?_ | refine blk_alloc ?_ _)); exact BK568.out⟩, ⟨by repeat (first | exact HB.out | apply below_alloc | apply pw_below_drewN | apply below_drew1 | refine below_set ?_ GE566.out | refine below_set ?_ GE567.out | refine below_set ?_ GE568.out)⟩⟩
                  ·rw [if_neg c80] at H
                   exact absurd H (by simp)
              ·replace c48 := Bool.eq_false_iff.mpr c48
               subst c48
               have H1 : (impl_JoinTwo.l1 k3 t571 t574 x8_3 (rd_L1 l0_1 x40_2) l0_1 (l0_1.length : Int) x40_2 l1_1 (l1_1.length : Int) (wrap64 (x47_3 + 1)) l0_0 l0_1 l1_0 l1_1) = some (r1, r2, r3) := by rw [if_neg (show ¬ (false = true) by decide)] at H; exact H
               clear H
               have H := H1
               clear H1
               have H' := Aside0.mk H
               clear H
               have p588 : 0 ≤ (x47_3 : Int) := of_decide_eq_true (by first | (with_reducible assumption) | assumption)
               have q588 : x47_3 < (l1_1.length : Int) := of_decide_eq_true (by first | (with_reducible assumption) | assumption)
               obtain ⟨ad588, A588_0, c588_0, e588, hx588_0, hl588_0, hi588_0⟩ := at_L1 HR1_1.out x47_3 p588 q588
               cases e588
               replace hx588_0 := (HB.out.cell (World.block_lt_of_cell? w _ hx588_0)).trans hx588_0
               have HR588_0 := Aside0.mk hi588_0
               have HC588_0 := Aside0.mk hl588_0
               clear hi588_0 hl588_0
               replace p588 := eq_true p588
               replace q588 := eq_true q588
               try go_wp2
               have n0_ := Aside0.mk (Kd.R_drew HO_6.out)
               have n1_ := Aside0.mk (Kd.R_drew HO_7.out)
               have n2_ := Aside0.mk (Kd.S_drew HO_8.out)
               have n3_ := Aside0.mk (blk_drew BK566.out)
               have n4_ := Aside0.mk (blk_drew BK567.out)
               have n5_ := Aside0.mk (blk_drew BK568.out)
               have n6_ := Aside0.mk (below_drew1 HB.out)
               clear HO_6
               clear HO_7
               clear HO_8
               clear BK566
               clear BK567
               clear BK568
               clear HB
               have HO_6 := n0_
               have HO_7 := n1_
               have HO_8 := n2_
               have BK566 := n3_
               have BK567 := n4_
               have BK568 := n5_
               have HB := n6_
               clear n0_ n1_ n2_ n3_ n4_ n5_ n6_
               obtain ⟨Ao84, co84, eo84⟩ := Kd.R_slice HO_6.out
               (first | subst eo84 | (injection eo84 with f1_ f2_ f3_; have f4_ := f1_.symm; have f5_ := f3_.symm; clear f1_ f2_ f3_; subst f4_; subst f5_))
               refine start_ (n := 12) (S := fun w' => w'.cell? ⟨gb566, 0, none⟩ = some (.slice A0_0 l0_0.length c0_0) ∧ w'.cell? ⟨gb566, 1, none⟩ = some (.slice (some ad587) l0_1.length c0_1) ∧ w'.cell? ⟨gb567, 0, none⟩ = some (.slice A1_0 l1_0.length c1_0) ∧ w'.cell? ⟨gb567, 1, none⟩ = some (.slice (some ad588) l1_1.length c1_1)) (ds := []) #[false, false, false, false, false, false, false, false, false, false, false, false] (by kernel_rfl) rfl rfl ⟨(blk_cell BK566.out 0).trans rfl, (blk_cell BK566.out 1).trans rfl, (blk_cell BK567.out 0).trans rfl, (blk_cell BK567.out 1).trans rfl⟩ (fun hHeld => ?_); refine with_tabW impl_JoinTwo.tab10 impl_JoinTwo.bits10 (fun HT_ HW_ => ?_)
               generalize wr.drew = w83 at HO_6 HO_7 HO_8 BK566 BK567 BK568 HB hHeld ⊢
               refine pure_ (i := 0) (N := some 51) (v := ?_) (a' := ?_) #[true, false, false, false, false, false, false, false, false, false, false, false] rfl rfl (any_of HT_.out (by kernel_rfl)) (fun _ _ _ h => h) (Or.inl ⟨by rfl, ?_⟩) ?_ ?_
               rotate_left
               ·intro w'
                go_simp
                with_reducible rfl
               rotate_left
               ·simp only [Act.put, List.setIfInBounds_toArray, List.set_cons_zero, List.set_cons_succ, i64_w, i32_w]
                rfl
               refine pure_ (i := 2) (N := some 53) (v := ?_) (a' := ?_) #[true, false, true, false, false, false, false, false, false, false, false, false] rfl rfl (any_of HT_.out (by kernel_rfl)) (fun _ _ _ h => h) (Or.inl ⟨by rfl, ?_⟩) ?_ ?_
               rotate_left
               ·intro w'
                go_simp
                with_reducible rfl
               rotate_left
               ·simp only [Act.put, List.setIfInBounds_toArray, List.set_cons_zero, List.set_cons_succ, i64_w, i32_w]
                rfl
               refine pure_ (i := 3) (N := some 54) (v := ?_) (a' := ?_) #[true, false, true, true, false, false, false, false, false, false, false, false] rfl rfl (any_of HT_.out (by kernel_rfl)) (fun _ _ _ h => h) (Or.inl ⟨by rfl, ?_⟩) ?_ ?_
               rotate_left
               ·intro w'
                go_simp
                with_reducible rfl
               rotate_left
               ·simp only [Act.put, List.setIfInBounds_toArray, List.set_cons_zero, List.set_cons_succ, i64_w, i32_w]
                rfl
               refine pure_ (i := 5) (N := some 56) (v := ?_) (a' := ?_) #[true, false, true, true, false, true, false, false, false, false, false, false] rfl rfl (any_of HT_.out (by kernel_rfl)) (fun _ _ _ h => h) (Or.inl ⟨by rfl, ?_⟩) ?_ ?_
               rotate_left
               ·intro w'
                go_simp
                with_reducible rfl
               rotate_left
               ·simp only [Act.put, List.setIfInBounds_toArray, List.set_cons_zero, List.set_cons_succ, i64_w, i32_w]
                rfl
               refine pure_ (i := 7) (N := some 58) (v := ?_) (a' := ?_) #[true, false, true, true, false, true, false, true, false, false, false, false] rfl rfl (any_of HT_.out (by kernel_rfl)) (fun _ _ _ h => h) (Or.inl ⟨by rfl, ?_⟩) ?_ ?_
               rotate_left
               ·intro w'
                go_simp
                with_reducible rfl
               rotate_left
               ·simp only [Act.put, List.setIfInBounds_toArray, List.set_cons_zero, List.set_cons_succ, i64_w, i32_w]
                rfl
               refine pure_ (i := 8) (N := some 59) (v := ?_) (a' := ?_) #[true, false, true, true, false, true, false, true, true, false, false, false] rfl rfl (any_of HT_.out (by kernel_rfl)) (fun _ _ _ h => h) (Or.inl ⟨by rfl, ?_⟩) ?_ ?_
               rotate_left
               ·intro w'
                go_simp
                with_reducible rfl
               rotate_left
               ·simp only [Act.put, List.setIfInBounds_toArray, List.set_cons_zero, List.set_cons_succ, i64_w, i32_w]
                rfl
               refine take_ (i := 1) (N := some 52) (v := ?_) (a' := ?_) #[true, true, true, true, false, true, false, true, true, false, false, false] rfl rfl (take_ofW HT_.out HW_.out (by kernel_rfl)) (fun _ _ _ h => h) (Or.inl ⟨by rfl, ?_⟩) hHeld ?_ ?_
               rotate_left
               ·rintro w' ⟨s0, s1, s2, s3⟩
                go_simp
                with_reducible rfl
               rotate_left
               ·simp only [Act.put, List.setIfInBounds_toArray, List.set_cons_zero, List.set_cons_succ, i64_w, i32_w]
                rfl
               refine take_ (i := 6) (N := some 57) (v := ?_) (a' := ?_) #[true, true, true, true, false, true, true, true, true, false, false, false] rfl rfl (take_ofW HT_.out HW_.out (by kernel_rfl)) (fun _ _ _ h => h) (Or.inl ⟨by rfl, ?_⟩) hHeld ?_ ?_
               rotate_left
               ·rintro w' ⟨s0, s1, s2, s3⟩
                go_simp
                with_reducible rfl
               rotate_left
               ·simp only [Act.put, List.setIfInBounds_toArray, List.set_cons_zero, List.set_cons_succ, i64_w, i32_w]
                rfl
               refine one_ (i := 4) (N := some 55) #[true, true, true, true, true, true, true, true, true, false, false, false] rfl rfl (one_of HT_.out (by kernel_rfl)) (by decide) (fun K hK => ?_)
               refine goes_ Try.func50 (by kernel_rfl) rfl #[.slice A0_0 l0_0.length c0_0, .slice A587_0 (rd_L1 l0_1 x40_2).length c587_0, .slice Ao84 t571.length co84] (by rfl) rfl rfl (by (try simp only [List.map_toArray, List.map_cons, List.map_nil]); first | done | rfl | (simp only [List.length_drop, List.length_take]; rfl)) ?_
               with_reducible refine (impl_under.calls k3 _ _ l0_0 _ _ (rd_L1 l0_1 x40_2) _ _ t571 t589 _ ?side1 ?side2 ?side3 ?side4 ?side5 ?side6 A45.out).mono ?_
               (case side1 => repeat (first | exact (Kd.C_below HR0_0.out HB.out) | (with_reducible refine Kd.C_alloc ?_ _) | (with_reducible refine Kd.C_drewN ?_ _) | (with_reducible refine Kd.C_drew ?_)))
               (case side2 => exact HC0_0.out)
               (case side3 => repeat (first | exact (Kd.C_below HR587_0.out HB.out) | (with_reducible refine Kd.C_alloc ?_ _) | (with_reducible refine Kd.C_drewN ?_ _) | (with_reducible refine Kd.C_drew ?_)))
               (case side4 => exact HC587_0.out)
               (case side5 => repeat (first | exact (Kd.R_reads' HO_6.out).2.2 | (with_reducible refine Kd.C_alloc ?_ _) | (with_reducible refine Kd.C_drewN ?_ _) | (with_reducible refine Kd.C_drew ?_)))
               (case side6 => exact (Kd.R_reads' HO_6.out).2.1)
               rintro e w85 ⟨v590, rfl, ho0, hb⟩
               refine ⟨_, rfl, ?_⟩
               have n0_ := Aside0.mk (Kd.R_elder' (by (with_reducible repeat (first | apply Kd.R_alloc | apply Kd.R_drewN | apply Kd.R_drew)); exact HO_6.out) (Kd.R_base ho0) hb)
               have n1_ := Aside0.mk (Kd.R_elder' (by (with_reducible repeat (first | apply Kd.R_alloc | apply Kd.R_drewN | apply Kd.R_drew)); exact HO_7.out) (Kd.R_base ho0) hb)
               have n2_ := Aside0.mk (Kd.S_elder' (by (with_reducible repeat (first | apply Kd.S_alloc | apply Kd.S_drewN | apply Kd.S_drew)); exact HO_8.out) (Kd.R_base ho0) hb)
               have n3_ := Aside0.mk (Kd.R_lower (Kd.R_new' (Kd.R_new' ho0 (Kd.R_lt (by (with_reducible repeat (first | apply Kd.R_alloc | apply Kd.R_drewN | apply Kd.R_drew)); exact HO_6.out))) (Kd.R_lt (by (with_reducible repeat (first | apply Kd.R_alloc | apply Kd.R_drewN | apply Kd.R_drew)); exact HO_7.out))) (below_size (by repeat (first | exact HB.out | apply below_alloc | apply pw_below_drewN | apply below_drew1 | refine below_set ?_ GE566.out | refine below_set ?_ GE567.out | refine below_set ?_ GE568.out))))
               have n4_ := Aside0.mk (blk_below (g := gb566) (o := .cells #[.slice A0_0 l0_0.length c0_0, .slice (some ad587) l0_1.length c0_1] 27 (0, 0)) (by (with_reducible repeat (first | refine blk_drewN ?_ _ | refine blk_drew ?_ | refine blk_alloc ?_ _)); exact BK566.out) hb)
               have n5_ := Aside0.mk (blk_below (g := gb567) (o := .cells #[.slice A1_0 l1_0.length c1_0, .slice (some ad588) l1_1.length c1_1] 27 (0, 0)) (by (with_reducible repeat (first | refine blk_drewN ?_ _ | refine blk_drew ?_ | refine blk_alloc ?_ _)); exact BK567.out) hb)
               have n6_ := Aside0.mk (blk_below (g := gb568) (o := .cells #[.slice none 0 0, .slice none 0 0] 27 (0, 0)) (by (with_reducible repeat (first | refine blk_drewN ?_ _ | refine blk_drew ?_ | refine blk_alloc ?_ _)); exact BK568.out) hb)
               have n7_ := Aside0.mk (below_step (by repeat (first | exact HB.out | apply below_alloc | apply pw_below_drewN | apply below_drew1 | refine below_set ?_ GE566.out | refine below_set ?_ GE567.out | refine below_set ?_ GE568.out)) hb)
               clear HO_6
               clear HO_7
               clear HO_8
               clear BK566
               clear BK567
               clear BK568
               clear HB
               have HO_6 := n0_
               have HO_7 := n1_
               have HO_8 := n2_
               have HO591 := n3_
               have BK566 := n4_
               have BK567 := n5_
               have BK568 := n6_
               have HB := n7_
               clear n0_ n1_ n2_ n3_ n4_ n5_ n6_ n7_
               (try clear hb)
               (try clear hb2)
               (try clear hk)
               (try clear hi)
               (try clear ho0)
               refine hK.out _ _ ⟨(blk_cell BK566.out 0).trans rfl, (blk_cell BK566.out 1).trans rfl, (blk_cell BK567.out 0).trans rfl, (blk_cell BK567.out 1).trans rfl⟩ (fun hHeld => ?_)
               clear hK K
               refine norm_ (a' := ?_) ?_ ?_
               rotate_left
               ·show Act.put _ (some 55) _ = _
                simp only [Act.put, List.setIfInBounds_toArray, List.set_cons_zero, List.set_cons_succ, i64_w, i32_w]
                rfl
               refine one_ (i := 9) (N := some 60) #[true, true, true, true, true, true, true, true, true, true, false, false] rfl rfl (one_of HT_.out (by kernel_rfl)) (by decide) (fun K hK => ?_)
               refine goes_ Try.func50 (by kernel_rfl) rfl #[.slice A1_0 l1_0.length c1_0, .slice A588_0 (rd_L1 l1_1 x47_3).length c588_0, .slice Ao84 t571.length co84] (by rfl) rfl rfl (by (try simp only [List.map_toArray, List.map_cons, List.map_nil]); first | done | rfl | (simp only [List.length_drop, List.length_take]; rfl)) ?_
               with_reducible refine (impl_under.calls k3 _ _ l1_0 _ _ (rd_L1 l1_1 x47_3) _ _ t571 t592 _ ?side1 ?side2 ?side3 ?side4 ?side5 ?side6 A46.out).mono ?_
               (case side1 => repeat (first | exact (Kd.C_below HR1_0.out HB.out) | (with_reducible refine Kd.C_alloc ?_ _) | (with_reducible refine Kd.C_drewN ?_ _) | (with_reducible refine Kd.C_drew ?_)))
               (case side2 => exact HC1_0.out)
               (case side3 => repeat (first | exact (Kd.C_below HR588_0.out HB.out) | (with_reducible refine Kd.C_alloc ?_ _) | (with_reducible refine Kd.C_drewN ?_ _) | (with_reducible refine Kd.C_drew ?_)))
               (case side4 => exact HC588_0.out)
               (case side5 => repeat (first | exact (Kd.R_reads' HO_6.out).2.2 | (with_reducible refine Kd.C_alloc ?_ _) | (with_reducible refine Kd.C_drewN ?_ _) | (with_reducible refine Kd.C_drew ?_)))
               (case side6 => exact (Kd.R_reads' HO_6.out).2.1)
               rintro e w86 ⟨v593, rfl, ho0, hb⟩
               refine ⟨_, rfl, ?_⟩
               have n0_ := Aside0.mk (Kd.R_elder' (by (with_reducible repeat (first | apply Kd.R_alloc | apply Kd.R_drewN | apply Kd.R_drew)); exact HO_6.out) (Kd.R_base ho0) hb)
               have n1_ := Aside0.mk (Kd.R_elder' (by (with_reducible repeat (first | apply Kd.R_alloc | apply Kd.R_drewN | apply Kd.R_drew)); exact HO_7.out) (Kd.R_base ho0) hb)
               have n2_ := Aside0.mk (Kd.S_elder' (by (with_reducible repeat (first | apply Kd.S_alloc | apply Kd.S_drewN | apply Kd.S_drew)); exact HO_8.out) (Kd.R_base ho0) hb)
               have n3_ := Aside0.mk (Kd.R_elder' (by (with_reducible repeat (first | apply Kd.R_alloc | apply Kd.R_drewN | apply Kd.R_drew)); exact HO591.out) (Kd.R_base ho0) hb)
               have n4_ := Aside0.mk (Kd.R_lower (Kd.R_new' (Kd.R_new' (Kd.R_new' ho0 (Kd.R_lt (by (with_reducible repeat (first | apply Kd.R_alloc | apply Kd.R_drewN | apply Kd.R_drew)); exact HO_6.out))) (Kd.R_lt (by (with_reducible repeat (first | apply Kd.R_alloc | apply Kd.R_drewN | apply Kd.R_drew)); exact HO_7.out))) (Kd.R_lt (by (with_reducible repeat (first | apply Kd.R_alloc | apply Kd.R_drewN | apply Kd.R_drew)); exact HO591.out))) (below_size (by repeat (first | exact HB.out | apply below_alloc | apply pw_below_drewN | apply below_drew1 | refine below_set ?_ GE566.out | refine below_set ?_ GE567.out | refine below_set ?_ GE568.out))))
               have n5_ := Aside0.mk (blk_below (g := gb566) (o := .cells #[.slice A0_0 l0_0.length c0_0, .slice (some ad587) l0_1.length c0_1] 27 (0, 0)) (by (with_reducible repeat (first | refine blk_drewN ?_ _ | refine blk_drew ?_ | refine blk_alloc ?_ _)); exact BK566.out) hb)
               have n6_ := Aside0.mk (blk_below (g := gb567) (o := .cells #[.slice A1_0 l1_0.length c1_0, .slice (some ad588) l1_1.length c1_1] 27 (0, 0)) (by (with_reducible repeat (first | refine blk_drewN ?_ _ | refine blk_drew ?_ | refine blk_alloc ?_ _)); exact BK567.out) hb)
               have n7_ := Aside0.mk (blk_below (g := gb568) (o := .cells #[.slice none 0 0, .slice none 0 0] 27 (0, 0)) (by (with_reducible repeat (first | refine blk_drewN ?_ _ | refine blk_drew ?_ | refine blk_alloc ?_ _)); exact BK568.out) hb)
               have n8_ := Aside0.mk (below_step (by repeat (first | exact HB.out | apply below_alloc | apply pw_below_drewN | apply below_drew1 | refine below_set ?_ GE566.out | refine below_set ?_ GE567.out | refine below_set ?_ GE568.out)) hb)
               clear HO_6
               clear HO_7
               clear HO_8
               clear HO591
               clear BK566
               clear BK567
               clear BK568
               clear HB
               have HO_6 := n0_
               have HO_7 := n1_
               have HO_8 := n2_
               have HO591 := n3_
               have HO594 := n4_
               have BK566 := n5_
               have BK567 := n6_
               have BK568 := n7_
               have HB := n8_
               clear n0_ n1_ n2_ n3_ n4_ n5_ n6_ n7_ n8_
               (try clear hb)
               (try clear hb2)
               (try clear hk)
               (try clear hi)
               (try clear ho0)
               obtain ⟨Ao87, co87, eo87⟩ := Kd.R_slice HO591.out
               (first | subst eo87 | (injection eo87 with f1_ f2_ f3_; have f4_ := f1_.symm; have f5_ := f3_.symm; clear f1_ f2_ f3_; subst f4_; subst f5_))
               obtain ⟨Ao88, co88, eo88⟩ := Kd.R_slice HO594.out
               (first | subst eo88 | (injection eo88 with f1_ f2_ f3_; have f4_ := f1_.symm; have f5_ := f3_.symm; clear f1_ f2_ f3_; subst f4_; subst f5_))
               refine hK.out _ _ ⟨(blk_cell BK566.out 0).trans rfl, (blk_cell BK566.out 1).trans rfl, (blk_cell BK567.out 0).trans rfl, (blk_cell BK567.out 1).trans rfl⟩ (fun hHeld => ?_)
               clear hK K
               refine norm_ (a' := ?_) ?_ ?_
               rotate_left
               ·show Act.put _ (some 60) _ = _
                simp only [Act.put, List.setIfInBounds_toArray, List.set_cons_zero, List.set_cons_succ, i64_w, i32_w]
                rfl
               refine one_ (i := 10) (N := some 61) #[true, true, true, true, true, true, true, true, true, true, true, false] rfl rfl (one_of HT_.out (by kernel_rfl)) (by decide) (fun K hK => ?_)
               refine goes_ Try.func49 (by kernel_rfl) rfl #[.slice Ao87 t589.length co87, .slice Ao88 t592.length co88] (by rfl) rfl rfl (by (try simp only [List.map_toArray, List.map_cons, List.map_nil]); first | done | rfl | (simp only [List.length_drop, List.length_take]; rfl)) ?_
               with_reducible refine (slices_Equal_int_int.calls k3 _ _ t589 _ _ t592 false _ ?side1 ?side2 ?side3 ?side4 A47.out).mono ?_
               (case side1 => repeat (first | exact (Kd.R_reads' HO591.out).2.2 | (with_reducible refine Kd.C_alloc ?_ _) | (with_reducible refine Kd.C_drewN ?_ _) | (with_reducible refine Kd.C_drew ?_)))
               (case side2 => exact (Kd.R_reads' HO591.out).2.1)
               (case side3 => repeat (first | exact (Kd.R_reads' HO594.out).2.2 | (with_reducible refine Kd.C_alloc ?_ _) | (with_reducible refine Kd.C_drewN ?_ _) | (with_reducible refine Kd.C_drew ?_)))
               (case side4 => exact (Kd.R_reads' HO594.out).2.1)
               rintro e w' ⟨rfl, ⟨nd, rfl⟩⟩
               refine ⟨_, rfl, ?_⟩
               refine hK.out _ _ ⟨(blk_cell BK566.out 0).trans rfl, (blk_cell BK566.out 1).trans rfl, (blk_cell BK567.out 0).trans rfl, (blk_cell BK567.out 1).trans rfl⟩ (fun hHeld => ?_)
               clear hK K
               refine norm_ (a' := ?_) ?_ ?_
               rotate_left
               ·show Act.put _ (some 61) _ = _
                simp only [Act.put, List.setIfInBounds_toArray, List.set_cons_zero, List.set_cons_succ, i64_w, i32_w]
                rfl
               refine pure_ (i := 11) (N := some 62) (v := ?_) (a' := ?_) #[true, true, true, true, true, true, true, true, true, true, true, true] rfl rfl (any_of HT_.out (by kernel_rfl)) (fun _ _ _ h => h) (Or.inl ⟨by rfl, ?_⟩) ?_ ?_
               rotate_left
               ·intro w'
                go_simp
                with_reducible rfl
               rotate_left
               ·simp only [Act.put, List.setIfInBounds_toArray, List.set_cons_zero, List.set_cons_succ, i64_w, i32_w]
                rfl
               refine done_ (done_of HT_.out (by kernel_rfl)) ?_
               try go_wp2
               go_roundg k3
               case measure => have := HJ2.out; have := HK2.out; have := HK3.out; omega
               case rel => exact ⟨(x8_3), (wrap64 (x47_3 + 1)), (by first | rfl | (simp; done) | (simp [*]; done)), H', ⟨by have := HJ2.out; have := HK2.out; have := HK3.out; omega⟩, ⟨by (with_reducible repeat (first | apply Kd.R_alloc | apply Kd.R_drewN | apply Kd.R_drew)); exact Kd.R_mono HO_6.out (fun _ hk => hk.1.1)⟩, ⟨by (with_reducible repeat (first | apply Kd.R_alloc | apply Kd.R_drewN | apply Kd.R_drew)); exact Kd.R_mono HO_7.out (fun _ hk => hk.1.1)⟩, ⟨by (with_reducible repeat (first | apply Kd.S_alloc | apply Kd.S_drewN | apply Kd.S_drew)); exact Kd.S_mono HO_8.out (fun _ hk => ⟨hk.1.1.1, hk.1.1.2⟩)⟩, ⟨by (with_reducible repeat (first | refine blk_drewN ?_ _ | refine blk_drew ?_ | refine blk_alloc ?_ _)); exact BK566.out⟩, ⟨by (with_reducible repeat (first | refine blk_drewN ?_ _ | refine blk_drew ?_ | refine blk_alloc ?_ _)); exact BK567.out⟩, ⟨by (with_reducible repeat (first | refine blk_drewN ?_ _ | refine blk_drew ?_ | refine blk_alloc ?_ _)); exact BK568.out⟩, ⟨by repeat (first | exact HB.out | apply below_alloc | apply pw_below_drewN | apply below_drew1 | refine below_set ?_ GE566.out | refine below_set ?_ GE567.out | refine below_set ?_ GE568.out)⟩⟩
             ·rw [if_neg c44] at H
              exact absurd H (by simp)
            ·rw [if_neg c43] at H
             exact absurd H (by simp)
           ·rw [if_neg c42] at H
            have c42b0 : decide (x47_3 < (l1_1.length : Int)) = false := decide_eq_false c42
            clear c42
            have H' := Aside0.mk H
            clear H
            go_wp2
            go_roundg k3
            case measure => have := HJ2.out; have := HK2.out; have := HK3.out; omega
            case rel => exact ⟨(x8_3), (wrap64 (x40_2 + 1)), (by first | rfl | (simp; done) | (simp [*]; done)), H', ⟨by have := HJ2.out; have := HK2.out; have := HK3.out; omega⟩, ⟨by (with_reducible repeat (first | apply Kd.R_alloc | apply Kd.R_drewN | apply Kd.R_drew)); exact HO_6.out⟩, ⟨by (with_reducible repeat (first | apply Kd.R_alloc | apply Kd.R_drewN | apply Kd.R_drew)); exact HO_7.out⟩, ⟨by (with_reducible repeat (first | apply Kd.S_alloc | apply Kd.S_drewN | apply Kd.S_drew)); exact HO_8.out⟩, ⟨by (with_reducible repeat (first | refine blk_drewN ?_ _ | refine blk_drew ?_ | refine blk_alloc ?_ _)); exact BK566.out⟩, ⟨by (with_reducible repeat (first | refine blk_drewN ?_ _ | refine blk_drew ?_ | refine blk_alloc ?_ _)); exact BK567.out⟩, ⟨by (with_reducible repeat (first | refine blk_drewN ?_ _ | refine blk_drew ?_ | refine blk_alloc ?_ _)); exact BK568.out⟩, ⟨by repeat (first | exact HB.out | apply below_alloc | apply pw_below_drewN | apply below_drew1 | refine below_set ?_ GE566.out | refine below_set ?_ GE567.out | refine below_set ?_ GE568.out)⟩⟩
        ·rw [if_neg c38] at H
         exact absurd H (by simp)
       ·rw [if_neg c37] at H
        exact absurd H (by simp)
      ·rw [if_neg c36] at H
       have c36b0 : decide (x40_2 < (l0_1.length : Int)) = false := decide_eq_false c36
       clear c36
       replace H := Option.bind_eq_some_iff.mp H
       obtain ⟨⟨t580, t583, t586⟩, A890, H⟩ := H
       replace H : (some (t580, t583, t586)) = some (r1, r2, r3) := H
       have A89 := Aside0.mk A890
       clear A890
       simp only [Option.some.injEq, Prod.mk.injEq] at H
       obtain ⟨rfl, rfl, rfl⟩ := H
       obtain ⟨Ao90, co90, eo90⟩ := Kd.R_slice HO_7.out
       subst eo90
       obtain ⟨Ao91, co91, eo91⟩ := Kd.S_slice HO_8.out
       subst eo91
       go_wp2_with (first | ((with_reducible refine gate_callee (f := 52) rfl ?_); refine goesL_ (some 102) rfl rfl Try.func52 (by kernel_rfl) rfl #[.slice Ao90 t574.length co90, .slice Ao91 x8_2.length co91] rfl (by (try simp only [List.map_toArray, List.map_cons, List.map_nil]); first | done | rfl | (simp only [List.length_drop, List.length_take]; rfl)) ?_; (with_reducible refine (impl_related.calls _ _ t574 _ _ x8_2 t580 t583 t586 _ ?side1 ?side2 ?side3 ?side4 A89.out).mono ?_); (case side1 => repeat (first | exact (Kd.R_reads' HO_7.out).2.2 | (with_reducible refine Kd.C_alloc ?_ _) | (with_reducible refine Kd.C_drewN ?_ _) | (with_reducible refine Kd.C_drew ?_))); (case side2 => exact (Kd.R_reads' HO_7.out).2.1); (case side3 => repeat (first | exact (Kd.S_reads' HO_8.out).2.2 | (with_reducible refine Kd.C_alloc ?_ _) | (with_reducible refine Kd.C_drewN ?_ _) | (with_reducible refine Kd.C_drew ?_))); (case side4 => exact (Kd.S_reads' HO_8.out).2.1); rintro e w92 ⟨v581, v584, rfl, ho0, ho1, hb⟩; refine ⟨_, rfl, ?_⟩; have n0_ := Aside0.mk (Kd.R_elder' (by (with_reducible repeat (first | apply Kd.R_alloc | apply Kd.R_drewN | apply Kd.R_drew)); exact HO_6.out) (Kd.R_base ho0) hb); have n1_ := Aside0.mk (Kd.R_elder' (by (with_reducible repeat (first | apply Kd.R_alloc | apply Kd.R_drewN | apply Kd.R_drew)); exact HO_7.out) (Kd.R_base ho0) hb); have n2_ := Aside0.mk (Kd.S_mono (Kd.S_told (Kd.S_told (Kd.S_old (by (with_reducible repeat (first | apply Kd.S_alloc | apply Kd.S_drewN | apply Kd.S_drew)); exact HO_8.out) hb) (Kd.R_base ho0)) (Kd.S_base ho1)) (fun _ h_ => h_.1)); have n3_ := Aside0.mk (Kd.R_lower (Kd.R_new' (Kd.R_new' ho0 (Kd.R_lt (by (with_reducible repeat (first | apply Kd.R_alloc | apply Kd.R_drewN | apply Kd.R_drew)); exact HO_6.out))) (Kd.R_lt (by (with_reducible repeat (first | apply Kd.R_alloc | apply Kd.R_drewN | apply Kd.R_drew)); exact HO_7.out))) (below_size (by repeat (first | exact HB.out | apply below_alloc | apply pw_below_drewN | apply below_drew1 | refine below_set ?_ GE566.out | refine below_set ?_ GE567.out | refine below_set ?_ GE568.out)))); have n4_ := Aside0.mk (Kd.S_lower (Kd.S_new' (Kd.S_new' (Kd.S_new' ho1 (Kd.R_lt (by (with_reducible repeat (first | apply Kd.R_alloc | apply Kd.R_drewN | apply Kd.R_drew)); exact HO_6.out))) (Kd.R_lt (by (with_reducible repeat (first | apply Kd.R_alloc | apply Kd.R_drewN | apply Kd.R_drew)); exact HO_7.out))) (Kd.S_lt (by (with_reducible repeat (first | apply Kd.S_alloc | apply Kd.S_drewN | apply Kd.S_drew)); exact HO_8.out))) (below_size (by repeat (first | exact HB.out | apply below_alloc | apply pw_below_drewN | apply below_drew1 | refine below_set ?_ GE566.out | refine below_set ?_ GE567.out | refine below_set ?_ GE568.out)))); have n5_ := Aside0.mk (blk_below (g := gb566) (o := .cells #[.slice A0_0 l0_0.length c0_0, .slice A0_1 l0_1.length c0_1] 27 (0, 0)) (by (with_reducible repeat (first | refine blk_drewN ?_ _ | refine blk_drew ?_ | refine blk_alloc ?_ _)); exact BK566.out) hb); have n6_ := Aside0.mk (blk_below (g := gb567) (o := .cells #[.slice A1_0 l1_0.length c1_0, .slice A1_1 l1_1.length c1_1] 27 (0, 0)) (by (with_reducible repeat (first | refine blk_drewN ?_ _ | refine blk_drew ?_ | refine blk_alloc ?_ _)); exact BK567.out) hb); have n7_ := Aside0.mk (blk_below (g := gb568) (o := .cells #[.slice none 0 0, .slice none 0 0] 27 (0, 0)) (by (with_reducible repeat (first | refine blk_drewN ?_ _ | refine blk_drew ?_ | refine blk_alloc ?_ _)); exact BK568.out) hb); have n8_ := Aside0.mk (below_step (by repeat (first | exact HB.out | apply below_alloc | apply pw_below_drewN | apply below_drew1 | refine below_set ?_ GE566.out | refine below_set ?_ GE567.out | refine below_set ?_ GE568.out)) hb); clear HO_6; clear HO_7; clear HO_8; clear BK566; clear BK567; clear BK568; clear HB; have HO_6 := n0_; have HO_7 := n1_; have HO_8 := n2_; have HO582 := n3_; have HO585 := n4_; have BK566 := n5_; have BK567 := n6_; have BK568 := n7_; have HB := n8_; clear n0_ n1_ n2_ n3_ n4_ n5_ n6_ n7_ n8_; (try clear hb); (try clear hb2); (try clear hk); (try clear hi); (try clear ho0); (try clear ho1); obtain ⟨Ao93, co93, eo93⟩ := Kd.R_slice HO582.out; subst eo93; have hnb94 := NB568_566.out; have hnc94 := NB566_568.out; have hnb95 := NB568_567.out; have hnc95 := NB567_568.out; have hcz96_0 : w92.cell? ⟨gb568, 0, none⟩ = some (.slice none 0 0) := (blk_cell BK568.out 0).trans rfl; have hcz96_1 : w92.cell? ⟨gb568, 1, none⟩ = some (.slice none 0 0) := (blk_cell BK568.out 1).trans rfl; have hfz96_0 := blk_frozen BK568.out 0; have hfz96_1 := blk_frozen BK568.out 1; obtain ⟨Ao97, co97, eo97⟩ := Kd.S_slice HO585.out; subst eo97))
       refine bodyPost_ret (results_ct rfl _ _ gb568 27 #[.slice Ao93 t580.length co93, .slice Ao97 t583.length co97] (0, 0) _ rfl (by (with_reducible repeat (first | refine blk_drewN ?_ _ | refine blk_drew ?_ | refine blk_alloc ?_ _)); refine blk_put (cs := #[.slice Ao93 t580.length co93, .slice none 0 0]) ?_ 1 _ rfl; (with_reducible repeat (first | refine blk_drewN ?_ _ | refine blk_drew ?_ | refine blk_alloc ?_ _)); refine blk_put (cs := #[.slice none 0 0, .slice none 0 0]) ?_ 0 _ rfl; (with_reducible repeat (first | refine blk_drewN ?_ _ | refine blk_drew ?_ | refine blk_alloc ?_ _)); exact BK568.out) Try.underlying27 rfl (by kernel_rfl)) rfl ?_
       exact ⟨_, _, by first | rfl | (simp [errW_none, errW_some] <;> rfl) | (simp [*, errW_none, errW_some] <;> rfl), by (with_reducible repeat (first | apply Kd.R_alloc | apply Kd.R_drewN | apply Kd.R_drew)); exact Kd.R_mono (Kd.R_far (p := ⟨gb568, 1, none⟩) (Kd.R_far (p := ⟨gb568, 0, none⟩) (Kd.R_types HO582.out BK568.out (by decide)) (fun _ hk => hk.2) (.slice Ao93 t580.length co93)) (fun _ hk => hk.2) (.slice Ao97 t583.length co97)) (fun _ hk => trivial), by (with_reducible repeat (first | apply Kd.S_alloc | apply Kd.S_drewN | apply Kd.S_drew)); exact Kd.S_mono (Kd.S_far (p := ⟨gb568, 1, none⟩) (Kd.S_far (p := ⟨gb568, 0, none⟩) (Kd.S_types HO585.out BK568.out (by decide)) (fun _ hk => hk.2) (.slice Ao93 t580.length co93)) (fun _ hk => hk.2) (.slice Ao97 t583.length co97)) (fun _ hk => hk.1.1.1.1), by repeat (first | exact HB.out | apply below_alloc | apply pw_below_drewN | apply below_drew1 | refine below_set ?_ GE566.out | refine below_set ?_ GE567.out | refine below_set ?_ GE568.out)⟩

-- NOT PRINTED: function 3 (laws_FnExactJoinTwo)

end Go.Proofs.Ytmimoaecdjkciaa.Pr
