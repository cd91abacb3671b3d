-- Written by xprint.py (a program of this session, over the kit's print). Not trusted: Lean checks it.
import Derived.Test.YtmlbihhaikknnaaPr0
namespace Go.Proofs.Ytmlbihhaikknnaa.Pr
open Go.RowKit Go.Proofs.YtmlbihhaikknnaaW.PrintWords Go.Proofs.YtmlbihhaikknnaaW.PrintLast Go.Proofs.YtmlbihhaikknnaaW.PrintMore
attribute [local go_sem] max2_int min2_int max_two min_two max_three min_three max_four min_four   -- for this text's walks alone
set_option linter.unusedVariables false
set_option linter.unusedSimpArgs false
def impl_sumOf.l0 : Nat → List (S43) → Int → Int → Int → Int → Int → Bool → Int → Bool → Int → Option (Int × Int × Int × Bool × Int × Bool × Int)
 | 0, _, _, _, _, _, _, _, _, _, _ => none
 | k + 1, x11, x12, x13, x131000, x131001, x131002, x131003, x131004, x131005, x131006 => if x13 < x12 then (if 0 ≤ x13 then (if x13 < (x11.length : Int) then (if (rd_T43 x11 x13).f0 = true then (impl_sumOf.l0 k x11 x12 (wrap64 (x13 + 1)) x131000 x131001 x131002 x131003 x131004 x131005 x131006) else (if x131001 = 0 then (impl_sumOf.l0 k x11 x12 (wrap64 (x13 + 1)) x131000 (wrap64 (x131001 + 1)) (wrap64 (x131002 + ((rd_T43 x11 x13).f1))) ((rd_T43 x11 x13).f0) (mn ((rd_T43 x11 x13).f1) ((rd_T43 x11 x13).f1)) ((rd_T43 x11 x13).f0) (mx ((rd_T43 x11 x13).f1) ((rd_T43 x11 x13).f1))) else (impl_sumOf.l0 k x11 x12 (wrap64 (x13 + 1)) x131000 (wrap64 (x131001 + 1)) (wrap64 (x131002 + ((rd_T43 x11 x13).f1))) x131003 (mn x131004 ((rd_T43 x11 x13).f1)) x131005 (mx x131006 ((rd_T43 x11 x13).f1))))) else (none)) else (none)) else (some (x131000, x131001, x131002, x131003, x131004, x131005, x131006))
def impl_sumOf.f (k : Nat) (l0 : List (S43)) : Option (Int × Int × Int × Bool × Int × Bool × Int) := impl_sumOf.l0 k l0 (l0.length : Int) 0 (l0.length : Int) 0 0 true 0 true 0
def impl_sumOf.T10 : Bool × List (List Nat × List Nat) := (true, [([], []), ([0], [0]), ([1], [1]), ([], []), ([3], [3]), ([2, 4], [2, 4]), ([], []), ([6], [6]), ([7], [7]), ([], []), ([9], [9]), ([8, 10], [8, 10]), ([0, 1, 2, 3, 4, 5, 6, 7, 8], []), ([12, 0, 1, 2, 3, 4, 5, 6, 7, 8], [12]), ([13, 5, 0, 1, 2, 3, 4, 5, 6, 7, 8], [5, 13]), ([0, 1, 2, 3, 4, 5, 6, 7, 8, 9, 10, 11, 12, 13, 14], []), ([15, 0, 1, 2, 3, 4, 5, 6, 7, 8, 9, 10, 11, 12, 13, 14], [15]), ([16, 11, 14, 0, 1, 2, 3, 4, 5, 6, 7, 8, 9, 10, 11, 12, 13, 14], [11, 16])])
def impl_sumOf.B10 : List Nat := [0, 1, 3, 0, 8, 31, 0, 64, 192, 0, 512, 1984, 511, 4607, 12799, 32767, 65535, 131071]
theorem impl_sumOf.tab10 : rtab .any (opsOf Try.f38 10) = impl_sumOf.T10 := by kernel_rfl
theorem impl_sumOf.bits10 : waitsOk impl_sumOf.T10.2 impl_sumOf.B10 = true := by kernel_rfl
set_option maxHeartbeats 8000000 in
set_option maxRecDepth 100000 in
theorem impl_sumOf.calls (k : Nat) (A0 : Option Addr) (c0 : Nat) (l0 : List (S43)) (r1 : Int) (r2 : Int) (r3 : Int) (r4 : Bool) (r5 : Int) (r6 : Bool) (r7 : Int) (w : World) (hr0 : Kd.C k43 w A0 l0.length l0) (hc0 : l0.length ≤ c0) (h : impl_sumOf.f k l0 = some (r1, r2, r3, r4, r5, r6, r7)) :
  Calls Try.prog 38 #[.slice A0 l0.length c0] w fun e w' => e = .returned (.agg #[.int .i64 r1, .int .i64 r2, .int .i64 r3, .bool r4, .int .i64 r5, .bool r6, .int .i64 r7]) ∧ Below w.heap.size w w' := by
 have hu55 := Try.underlying55
 have hu43 := Try.underlying43
 have HR0 := Aside0.mk hr0
 have HC0 := Aside0.mk hc0
 clear hr0 hc0
 have HB := Aside0.mk (Below.refl w.heap.size w)
 have H : (impl_sumOf.l0 k l0 (l0.length : Int) 0 (l0.length : Int) 0 0 true 0 true 0) = some (r1, r2, r3, r4, r5, r6, r7) := h
 clear h
 have H' := Aside0.mk H
 clear H
 go_enter Try.func38, Try.ntmps38
 go_wp2_with (first | ((with_reducible refine gate_dst (N := 2) rfl ?_); refine box_event ?hg (N := 2) ?hd (cs := #[.int .i64 0, .int .i64 0, .int .i64 0, .bool false, .int .i64 0, .bool false, .int .i64 0]) (t := 55) ?hr ?_; (case hd => rfl); (case hg => rfl); (case hr => first | (go_simp; done) | (go_simp; rfl)); intro gb129 hg w2 hbox hb; have n0_ := Aside0.mk (below_step (by repeat (first | (with_reducible first | exact HB.out | apply below_alloc | apply pw_below_drewN | apply below_drew1) | exact HB.out)) hb); have n1_ := Aside0.mk (hbox); have n2_ := Aside0.mk ((by rw [hg]; exact (below_size (by repeat (first | (with_reducible first | exact HB.out | apply below_alloc | apply pw_below_drewN | apply below_drew1) | exact HB.out))) : w.heap.size ≤ gb129)); have n3_ := Aside0.mk ((by rw [hg]; exact (below_size (by repeat (first | (with_reducible first | exact HB.out | apply below_alloc | apply pw_below_drewN | apply below_drew1) | exact HB.out))) : w.heap.size ≤ gb129)); clear HB; have HB := n0_; have BK129 := n1_; have GW129 := n2_; have GE129 := n3_; clear n0_ n1_ n2_ n3_; clear hb hbox hg) | ((with_reducible refine gate_dst (N := 3) rfl ?_); refine box_event ?hg (N := 3) ?hd (cs := #[.int .i64 0, .int .i64 0, .int .i64 0, .bool false, .int .i64 0, .bool false, .int .i64 0]) (t := 55) ?hr ?_; (case hd => rfl); (case hg => rfl); (case hr => first | (go_simp; done) | (go_simp; rfl)); intro gb130 hg w3 hbox hb; have n0_ := Aside0.mk (blk_below (g := gb129) (o := .cells #[.int .i64 0, .int .i64 0, .int .i64 0, .bool false, .int .i64 0, .bool false, .int .i64 0] 55 (0, 0)) (by (with_reducible repeat (first | refine blk_drewN ?_ _ | refine blk_drew ?_ | refine blk_alloc ?_ _)); exact BK129.out) hb); have n1_ := Aside0.mk (below_step (by repeat (first | (with_reducible first | exact HB.out | apply below_alloc | apply pw_below_drewN | apply below_drew1 | refine below_set ?_ GE129.out) | exact HB.out)) hb); have n2_ := Aside0.mk (hbox); have n3_ := Aside0.mk ((by rw [hg]; exact (below_size (by repeat (first | (with_reducible first | exact HB.out | apply below_alloc | apply pw_below_drewN | apply below_drew1 | refine below_set ?_ GE129.out) | exact HB.out))) : w.heap.size ≤ gb130)); have n4_ := Aside0.mk ((by rw [hg]; exact (below_size (by repeat (first | (with_reducible first | exact HB.out | apply below_alloc | apply pw_below_drewN | apply below_drew1 | refine below_set ?_ GE129.out) | exact HB.out))) : w.heap.size ≤ gb130)); have n5_ := Aside0.mk ((by rw [hg]; exact Nat.ne_of_lt (blk_lt (g := gb129) (o := .cells #[.int .i64 0, .int .i64 0, .int .i64 0, .bool false, .int .i64 0, .bool false, .int .i64 0] 55 (0, 0)) (by (with_reducible repeat (first | refine blk_drewN ?_ _ | refine blk_drew ?_ | refine blk_alloc ?_ _)); exact BK129.out)) : gb129 ≠ gb130)); have n6_ := Aside0.mk ((by rw [hg]; exact Nat.ne_of_gt (blk_lt (g := gb129) (o := .cells #[.int .i64 0, .int .i64 0, .int .i64 0, .bool false, .int .i64 0, .bool false, .int .i64 0] 55 (0, 0)) (by (with_reducible repeat (first | refine blk_drewN ?_ _ | refine blk_drew ?_ | refine blk_alloc ?_ _)); exact BK129.out)) : gb130 ≠ gb129)); clear BK129; clear HB; have BK129 := n0_; have HB := n1_; have BK130 := n2_; have GW130 := n3_; have GE130 := n4_; have NB129_130 := n5_; have NB130_129 := n6_; clear n0_ n1_ n2_ n3_ n4_ n5_ n6_; clear hb hbox hg; have hnb4 := NB130_129.out; have hnc4 := NB129_130.out; have hcz5_0 : w3.cell? ⟨gb130, 0, none⟩ = some (.int .i64 0) := (blk_cell BK130.out 0).trans rfl; have hcz5_1 : w3.cell? ⟨gb130, 1, none⟩ = some (.int .i64 0) := (blk_cell BK130.out 1).trans rfl; have hcz5_2 : w3.cell? ⟨gb130, 2, none⟩ = some (.int .i64 0) := (blk_cell BK130.out 2).trans rfl; have hcz5_3 : w3.cell? ⟨gb130, 3, none⟩ = some (.bool false) := (blk_cell BK130.out 3).trans rfl; have hcz5_4 : w3.cell? ⟨gb130, 4, none⟩ = some (.int .i64 0) := (blk_cell BK130.out 4).trans rfl; have hcz5_5 : w3.cell? ⟨gb130, 5, none⟩ = some (.bool false) := (blk_cell BK130.out 5).trans rfl; have hcz5_6 : w3.cell? ⟨gb130, 6, none⟩ = some (.int .i64 0) := (blk_cell BK130.out 6).trans rfl; have hfz5_0 := blk_frozen BK130.out 0; have hfz5_1 := blk_frozen BK130.out 1; have hfz5_2 := blk_frozen BK130.out 2; have hfz5_3 := blk_frozen BK130.out 3; have hfz5_4 := blk_frozen BK130.out 4; have hfz5_5 := blk_frozen BK130.out 5; have hfz5_6 := blk_frozen BK130.out 6))
 go_loopg [13] k (fun kq v13 w' => ∃ (x13_1 : Int) (x131001_1 : Int) (x131002_1 : Int) (x131003_1 : Bool) (x131004_1 : Int) (x131005_1 : Bool) (x131006_1 : Int), v13 = .int .i64 x13_1 ∧ Aside0 (impl_sumOf.l0 kq l0 (l0.length : Int) x13_1 (l0.length : Int) x131001_1 x131002_1 x131003_1 x131004_1 x131005_1 x131006_1 = some (r1, r2, r3, r4, r5, r6, r7)) ∧ Aside0 (kq ≤ k) ∧ Aside0 (w'.heap[gb129]? = some (.cells #[.int .i64 0, .int .i64 0, .int .i64 0, .bool false, .int .i64 0, .bool false, .int .i64 0] 55 (0, 0))) ∧ Aside0 (w'.heap[gb130]? = some (.cells #[.int .i64 (l0.length : Int), .int .i64 x131001_1, .int .i64 x131002_1, .bool x131003_1, .int .i64 x131004_1, .bool x131005_1, .int .i64 x131006_1] 55 (0, 0))) ∧ Aside0 (Below w.heap.size w w'))
 case atStart => exact ⟨(0), (0), (0), (true), (0), (true), (0), (by first | rfl | (simp; done) | (simp [*]; done)), H', ⟨Nat.le_refl _⟩, ⟨by (with_reducible repeat (first | refine blk_drewN ?_ _ | refine blk_drew ?_ | refine blk_alloc ?_ _)); refine blk_far ?_ NB129_130.out _; (with_reducible repeat (first | refine blk_drewN ?_ _ | refine blk_drew ?_ | refine blk_alloc ?_ _)); refine blk_far ?_ NB129_130.out _; (with_reducible repeat (first | refine blk_drewN ?_ _ | refine blk_drew ?_ | refine blk_alloc ?_ _)); refine blk_far ?_ NB129_130.out _; (with_reducible repeat (first | refine blk_drewN ?_ _ | refine blk_drew ?_ | refine blk_alloc ?_ _)); refine blk_far ?_ NB129_130.out _; (with_reducible repeat (first | refine blk_drewN ?_ _ | refine blk_drew ?_ | refine blk_alloc ?_ _)); refine blk_far ?_ NB129_130.out _; (with_reducible repeat (first | refine blk_drewN ?_ _ | refine blk_drew ?_ | refine blk_alloc ?_ _)); refine blk_far ?_ NB129_130.out _; (with_reducible repeat (first | refine blk_drewN ?_ _ | refine blk_drew ?_ | refine blk_alloc ?_ _)); refine blk_far ?_ NB129_130.out _; (with_reducible repeat (first | refine blk_drewN ?_ _ | refine blk_drew ?_ | refine blk_alloc ?_ _)); exact BK129.out⟩, ⟨by (with_reducible repeat (first | refine blk_drewN ?_ _ | refine blk_drew ?_ | refine blk_alloc ?_ _)); refine blk_put (cs := #[.int .i64 (l0.length : Int), .int .i64 0, .int .i64 0, .bool true, .int .i64 0, .bool true, .int .i64 0]) ?_ 6 _ rfl; (with_reducible repeat (first | refine blk_drewN ?_ _ | refine blk_drew ?_ | refine blk_alloc ?_ _)); refine blk_put (cs := #[.int .i64 (l0.length : Int), .int .i64 0, .int .i64 0, .bool true, .int .i64 0, .bool false, .int .i64 0]) ?_ 5 _ rfl; (with_reducible repeat (first | refine blk_drewN ?_ _ | refine blk_drew ?_ | refine blk_alloc ?_ _)); refine blk_put (cs := #[.int .i64 (l0.length : Int), .int .i64 0, .int .i64 0, .bool true, .int .i64 0, .bool false, .int .i64 0]) ?_ 4 _ rfl; (with_reducible repeat (first | refine blk_drewN ?_ _ | refine blk_drew ?_ | refine blk_alloc ?_ _)); refine blk_put (cs := #[.int .i64 (l0.length : Int), .int .i64 0, .int .i64 0, .bool false, .int .i64 0, .bool false, .int .i64 0]) ?_ 3 _ rfl; (with_reducible repeat (first | refine blk_drewN ?_ _ | refine blk_drew ?_ | refine blk_alloc ?_ _)); refine blk_put (cs := #[.int .i64 (l0.length : Int), .int .i64 0, .int .i64 0, .bool false, .int .i64 0, .bool false, .int .i64 0]) ?_ 2 _ rfl; (with_reducible repeat (first | refine blk_drewN ?_ _ | refine blk_drew ?_ | refine blk_alloc ?_ _)); refine blk_put (cs := #[.int .i64 (l0.length : Int), .int .i64 0, .int .i64 0, .bool false, .int .i64 0, .bool false, .int .i64 0]) ?_ 1 _ rfl; (with_reducible repeat (first | refine blk_drewN ?_ _ | refine blk_drew ?_ | refine blk_alloc ?_ _)); refine blk_put (cs := #[.int .i64 0, .int .i64 0, .int .i64 0, .bool false, .int .i64 0, .bool false, .int .i64 0]) ?_ 0 _ rfl; (with_reducible repeat (first | refine blk_drewN ?_ _ | refine blk_drew ?_ | refine blk_alloc ?_ _)); exact BK130.out⟩, ⟨by repeat (first | (with_reducible first | exact HB.out | apply below_alloc | apply pw_below_drewN | apply below_drew1 | refine below_set ?_ GE129.out | refine below_set ?_ GE130.out) | exact HB.out)⟩⟩
 case round =>
  clear H'
  try clear p2
  try clear c3
  try clear c4
  try clear hcz5_0
  try clear hcz5_1
  try clear hcz5_2
  try clear hcz5_3
  try clear hcz5_4
  try clear hcz5_5
  try clear hcz5_6
  try clear hfz5_0
  try clear hfz5_1
  try clear hfz5_2
  try clear hfz5_3
  try clear hfz5_4
  try clear hfz5_5
  try clear hfz5_6
  obtain ⟨x13_1, x131001_1, x131002_1, x131003_1, x131004_1, x131005_1, x131006_1, rfl, HA, HK1, BK129, BK130, HB⟩ := hrel
  cases gk with
  | zero => exact absurd HA.out (by simp [impl_sumOf.l0])
  | succ k1 =>
   have H := HA.out
   clear HA
   simp only [impl_sumOf.l0] at H
   by_cases c6 : x13_1 < (l0.length : Int)
   ·rw [if_pos c6] at H
    have c6b0 : decide (x13_1 < (l0.length : Int)) = true := decide_eq_true c6
    clear c6
    by_cases c7 : 0 ≤ x13_1
    ·rw [if_pos c7] at H
     have c7b0 : decide (0 ≤ x13_1) = true := decide_eq_true c7
     clear c7
     by_cases c8 : x13_1 < (l0.length : Int)
     ·rw [if_pos c8] at H
      have c8b0 : decide (x13_1 < (l0.length : Int)) = true := decide_eq_true c8
      clear c8
      obtain ⟨bq9, hbq9⟩ : ∃ b_ : Bool, b_ = ((rd_T43 l0 x13_1).f0) := ⟨_, rfl⟩
      replace H : (if bq9 = true then (impl_sumOf.l0 k1 l0 (l0.length : Int) (wrap64 (x13_1 + 1)) (l0.length : Int) x131001_1 x131002_1 x131003_1 x131004_1 x131005_1 x131006_1) else (if x131001_1 = 0 then (impl_sumOf.l0 k1 l0 (l0.length : Int) (wrap64 (x13_1 + 1)) (l0.length : Int) (wrap64 (x131001_1 + 1)) (wrap64 (x131002_1 + ((rd_T43 l0 x13_1).f1))) bq9 (mn ((rd_T43 l0 x13_1).f1) ((rd_T43 l0 x13_1).f1)) bq9 (mx ((rd_T43 l0 x13_1).f1) ((rd_T43 l0 x13_1).f1))) else (impl_sumOf.l0 k1 l0 (l0.length : Int) (wrap64 (x13_1 + 1)) (l0.length : Int) (wrap64 (x131001_1 + 1)) (wrap64 (x131002_1 + ((rd_T43 l0 x13_1).f1))) x131003_1 (mn x131004_1 ((rd_T43 l0 x13_1).f1)) x131005_1 (mx x131006_1 ((rd_T43 l0 x13_1).f1))))) = some (r1, r2, r3, r4, r5, r6, r7) := by rw [← hbq9] at H; exact H
      have Nbq9 := Aside0.mk hbq9
      clear hbq9
      by_cases c10 : bq9 = true
      ·subst c10
       have H1 : (impl_sumOf.l0 k1 l0 (l0.length : Int) (wrap64 (x13_1 + 1)) (l0.length : Int) x131001_1 x131002_1 x131003_1 x131004_1 x131005_1 x131006_1) = some (r1, r2, r3, r4, r5, r6, r7) := by rw [if_pos rfl] at H; exact H
       clear H
       have H := H1
       clear H1
       have H' := Aside0.mk H
       clear H
       have p131 : 0 ≤ (x13_1 : Int) := of_decide_eq_true (by first | (with_reducible assumption) | assumption)
       have q131 : x13_1 < (l0.length : Int) := of_decide_eq_true (by first | (with_reducible assumption) | assumption)
       obtain ⟨ad131, e131, hx131_0, hx131_1⟩ := at_T43 HR0.out x13_1 p131 q131
       (try rw [← Nbq9.out] at hx131_0)
       cases e131
       replace hx131_0 := (HB.out.cell (World.block_lt_of_cell? w _ hx131_0)).trans hx131_0
       replace hx131_1 := (HB.out.cell (World.block_lt_of_cell? w _ hx131_1)).trans hx131_1
       replace p131 := eq_true p131
       replace q131 := eq_true q131
       go_wp2_with (first | ((with_reducible refine gate_dst (N := 5) rfl ?_); refine box_event ?hg (N := 5) ?hd (cs := #[.bool false, .int .i64 0]) (t := 43) ?hr ?_; (case hd => rfl); (case hg => rfl); (case hr => first | (go_simp; done) | (go_simp; rfl)); intro gb132 hg w11 hbox hb; have n0_ := Aside0.mk (blk_below (g := gb129) (o := .cells #[.int .i64 0, .int .i64 0, .int .i64 0, .bool false, .int .i64 0, .bool false, .int .i64 0] 55 (0, 0)) (by (with_reducible repeat (first | refine blk_drewN ?_ _ | refine blk_drew ?_ | refine blk_alloc ?_ _)); exact BK129.out) hb); have n1_ := Aside0.mk (blk_below (g := gb130) (o := .cells #[.int .i64 (l0.length : Int), .int .i64 x131001_1, .int .i64 x131002_1, .bool x131003_1, .int .i64 x131004_1, .bool x131005_1, .int .i64 x131006_1] 55 (0, 0)) (by (with_reducible repeat (first | refine blk_drewN ?_ _ | refine blk_drew ?_ | refine blk_alloc ?_ _)); exact BK130.out) hb); have n2_ := Aside0.mk (below_step (by repeat (first | (with_reducible first | exact HB.out | apply below_alloc | apply pw_below_drewN | apply below_drew1 | refine below_set ?_ GE129.out | refine below_set ?_ GE130.out) | exact HB.out)) hb); have n3_ := Aside0.mk (hbox); have n4_ := Aside0.mk ((by rw [hg]; exact (below_size (by repeat (first | (with_reducible first | exact HB.out | apply below_alloc | apply pw_below_drewN | apply below_drew1 | refine below_set ?_ GE129.out | refine below_set ?_ GE130.out) | exact HB.out))) : w.heap.size ≤ gb132)); have n5_ := Aside0.mk ((by rw [hg]; exact (below_size (by repeat (first | (with_reducible first | exact HB.out | apply below_alloc | apply pw_below_drewN | apply below_drew1 | refine below_set ?_ GE129.out | refine below_set ?_ GE130.out) | exact HB.out))) : w.heap.size ≤ gb132)); have n6_ := Aside0.mk ((by rw [hg]; exact Nat.ne_of_lt (blk_lt (g := gb129) (o := .cells #[.int .i64 0, .int .i64 0, .int .i64 0, .bool false, .int .i64 0, .bool false, .int .i64 0] 55 (0, 0)) (by (with_reducible repeat (first | refine blk_drewN ?_ _ | refine blk_drew ?_ | refine blk_alloc ?_ _)); exact BK129.out)) : gb129 ≠ gb132)); have n7_ := Aside0.mk ((by rw [hg]; exact Nat.ne_of_gt (blk_lt (g := gb129) (o := .cells #[.int .i64 0, .int .i64 0, .int .i64 0, .bool false, .int .i64 0, .bool false, .int .i64 0] 55 (0, 0)) (by (with_reducible repeat (first | refine blk_drewN ?_ _ | refine blk_drew ?_ | refine blk_alloc ?_ _)); exact BK129.out)) : gb132 ≠ gb129)); have n8_ := Aside0.mk ((by rw [hg]; exact Nat.ne_of_lt (blk_lt (g := gb130) (o := .cells #[.int .i64 (l0.length : Int), .int .i64 x131001_1, .int .i64 x131002_1, .bool x131003_1, .int .i64 x131004_1, .bool x131005_1, .int .i64 x131006_1] 55 (0, 0)) (by (with_reducible repeat (first | refine blk_drewN ?_ _ | refine blk_drew ?_ | refine blk_alloc ?_ _)); exact BK130.out)) : gb130 ≠ gb132)); have n9_ := Aside0.mk ((by rw [hg]; exact Nat.ne_of_gt (blk_lt (g := gb130) (o := .cells #[.int .i64 (l0.length : Int), .int .i64 x131001_1, .int .i64 x131002_1, .bool x131003_1, .int .i64 x131004_1, .bool x131005_1, .int .i64 x131006_1] 55 (0, 0)) (by (with_reducible repeat (first | refine blk_drewN ?_ _ | refine blk_drew ?_ | refine blk_alloc ?_ _)); exact BK130.out)) : gb132 ≠ gb130)); clear BK129; clear BK130; clear HB; have BK129 := n0_; have BK130 := n1_; have HB := n2_; have BK132 := n3_; have GW132 := n4_; have GE132 := n5_; have NB129_132 := n6_; have NB132_129 := n7_; have NB130_132 := n8_; have NB132_130 := n9_; clear n0_ n1_ n2_ n3_ n4_ n5_ n6_ n7_ n8_ n9_; clear hb hbox hg; have hnb12 := NB132_129.out; have hnc12 := NB129_132.out; have hnb13 := NB132_130.out; have hnc13 := NB130_132.out; have hcz14_0 : w11.cell? ⟨gb132, 0, none⟩ = some (.bool false) := (blk_cell BK132.out 0).trans rfl; have hcz14_1 : w11.cell? ⟨gb132, 1, none⟩ = some (.int .i64 0) := (blk_cell BK132.out 1).trans rfl; have hfz14_0 := blk_frozen BK132.out 0; have hfz14_1 := blk_frozen BK132.out 1))
       go_roundg k1
       case measure => have := HK1.out; omega
       case rel => exact ⟨(wrap64 (x13_1 + 1)), (x131001_1), (x131002_1), (x131003_1), (x131004_1), (x131005_1), (x131006_1), (by first | rfl | (simp; done) | (simp [*]; done)), H', ⟨by have := HK1.out; omega⟩, ⟨by (with_reducible repeat (first | refine blk_drewN ?_ _ | refine blk_drew ?_ | refine blk_alloc ?_ _)); refine blk_far ?_ NB129_132.out _; (with_reducible repeat (first | refine blk_drewN ?_ _ | refine blk_drew ?_ | refine blk_alloc ?_ _)); refine blk_far ?_ NB129_132.out _; (with_reducible repeat (first | refine blk_drewN ?_ _ | refine blk_drew ?_ | refine blk_alloc ?_ _)); exact BK129.out⟩, ⟨by (with_reducible repeat (first | refine blk_drewN ?_ _ | refine blk_drew ?_ | refine blk_alloc ?_ _)); refine blk_far ?_ NB130_132.out _; (with_reducible repeat (first | refine blk_drewN ?_ _ | refine blk_drew ?_ | refine blk_alloc ?_ _)); refine blk_far ?_ NB130_132.out _; (with_reducible repeat (first | refine blk_drewN ?_ _ | refine blk_drew ?_ | refine blk_alloc ?_ _)); exact BK130.out⟩, ⟨by repeat (first | (with_reducible first | exact HB.out | apply below_alloc | apply pw_below_drewN | apply below_drew1 | refine below_set ?_ GE129.out | refine below_set ?_ GE130.out | refine below_set ?_ GE132.out) | exact HB.out)⟩⟩
      ·replace c10 := Bool.eq_false_iff.mpr c10
       subst c10
       have H1 : (if x131001_1 = 0 then (impl_sumOf.l0 k1 l0 (l0.length : Int) (wrap64 (x13_1 + 1)) (l0.length : Int) (wrap64 (x131001_1 + 1)) (wrap64 (x131002_1 + ((rd_T43 l0 x13_1).f1))) false (mn ((rd_T43 l0 x13_1).f1) ((rd_T43 l0 x13_1).f1)) false (mx ((rd_T43 l0 x13_1).f1) ((rd_T43 l0 x13_1).f1))) else (impl_sumOf.l0 k1 l0 (l0.length : Int) (wrap64 (x13_1 + 1)) (l0.length : Int) (wrap64 (x131001_1 + 1)) (wrap64 (x131002_1 + ((rd_T43 l0 x13_1).f1))) x131003_1 (mn x131004_1 ((rd_T43 l0 x13_1).f1)) x131005_1 (mx x131006_1 ((rd_T43 l0 x13_1).f1)))) = some (r1, r2, r3, r4, r5, r6, r7) := by rw [if_neg (show ¬ (false = true) by decide)] at H; exact H
       clear H
       have H := H1
       clear H1
       by_cases c15 : x131001_1 = 0
       ·rw [if_pos c15] at H
        have c15b0 : (x131001_1 == 0) = true := beq_iff_eq.mpr c15
        have c15b1 : (x131001_1 != 0) = false := bne_eq_false_iff_eq.mpr c15
        clear c15
        obtain ⟨ji16, hji16⟩ : ∃ j_ : Int, (mn ((rd_T43 l0 x13_1).f1) ((rd_T43 l0 x13_1).f1)) = j_ := ⟨_, rfl⟩
        replace H : (impl_sumOf.l0 k1 l0 (l0.length : Int) (wrap64 (x13_1 + 1)) (l0.length : Int) (wrap64 (x131001_1 + 1)) (wrap64 (x131002_1 + ((rd_T43 l0 x13_1).f1))) false ji16 false (mx ((rd_T43 l0 x13_1).f1) ((rd_T43 l0 x13_1).f1))) = some (r1, r2, r3, r4, r5, r6, r7) := by first | (rw [hji16] at H; exact H) | (simp only [hji16] at H ⊢; exact H)
        have hji16_ : (if ((rd_T43 l0 x13_1).f1) < ((rd_T43 l0 x13_1).f1) then ((rd_T43 l0 x13_1).f1) else ((rd_T43 l0 x13_1).f1)) = ji16 := hji16
        obtain ⟨ji17, hji17⟩ : ∃ j_ : Int, (mx ((rd_T43 l0 x13_1).f1) ((rd_T43 l0 x13_1).f1)) = j_ := ⟨_, rfl⟩
        replace H : (impl_sumOf.l0 k1 l0 (l0.length : Int) (wrap64 (x13_1 + 1)) (l0.length : Int) (wrap64 (x131001_1 + 1)) (wrap64 (x131002_1 + ((rd_T43 l0 x13_1).f1))) false ji16 false ji17) = some (r1, r2, r3, r4, r5, r6, r7) := by first | (rw [hji17] at H; exact H) | (simp only [hji17] at H ⊢; exact H)
        have hji17_ : (if ((rd_T43 l0 x13_1).f1) < ((rd_T43 l0 x13_1).f1) then ((rd_T43 l0 x13_1).f1) else ((rd_T43 l0 x13_1).f1)) = ji17 := hji17
        have H' := Aside0.mk H
        clear H
        have p131 : 0 ≤ (x13_1 : Int) := of_decide_eq_true (by first | (with_reducible assumption) | assumption)
        have q131 : x13_1 < (l0.length : Int) := of_decide_eq_true (by first | (with_reducible assumption) | assumption)
        obtain ⟨ad131, e131, hx131_0, hx131_1⟩ := at_T43 HR0.out x13_1 p131 q131
        (try rw [← Nbq9.out] at hx131_0)
        cases e131
        replace hx131_0 := (HB.out.cell (World.block_lt_of_cell? w _ hx131_0)).trans hx131_0
        replace hx131_1 := (HB.out.cell (World.block_lt_of_cell? w _ hx131_1)).trans hx131_1
        replace p131 := eq_true p131
        replace q131 := eq_true q131
        try go_wp2_with (first | ((with_reducible refine gate_dst (N := 5) rfl ?_); refine box_event ?hg (N := 5) ?hd (cs := #[.bool false, .int .i64 0]) (t := 43) ?hr ?_; (case hd => rfl); (case hg => rfl); (case hr => first | (go_simp; done) | (go_simp; rfl)); intro gb132 hg w18 hbox hb; have n0_ := Aside0.mk (blk_below (g := gb129) (o := .cells #[.int .i64 0, .int .i64 0, .int .i64 0, .bool false, .int .i64 0, .bool false, .int .i64 0] 55 (0, 0)) (by (with_reducible repeat (first | refine blk_drewN ?_ _ | refine blk_drew ?_ | refine blk_alloc ?_ _)); exact BK129.out) hb); have n1_ := Aside0.mk (blk_below (g := gb130) (o := .cells #[.int .i64 (l0.length : Int), .int .i64 x131001_1, .int .i64 x131002_1, .bool x131003_1, .int .i64 x131004_1, .bool x131005_1, .int .i64 x131006_1] 55 (0, 0)) (by (with_reducible repeat (first | refine blk_drewN ?_ _ | refine blk_drew ?_ | refine blk_alloc ?_ _)); exact BK130.out) hb); have n2_ := Aside0.mk (below_step (by repeat (first | (with_reducible first | exact HB.out | apply below_alloc | apply pw_below_drewN | apply below_drew1 | refine below_set ?_ GE129.out | refine below_set ?_ GE130.out) | exact HB.out)) hb); have n3_ := Aside0.mk (hbox); have n4_ := Aside0.mk ((by rw [hg]; exact (below_size (by repeat (first | (with_reducible first | exact HB.out | apply below_alloc | apply pw_below_drewN | apply below_drew1 | refine below_set ?_ GE129.out | refine below_set ?_ GE130.out) | exact HB.out))) : w.heap.size ≤ gb132)); have n5_ := Aside0.mk ((by rw [hg]; exact (below_size (by repeat (first | (with_reducible first | exact HB.out | apply below_alloc | apply pw_below_drewN | apply below_drew1 | refine below_set ?_ GE129.out | refine below_set ?_ GE130.out) | exact HB.out))) : w.heap.size ≤ gb132)); have n6_ := Aside0.mk ((by rw [hg]; exact Nat.ne_of_lt (blk_lt (g := gb129) (o := .cells #[.int .i64 0, .int .i64 0, .int .i64 0, .bool false, .int .i64 0, .bool false, .int .i64 0] 55 (0, 0)) (by (with_reducible repeat (first | refine blk_drewN ?_ _ | refine blk_drew ?_ | refine blk_alloc ?_ _)); exact BK129.out)) : gb129 ≠ gb132)); have n7_ := Aside0.mk ((by rw [hg]; exact Nat.ne_of_gt (blk_lt (g := gb129) (o := .cells #[.int .i64 0, .int .i64 0, .int .i64 0, .bool false, .int .i64 0, .bool false, .int .i64 0] 55 (0, 0)) (by (with_reducible repeat (first | refine blk_drewN ?_ _ | refine blk_drew ?_ | refine blk_alloc ?_ _)); exact BK129.out)) : gb132 ≠ gb129)); have n8_ := Aside0.mk ((by rw [hg]; exact Nat.ne_of_lt (blk_lt (g := gb130) (o := .cells #[.int .i64 (l0.length : Int), .int .i64 x131001_1, .int .i64 x131002_1, .bool x131003_1, .int .i64 x131004_1, .bool x131005_1, .int .i64 x131006_1] 55 (0, 0)) (by (with_reducible repeat (first | refine blk_drewN ?_ _ | refine blk_drew ?_ | refine blk_alloc ?_ _)); exact BK130.out)) : gb130 ≠ gb132)); have n9_ := Aside0.mk ((by rw [hg]; exact Nat.ne_of_gt (blk_lt (g := gb130) (o := .cells #[.int .i64 (l0.length : Int), .int .i64 x131001_1, .int .i64 x131002_1, .bool x131003_1, .int .i64 x131004_1, .bool x131005_1, .int .i64 x131006_1] 55 (0, 0)) (by (with_reducible repeat (first | refine blk_drewN ?_ _ | refine blk_drew ?_ | refine blk_alloc ?_ _)); exact BK130.out)) : gb132 ≠ gb130)); clear BK129; clear BK130; clear HB; have BK129 := n0_; have BK130 := n1_; have HB := n2_; have BK132 := n3_; have GW132 := n4_; have GE132 := n5_; have NB129_132 := n6_; have NB132_129 := n7_; have NB130_132 := n8_; have NB132_130 := n9_; clear n0_ n1_ n2_ n3_ n4_ n5_ n6_ n7_ n8_ n9_; clear hb hbox hg; have hnb19 := NB132_129.out; have hnc19 := NB129_132.out; have hnb20 := NB132_130.out; have hnc20 := NB130_132.out; have hcz21_0 : w18.cell? ⟨gb132, 0, none⟩ = some (.bool false) := (blk_cell BK132.out 0).trans rfl; have hcz21_1 : w18.cell? ⟨gb132, 1, none⟩ = some (.int .i64 0) := (blk_cell BK132.out 1).trans rfl; have hfz21_0 := blk_frozen BK132.out 0; have hfz21_1 := blk_frozen BK132.out 1; have hnb22 := NB130_129.out; have hnc22 := NB129_130.out; have hcz23_0 : w18.cell? ⟨gb130, 0, none⟩ = some (.int .i64 (l0.length : Int)) := (blk_cell BK130.out 0).trans rfl; have hcz23_1 : w18.cell? ⟨gb130, 1, none⟩ = some (.int .i64 x131001_1) := (blk_cell BK130.out 1).trans rfl; have hcz23_2 : w18.cell? ⟨gb130, 2, none⟩ = some (.int .i64 x131002_1) := (blk_cell BK130.out 2).trans rfl; have hcz23_3 : w18.cell? ⟨gb130, 3, none⟩ = some (.bool x131003_1) := (blk_cell BK130.out 3).trans rfl; have hcz23_4 : w18.cell? ⟨gb130, 4, none⟩ = some (.int .i64 x131004_1) := (blk_cell BK130.out 4).trans rfl; have hcz23_5 : w18.cell? ⟨gb130, 5, none⟩ = some (.bool x131005_1) := (blk_cell BK130.out 5).trans rfl; have hcz23_6 : w18.cell? ⟨gb130, 6, none⟩ = some (.int .i64 x131006_1) := (blk_cell BK130.out 6).trans rfl; have hfz23_0 := blk_frozen BK130.out 0; have hfz23_1 := blk_frozen BK130.out 1; have hfz23_2 := blk_frozen BK130.out 2; have hfz23_3 := blk_frozen BK130.out 3; have hfz23_4 := blk_frozen BK130.out 4; have hfz23_5 := blk_frozen BK130.out 5; have hfz23_6 := blk_frozen BK130.out 6))
        have n0_ : Aside0 (((w18.setCell ⟨gb132, 0, none⟩ (.bool false)).setCell ⟨gb132, 1, none⟩ (.int .i64 ((rd_T43 l0 x13_1).f1))).heap[gb129]? = some (.cells #[.int .i64 0, .int .i64 0, .int .i64 0, .bool false, .int .i64 0, .bool false, .int .i64 0] 55 (0, 0))) := ⟨by (with_reducible repeat (first | refine blk_drewN ?_ _ | refine blk_drew ?_ | refine blk_alloc ?_ _)); refine blk_far ?_ NB129_132.out _; (with_reducible repeat (first | refine blk_drewN ?_ _ | refine blk_drew ?_ | refine blk_alloc ?_ _)); refine blk_far ?_ NB129_132.out _; (with_reducible repeat (first | refine blk_drewN ?_ _ | refine blk_drew ?_ | refine blk_alloc ?_ _)); exact BK129.out⟩
        have n1_ : Aside0 (((w18.setCell ⟨gb132, 0, none⟩ (.bool false)).setCell ⟨gb132, 1, none⟩ (.int .i64 ((rd_T43 l0 x13_1).f1))).heap[gb130]? = some (.cells #[.int .i64 (l0.length : Int), .int .i64 x131001_1, .int .i64 x131002_1, .bool x131003_1, .int .i64 x131004_1, .bool x131005_1, .int .i64 x131006_1] 55 (0, 0))) := ⟨by (with_reducible repeat (first | refine blk_drewN ?_ _ | refine blk_drew ?_ | refine blk_alloc ?_ _)); refine blk_far ?_ NB130_132.out _; (with_reducible repeat (first | refine blk_drewN ?_ _ | refine blk_drew ?_ | refine blk_alloc ?_ _)); refine blk_far ?_ NB130_132.out _; (with_reducible repeat (first | refine blk_drewN ?_ _ | refine blk_drew ?_ | refine blk_alloc ?_ _)); exact BK130.out⟩
        have n2_ : Aside0 (((w18.setCell ⟨gb132, 0, none⟩ (.bool false)).setCell ⟨gb132, 1, none⟩ (.int .i64 ((rd_T43 l0 x13_1).f1))).heap[gb132]? = some (.cells #[.bool false, .int .i64 ((rd_T43 l0 x13_1).f1)] 43 (0, 0))) := ⟨by (with_reducible repeat (first | refine blk_drewN ?_ _ | refine blk_drew ?_ | refine blk_alloc ?_ _)); refine blk_put (cs := #[.bool false, .int .i64 0]) ?_ 1 _ rfl; (with_reducible repeat (first | refine blk_drewN ?_ _ | refine blk_drew ?_ | refine blk_alloc ?_ _)); refine blk_put (cs := #[.bool false, .int .i64 0]) ?_ 0 _ rfl; (with_reducible repeat (first | refine blk_drewN ?_ _ | refine blk_drew ?_ | refine blk_alloc ?_ _)); exact BK132.out⟩
        have n3_ : Aside0 (Below w.heap.size w ((w18.setCell ⟨gb132, 0, none⟩ (.bool false)).setCell ⟨gb132, 1, none⟩ (.int .i64 ((rd_T43 l0 x13_1).f1)))) := ⟨by repeat (first | (with_reducible first | exact HB.out | apply below_alloc | apply pw_below_drewN | apply below_drew1 | refine below_set ?_ GE129.out | refine below_set ?_ GE130.out | refine below_set ?_ GE132.out) | exact HB.out)⟩
        (try clear BK129)
        (try clear BK130)
        (try clear BK132)
        (try clear HB)
        generalize ((w18.setCell ⟨gb132, 0, none⟩ (.bool false)).setCell ⟨gb132, 1, none⟩ (.int .i64 ((rd_T43 l0 x13_1).f1))) = w24 at n0_ n1_ n2_ n3_ ⊢
        have BK129 := n0_
        have BK130 := n1_
        have BK132 := n2_
        have HB := n3_
        clear n0_ n1_ n2_ n3_
        have n0_ := Aside0.mk (blk_drew BK129.out)
        have n1_ := Aside0.mk (blk_drew BK130.out)
        have n2_ := Aside0.mk (blk_drew BK132.out)
        have n3_ := Aside0.mk (below_drew1 HB.out)
        clear BK129
        clear BK130
        clear BK132
        clear HB
        have BK129 := n0_
        have BK130 := n1_
        have BK132 := n2_
        have HB := n3_
        clear n0_ n1_ n2_ n3_
        refine start_ (n := 6) (S := fun w' => w'.cell? ⟨gb132, 0, none⟩ = some (.bool false) ∧ w'.cell? ⟨gb132, 1, none⟩ = some (.int .i64 ((rd_T43 l0 x13_1).f1))) (ds := []) #[false, false, false, false, false, false] (by kernel_rfl) rfl rfl ⟨(blk_cell BK132.out 0).trans rfl, (blk_cell BK132.out 1).trans rfl⟩ (fun hHeld => ?_)
        generalize w24.drew = w25 at BK129 BK130 BK132 HB hHeld ⊢
        refine take_ (i := 0) (N := some 22) (v := ?_) (a' := ?_) #[true, false, false, false, false, false] rfl rfl (by kernel_rfl) (fun _ _ _ h => h) (Or.inl ⟨by rfl, ?_⟩) hHeld ?_ ?_
        rotate_left
        ·rintro w' ⟨s0, s1⟩
         go_simp
         with_reducible rfl
        rotate_left
        ·simp only [Act.put, List.setIfInBounds_toArray, List.set_cons_zero, List.set_cons_succ, i64_w, i32_w]
         rfl
        refine pure_ (i := 2) (N := some 24) (v := ?_) (a' := ?_) #[true, false, true, false, false, false] rfl rfl (by kernel_rfl) (fun _ _ _ h => h) (Or.inl ⟨by rfl, ?_⟩) ?_ ?_
        rotate_left
        ·intro w'
         go_simp
         with_reducible rfl
        rotate_left
        ·simp only [Act.put, List.setIfInBounds_toArray, List.set_cons_zero, List.set_cons_succ, i64_w, i32_w]
         rfl
        refine take_ (i := 1) (N := some 23) (v := ?_) (a' := ?_) #[true, true, true, false, false, false] rfl rfl (by kernel_rfl) (fun _ _ _ h => h) (Or.inl ⟨by rfl, ?_⟩) hHeld ?_ ?_
        rotate_left
        ·rintro w' ⟨s0, s1⟩
         go_simp
         with_reducible rfl
        rotate_left
        ·simp only [Act.put, List.setIfInBounds_toArray, List.set_cons_zero, List.set_cons_succ, i64_w, i32_w]
         rfl
        refine one_ (i := 3) (N := none) #[true, true, true, true, false, false] rfl rfl (by kernel_rfl) (by decide) (fun K hK => ?_)
        have hs26 : w25.cell? ⟨gb130, 3, none⟩ = some (.bool x131003_1) := (blk_cell BK130.out 3).trans rfl
        have hfs26 := blk_frozen BK130.out 3
        have hns26_0 := NB129_130.out
        have hns26_2 := NB132_130.out
        have hms26_0 := NB130_129.out
        have hms26_2 := NB130_132.out
        have hs27 : w25.cell? ⟨gb130, 4, none⟩ = some (.int .i64 x131004_1) := (blk_cell BK130.out 4).trans rfl
        have hfs27 := blk_frozen BK130.out 4
        have hns27_0 := NB129_130.out
        have hns27_2 := NB132_130.out
        have hms27_0 := NB130_129.out
        have hms27_2 := NB130_132.out
        refine skip_ (w1 := ?_) (by rfl) rfl ?_ ?_
        rotate_left
        ·go_simp
         rfl
        refine hK.out _ _ ⟨((cell_far (p := ⟨gb130, _, none⟩) NB132_130.out _).trans (((cell_far (p := ⟨gb130, _, none⟩) NB132_130.out _).trans (hHeld.1)))), ((cell_far (p := ⟨gb130, _, none⟩) NB132_130.out _).trans (((cell_far (p := ⟨gb130, _, none⟩) NB132_130.out _).trans (hHeld.2))))⟩ (fun hHeld => ?_)
        clear hK K
        refine pure_ (i := 4) (N := some 25) (v := ?_) (a' := ?_) #[true, true, true, true, true, false] rfl rfl (by kernel_rfl) (fun _ _ _ h => h) (Or.inl ⟨by rfl, ?_⟩) ?_ ?_
        rotate_left
        ·intro w'
         go_simp
         with_reducible rfl
        rotate_left
        ·simp only [Act.put, List.setIfInBounds_toArray, List.set_cons_zero, List.set_cons_succ, i64_w, i32_w]
         rfl
        refine one_ (i := 5) (N := none) #[true, true, true, true, true, true] rfl rfl (by kernel_rfl) (by decide) (fun K hK => ?_)
        have hs28 : w25.cell? ⟨gb130, 5, none⟩ = some (.bool x131005_1) := (blk_cell BK130.out 5).trans rfl
        have hfs28 := blk_frozen BK130.out 5
        have hns28_0 := NB129_130.out
        have hns28_2 := NB132_130.out
        have hms28_0 := NB130_129.out
        have hms28_2 := NB130_132.out
        have hs29 : w25.cell? ⟨gb130, 6, none⟩ = some (.int .i64 x131006_1) := (blk_cell BK130.out 6).trans rfl
        have hfs29 := blk_frozen BK130.out 6
        have hns29_0 := NB129_130.out
        have hns29_2 := NB132_130.out
        have hms29_0 := NB130_129.out
        have hms29_2 := NB130_132.out
        refine skip_ (w1 := ?_) (by rfl) rfl ?_ ?_
        rotate_left
        ·go_simp
         rfl
        refine hK.out _ _ ⟨((cell_far (p := ⟨gb130, _, none⟩) NB132_130.out _).trans (((cell_far (p := ⟨gb130, _, none⟩) NB132_130.out _).trans (hHeld.1)))), ((cell_far (p := ⟨gb130, _, none⟩) NB132_130.out _).trans (((cell_far (p := ⟨gb130, _, none⟩) NB132_130.out _).trans (hHeld.2))))⟩ (fun hHeld => ?_)
        clear hK K
        refine done_ (by kernel_rfl) ?_
        have hcz30_0 : w25.cell? ⟨gb130, 0, none⟩ = some (.int .i64 (l0.length : Int)) := (blk_cell BK130.out 0).trans rfl
        have hcz30_1 : w25.cell? ⟨gb130, 1, none⟩ = some (.int .i64 x131001_1) := (blk_cell BK130.out 1).trans rfl
        have hcz30_2 : w25.cell? ⟨gb130, 2, none⟩ = some (.int .i64 x131002_1) := (blk_cell BK130.out 2).trans rfl
        have hcz30_3 : w25.cell? ⟨gb130, 3, none⟩ = some (.bool x131003_1) := (blk_cell BK130.out 3).trans rfl
        have hcz30_4 : w25.cell? ⟨gb130, 4, none⟩ = some (.int .i64 x131004_1) := (blk_cell BK130.out 4).trans rfl
        have hcz30_5 : w25.cell? ⟨gb130, 5, none⟩ = some (.bool x131005_1) := (blk_cell BK130.out 5).trans rfl
        have hcz30_6 : w25.cell? ⟨gb130, 6, none⟩ = some (.int .i64 x131006_1) := (blk_cell BK130.out 6).trans rfl
        have hfz30_0 := blk_frozen BK130.out 0
        have hfz30_1 := blk_frozen BK130.out 1
        have hfz30_2 := blk_frozen BK130.out 2
        have hfz30_3 := blk_frozen BK130.out 3
        have hfz30_4 := blk_frozen BK130.out 4
        have hfz30_5 := blk_frozen BK130.out 5
        have hfz30_6 := blk_frozen BK130.out 6
        have hcz31_0 : w25.cell? ⟨gb132, 0, none⟩ = some (.bool false) := (blk_cell BK132.out 0).trans rfl
        have hcz31_1 : w25.cell? ⟨gb132, 1, none⟩ = some (.int .i64 ((rd_T43 l0 x13_1).f1)) := (blk_cell BK132.out 1).trans rfl
        have hfz31_0 := blk_frozen BK132.out 0
        have hfz31_1 := blk_frozen BK132.out 1
        try go_wp2
        have n0_ : Aside0 (((((((w25.setCell ⟨gb130, 3, none⟩ (.bool false)).setCell ⟨gb130, 4, none⟩ (.int .i64 ((rd_T43 l0 x13_1).f1))).setCell ⟨gb130, 5, none⟩ (.bool false)).setCell ⟨gb130, 6, none⟩ (.int .i64 ((rd_T43 l0 x13_1).f1))).setCell ⟨gb130, 1, none⟩ (.int .i64 (wrap64 (x131001_1 + 1)))).setCell ⟨gb130, 2, none⟩ (.int .i64 (wrap64 (x131002_1 + ((rd_T43 l0 x13_1).f1))))).heap[gb129]? = some (.cells #[.int .i64 0, .int .i64 0, .int .i64 0, .bool false, .int .i64 0, .bool false, .int .i64 0] 55 (0, 0))) := ⟨by (with_reducible repeat (first | refine blk_drewN ?_ _ | refine blk_drew ?_ | refine blk_alloc ?_ _)); refine blk_far ?_ NB129_130.out _; (with_reducible repeat (first | refine blk_drewN ?_ _ | refine blk_drew ?_ | refine blk_alloc ?_ _)); refine blk_far ?_ NB129_130.out _; (with_reducible repeat (first | refine blk_drewN ?_ _ | refine blk_drew ?_ | refine blk_alloc ?_ _)); refine blk_far ?_ NB129_130.out _; (with_reducible repeat (first | refine blk_drewN ?_ _ | refine blk_drew ?_ | refine blk_alloc ?_ _)); refine blk_far ?_ NB129_130.out _; (with_reducible repeat (first | refine blk_drewN ?_ _ | refine blk_drew ?_ | refine blk_alloc ?_ _)); refine blk_far ?_ NB129_130.out _; (with_reducible repeat (first | refine blk_drewN ?_ _ | refine blk_drew ?_ | refine blk_alloc ?_ _)); refine blk_far ?_ NB129_130.out _; (with_reducible repeat (first | refine blk_drewN ?_ _ | refine blk_drew ?_ | refine blk_alloc ?_ _)); exact BK129.out⟩
        have n1_ : Aside0 (((((((w25.setCell ⟨gb130, 3, none⟩ (.bool false)).setCell ⟨gb130, 4, none⟩ (.int .i64 ((rd_T43 l0 x13_1).f1))).setCell ⟨gb130, 5, none⟩ (.bool false)).setCell ⟨gb130, 6, none⟩ (.int .i64 ((rd_T43 l0 x13_1).f1))).setCell ⟨gb130, 1, none⟩ (.int .i64 (wrap64 (x131001_1 + 1)))).setCell ⟨gb130, 2, none⟩ (.int .i64 (wrap64 (x131002_1 + ((rd_T43 l0 x13_1).f1))))).heap[gb130]? = some (.cells #[.int .i64 (l0.length : Int), .int .i64 (wrap64 (x131001_1 + 1)), .int .i64 (wrap64 (x131002_1 + ((rd_T43 l0 x13_1).f1))), .bool false, .int .i64 ((rd_T43 l0 x13_1).f1), .bool false, .int .i64 ((rd_T43 l0 x13_1).f1)] 55 (0, 0))) := ⟨by (with_reducible repeat (first | refine blk_drewN ?_ _ | refine blk_drew ?_ | refine blk_alloc ?_ _)); refine blk_put (cs := #[.int .i64 (l0.length : Int), .int .i64 (wrap64 (x131001_1 + 1)), .int .i64 x131002_1, .bool false, .int .i64 ((rd_T43 l0 x13_1).f1), .bool false, .int .i64 ((rd_T43 l0 x13_1).f1)]) ?_ 2 _ rfl; (with_reducible repeat (first | refine blk_drewN ?_ _ | refine blk_drew ?_ | refine blk_alloc ?_ _)); refine blk_put (cs := #[.int .i64 (l0.length : Int), .int .i64 x131001_1, .int .i64 x131002_1, .bool false, .int .i64 ((rd_T43 l0 x13_1).f1), .bool false, .int .i64 ((rd_T43 l0 x13_1).f1)]) ?_ 1 _ rfl; (with_reducible repeat (first | refine blk_drewN ?_ _ | refine blk_drew ?_ | refine blk_alloc ?_ _)); refine blk_put (cs := #[.int .i64 (l0.length : Int), .int .i64 x131001_1, .int .i64 x131002_1, .bool false, .int .i64 ((rd_T43 l0 x13_1).f1), .bool false, .int .i64 x131006_1]) ?_ 6 _ rfl; (with_reducible repeat (first | refine blk_drewN ?_ _ | refine blk_drew ?_ | refine blk_alloc ?_ _)); refine blk_put (cs := #[.int .i64 (l0.length : Int), .int .i64 x131001_1, .int .i64 x131002_1, .bool false, .int .i64 ((rd_T43 l0 x13_1).f1), .bool x131005_1, .int .i64 x131006_1]) ?_ 5 _ rfl; (with_reducible repeat (first | refine blk_drewN ?_ _ | refine blk_drew ?_ | refine blk_alloc ?_ _)); refine blk_put (cs := #[.int .i64 (l0.length : Int), .int .i64 x131001_1, .int .i64 x131002_1, .bool false, .int .i64 x131004_1, .bool x131005_1, .int .i64 x131006_1]) ?_ 4 _ rfl; (with_reducible repeat (first | refine blk_drewN ?_ _ | refine blk_drew ?_ | refine blk_alloc ?_ _)); refine blk_put (cs := #[.int .i64 (l0.length : Int), .int .i64 x131001_1, .int .i64 x131002_1, .bool x131003_1, .int .i64 x131004_1, .bool x131005_1, .int .i64 x131006_1]) ?_ 3 _ rfl; (with_reducible repeat (first | refine blk_drewN ?_ _ | refine blk_drew ?_ | refine blk_alloc ?_ _)); exact BK130.out⟩
        have n2_ : Aside0 (((((((w25.setCell ⟨gb130, 3, none⟩ (.bool false)).setCell ⟨gb130, 4, none⟩ (.int .i64 ((rd_T43 l0 x13_1).f1))).setCell ⟨gb130, 5, none⟩ (.bool false)).setCell ⟨gb130, 6, none⟩ (.int .i64 ((rd_T43 l0 x13_1).f1))).setCell ⟨gb130, 1, none⟩ (.int .i64 (wrap64 (x131001_1 + 1)))).setCell ⟨gb130, 2, none⟩ (.int .i64 (wrap64 (x131002_1 + ((rd_T43 l0 x13_1).f1))))).heap[gb132]? = some (.cells #[.bool false, .int .i64 ((rd_T43 l0 x13_1).f1)] 43 (0, 0))) := ⟨by (with_reducible repeat (first | refine blk_drewN ?_ _ | refine blk_drew ?_ | refine blk_alloc ?_ _)); refine blk_far ?_ NB132_130.out _; (with_reducible repeat (first | refine blk_drewN ?_ _ | refine blk_drew ?_ | refine blk_alloc ?_ _)); refine blk_far ?_ NB132_130.out _; (with_reducible repeat (first | refine blk_drewN ?_ _ | refine blk_drew ?_ | refine blk_alloc ?_ _)); refine blk_far ?_ NB132_130.out _; (with_reducible repeat (first | refine blk_drewN ?_ _ | refine blk_drew ?_ | refine blk_alloc ?_ _)); refine blk_far ?_ NB132_130.out _; (with_reducible repeat (first | refine blk_drewN ?_ _ | refine blk_drew ?_ | refine blk_alloc ?_ _)); refine blk_far ?_ NB132_130.out _; (with_reducible repeat (first | refine blk_drewN ?_ _ | refine blk_drew ?_ | refine blk_alloc ?_ _)); refine blk_far ?_ NB132_130.out _; (with_reducible repeat (first | refine blk_drewN ?_ _ | refine blk_drew ?_ | refine blk_alloc ?_ _)); exact BK132.out⟩
        have n3_ : Aside0 (Below w.heap.size w ((((((w25.setCell ⟨gb130, 3, none⟩ (.bool false)).setCell ⟨gb130, 4, none⟩ (.int .i64 ((rd_T43 l0 x13_1).f1))).setCell ⟨gb130, 5, none⟩ (.bool false)).setCell ⟨gb130, 6, none⟩ (.int .i64 ((rd_T43 l0 x13_1).f1))).setCell ⟨gb130, 1, none⟩ (.int .i64 (wrap64 (x131001_1 + 1)))).setCell ⟨gb130, 2, none⟩ (.int .i64 (wrap64 (x131002_1 + ((rd_T43 l0 x13_1).f1)))))) := ⟨by repeat (first | (with_reducible first | exact HB.out | apply below_alloc | apply pw_below_drewN | apply below_drew1 | refine below_set ?_ GE129.out | refine below_set ?_ GE130.out | refine below_set ?_ GE132.out) | exact HB.out)⟩
        (try clear BK129)
        (try clear BK130)
        (try clear BK132)
        (try clear HB)
        generalize ((((((w25.setCell ⟨gb130, 3, none⟩ (.bool false)).setCell ⟨gb130, 4, none⟩ (.int .i64 ((rd_T43 l0 x13_1).f1))).setCell ⟨gb130, 5, none⟩ (.bool false)).setCell ⟨gb130, 6, none⟩ (.int .i64 ((rd_T43 l0 x13_1).f1))).setCell ⟨gb130, 1, none⟩ (.int .i64 (wrap64 (x131001_1 + 1)))).setCell ⟨gb130, 2, none⟩ (.int .i64 (wrap64 (x131002_1 + ((rd_T43 l0 x13_1).f1))))) = w32 at n0_ n1_ n2_ n3_ ⊢
        have BK129 := n0_
        have BK130 := n1_
        have BK132 := n2_
        have HB := n3_
        clear n0_ n1_ n2_ n3_
        have n0_ := Aside0.mk (blk_drew BK129.out)
        have n1_ := Aside0.mk (blk_drew BK130.out)
        have n2_ := Aside0.mk (blk_drew BK132.out)
        have n3_ := Aside0.mk (below_drew1 HB.out)
        clear BK129
        clear BK130
        clear BK132
        clear HB
        have BK129 := n0_
        have BK130 := n1_
        have BK132 := n2_
        have HB := n3_
        clear n0_ n1_ n2_ n3_
        refine start_ (n := 18) (S := fun w' => w'.cell? ⟨gb130, 0, none⟩ = some (.int .i64 (l0.length : Int)) ∧ w'.cell? ⟨gb130, 1, none⟩ = some (.int .i64 (wrap64 (x131001_1 + 1))) ∧ w'.cell? ⟨gb130, 2, none⟩ = some (.int .i64 (wrap64 (x131002_1 + ((rd_T43 l0 x13_1).f1)))) ∧ w'.cell? ⟨gb130, 3, none⟩ = some (.bool false) ∧ w'.cell? ⟨gb130, 5, none⟩ = some (.bool false) ∧ w'.cell? ⟨gb130, 6, none⟩ = some (.int .i64 ((rd_T43 l0 x13_1).f1)) ∧ w'.cell? ⟨gb132, 0, none⟩ = some (.bool false) ∧ w'.cell? ⟨gb132, 1, none⟩ = some (.int .i64 ((rd_T43 l0 x13_1).f1))) (ds := [17]) #[false, false, false, false, false, false, false, false, false, false, false, false, false, false, false, false, false, false] (by kernel_rfl) rfl rfl ⟨(blk_cell BK130.out 0).trans rfl, (blk_cell BK130.out 1).trans rfl, (blk_cell BK130.out 2).trans rfl, (blk_cell BK130.out 3).trans rfl, (blk_cell BK130.out 5).trans rfl, (blk_cell BK130.out 6).trans rfl, (blk_cell BK132.out 0).trans rfl, (blk_cell BK132.out 1).trans rfl⟩ (fun hHeld => ?_); refine with_tabW impl_sumOf.tab10 impl_sumOf.bits10 (fun HT_ HW_ => ?_)
        generalize w32.drew = w33 at BK129 BK130 BK132 HB hHeld ⊢
        have hc4_ : w33.cell? ⟨gb130, 4, none⟩ = some (.int .i64 ((rd_T43 l0 x13_1).f1)) := (blk_cell BK130.out 4).trans rfl
        refine pure_ (i := 0) (N := some 36) (v := ?_) (a' := ?_) #[true, false, false, false, false, false, false, false, false, false, false, false, false, false, false, false, false, false] rfl rfl (any_of HT_.out (by kernel_rfl)) (fun _ _ _ h => h) (Or.inl ⟨by rfl, ?_⟩) ?_ ?_
        rotate_left
        ·intro w'
         go_simp
         with_reducible rfl
        rotate_left
        ·simp only [Act.put, List.setIfInBounds_toArray, List.set_cons_zero, List.set_cons_succ, i64_w, i32_w]
         rfl
        refine pure_ (i := 1) (N := some 37) (v := ?_) (a' := ?_) #[true, true, false, false, false, false, false, false, false, false, false, false, false, false, false, false, false, false] rfl rfl (any_of HT_.out (by kernel_rfl)) (fun _ _ _ h => h) (Or.inl ⟨by rfl, ?_⟩) ?_ ?_
        rotate_left
        ·intro w'
         go_simp
         with_reducible rfl
        rotate_left
        ·simp only [Act.put, List.setIfInBounds_toArray, List.set_cons_zero, List.set_cons_succ, i64_w, i32_w]
         rfl
        refine pure_ (i := 3) (N := some 39) (v := ?_) (a' := ?_) #[true, true, false, true, false, false, false, false, false, false, false, false, false, false, false, false, false, false] rfl rfl (any_of HT_.out (by kernel_rfl)) (fun _ _ _ h => h) (Or.inl ⟨by rfl, ?_⟩) ?_ ?_
        rotate_left
        ·intro w'
         go_simp
         with_reducible rfl
        rotate_left
        ·simp only [Act.put, List.setIfInBounds_toArray, List.set_cons_zero, List.set_cons_succ, i64_w, i32_w]
         rfl
        refine pure_ (i := 6) (N := some 42) (v := ?_) (a' := ?_) #[true, true, false, true, false, false, true, false, false, false, false, false, false, false, false, false, false, false] rfl rfl (any_of HT_.out (by kernel_rfl)) (fun _ _ _ h => h) (Or.inl ⟨by rfl, ?_⟩) ?_ ?_
        rotate_left
        ·intro w'
         go_simp
         with_reducible rfl
        rotate_left
        ·simp only [Act.put, List.setIfInBounds_toArray, List.set_cons_zero, List.set_cons_succ, i64_w, i32_w]
         rfl
        refine pure_ (i := 7) (N := some 43) (v := ?_) (a' := ?_) #[true, true, false, true, false, false, true, true, false, false, false, false, false, false, false, false, false, false] rfl rfl (any_of HT_.out (by kernel_rfl)) (fun _ _ _ h => h) (Or.inl ⟨by rfl, ?_⟩) ?_ ?_
        rotate_left
        ·intro w'
         go_simp
         with_reducible rfl
        rotate_left
        ·simp only [Act.put, List.setIfInBounds_toArray, List.set_cons_zero, List.set_cons_succ, i64_w, i32_w]
         rfl
        refine pure_ (i := 9) (N := some 45) (v := ?_) (a' := ?_) #[true, true, false, true, false, false, true, true, false, true, false, false, false, false, false, false, false, false] rfl rfl (any_of HT_.out (by kernel_rfl)) (fun _ _ _ h => h) (Or.inl ⟨by rfl, ?_⟩) ?_ ?_
        rotate_left
        ·intro w'
         go_simp
         with_reducible rfl
        rotate_left
        ·simp only [Act.put, List.setIfInBounds_toArray, List.set_cons_zero, List.set_cons_succ, i64_w, i32_w]
         rfl
        refine take_ (i := 4) (N := some 40) (v := ?_) (a' := ?_) #[true, true, false, true, true, false, true, true, false, true, false, false, false, false, false, false, false, false] rfl rfl (take_ofW HT_.out HW_.out (by kernel_rfl)) (fun _ _ _ h => h) (Or.inl ⟨by rfl, ?_⟩) hHeld ?_ ?_
        rotate_left
        ·rintro w' ⟨s0, s1, s2, s3, s4, s5, s6, s7⟩
         go_simp
         with_reducible rfl
        rotate_left
        ·simp only [Act.put, List.setIfInBounds_toArray, List.set_cons_zero, List.set_cons_succ, i64_w, i32_w]
         rfl
        refine take_ (i := 8) (N := some 44) (v := ?_) (a' := ?_) #[true, true, false, true, true, false, true, true, true, true, false, false, false, false, false, false, false, false] rfl rfl (take_ofW HT_.out HW_.out (by kernel_rfl)) (fun _ _ _ h => h) (Or.inl ⟨by rfl, ?_⟩) hHeld ?_ ?_
        rotate_left
        ·rintro w' ⟨s0, s1, s2, s3, s4, s5, s6, s7⟩
         go_simp
         with_reducible rfl
        rotate_left
        ·simp only [Act.put, List.setIfInBounds_toArray, List.set_cons_zero, List.set_cons_succ, i64_w, i32_w]
         rfl
        refine take_ (i := 10) (N := some 46) (v := ?_) (a' := ?_) #[true, true, false, true, true, false, true, true, true, true, true, false, false, false, false, false, false, false] rfl rfl (take_ofW HT_.out HW_.out (by kernel_rfl)) (fun _ _ _ h => h) (Or.inl ⟨by rfl, ?_⟩) hHeld ?_ ?_
        rotate_left
        ·rintro w' ⟨s0, s1, s2, s3, s4, s5, s6, s7⟩
         go_simp
         with_reducible rfl
        rotate_left
        ·simp only [Act.put, List.setIfInBounds_toArray, List.set_cons_zero, List.set_cons_succ, i64_w, i32_w]
         rfl
        refine pure_ (i := 11) (N := some 47) (v := ?_) (a' := ?_) #[true, true, false, true, true, false, true, true, true, true, true, true, false, false, false, false, false, false] rfl rfl (any_of HT_.out (by kernel_rfl)) (fun _ _ _ h => h) (Or.inl ⟨by rfl, ?_⟩) ?_ ?_
        rotate_left
        ·intro w'
         go_simp
         with_reducible rfl
        rotate_left
        ·simp only [Act.put, List.setIfInBounds_toArray, List.set_cons_zero, List.set_cons_succ, i64_w, i32_w]
         rfl
        refine one_ (i := 2) (N := some 38) #[true, true, true, true, true, false, true, true, true, true, true, true, false, false, false, false, false, false] rfl rfl (one_of HT_.out (by kernel_rfl)) (by decide) (fun K hK => ?_)
        refine value_ (w1 := ?_) (v := ?_) (by rfl) rfl ?_ ?_
        rotate_left 2
        ·go_simp
         constructor
         ·rfl
         ·rfl
        refine hK.out _ _ ⟨hHeld.1, hHeld.2.1, hHeld.2.2.1, hHeld.2.2.2.1, hHeld.2.2.2.2.1, hHeld.2.2.2.2.2.1, hHeld.2.2.2.2.2.2.1, hHeld.2.2.2.2.2.2.2⟩ (fun hHeld => ?_)
        clear hK K
        refine norm_ (a' := ?_) ?_ ?_
        rotate_left
        ·show Act.put _ (some 38) _ = _
         simp only [Act.put, List.setIfInBounds_toArray, List.set_cons_zero, List.set_cons_succ, i64_w, i32_w]
         rfl
        refine pure_ (i := 5) (N := some 41) (v := ?_) (a' := ?_) #[true, true, true, true, true, true, true, true, true, true, true, true, false, false, false, false, false, false] rfl rfl (any_of HT_.out (by kernel_rfl)) (fun _ _ _ h => h) (Or.inl ⟨by rfl, ?_⟩) ?_ ?_
        rotate_left
        ·intro w'
         go_simp
         with_reducible rfl
        rotate_left
        ·simp only [Act.put, List.setIfInBounds_toArray, List.set_cons_zero, List.set_cons_succ, i64_w, i32_w]
         rfl
        refine pure_ (i := 12) (N := some 48) (v := ?_) (a' := ?_) #[true, true, true, true, true, true, true, true, true, true, true, true, true, false, false, false, false, false] rfl rfl (any_of HT_.out (by kernel_rfl)) (fun _ _ _ h => h) (Or.inl ⟨by rfl, ?_⟩) ?_ ?_
        rotate_left
        ·intro w'
         go_simp
         with_reducible rfl
        rotate_left
        ·simp only [Act.put, List.setIfInBounds_toArray, List.set_cons_zero, List.set_cons_succ, i64_w, i32_w]
         rfl
        refine pure_ (i := 13) (N := some 49) (v := ?_) (a' := ?_) #[true, true, true, true, true, true, true, true, true, true, true, true, true, true, false, false, false, false] rfl rfl (any_of HT_.out (by kernel_rfl)) (fun _ _ _ h => h) (Or.inl ⟨by rfl, ?_⟩) ?_ ?_
        rotate_left
        ·intro w'
         go_simp
         with_reducible rfl
        rotate_left
        ·simp only [Act.put, List.setIfInBounds_toArray, List.set_cons_zero, List.set_cons_succ, i64_w, i32_w]
         rfl
        refine one_ (i := 14) (N := none) #[true, true, true, true, true, true, true, true, true, true, true, true, true, true, true, false, false, false] rfl rfl (one_of HT_.out (by kernel_rfl)) (by decide) (fun K hK => ?_)
        have hs34 : w33.cell? ⟨gb130, 4, none⟩ = some (.int .i64 ((rd_T43 l0 x13_1).f1)) := (blk_cell BK130.out 4).trans rfl
        have hfs34 := blk_frozen BK130.out 4
        have hns34_0 := NB129_130.out
        have hns34_2 := NB132_130.out
        have hms34_0 := NB130_129.out
        have hms34_2 := NB130_132.out
        refine skip_ (w1 := ?_) (by rfl) rfl ?_ ?_
        rotate_left
        ·go_simp
         rfl
        refine hK.out _ _ ⟨((World.cell?_setCell_other _ _ _ _ (by intro h_; injection h_ with h1_ h2_ h3_; first | omega | exact absurd h1_ (by assumption) | exact absurd h1_.symm (by assumption))).trans (hHeld.1)), ((World.cell?_setCell_other _ _ _ _ (by intro h_; injection h_ with h1_ h2_ h3_; first | omega | exact absurd h1_ (by assumption) | exact absurd h1_.symm (by assumption))).trans (hHeld.2.1)), ((World.cell?_setCell_other _ _ _ _ (by intro h_; injection h_ with h1_ h2_ h3_; first | omega | exact absurd h1_ (by assumption) | exact absurd h1_.symm (by assumption))).trans (hHeld.2.2.1)), ((World.cell?_setCell_other _ _ _ _ (by intro h_; injection h_ with h1_ h2_ h3_; first | omega | exact absurd h1_ (by assumption) | exact absurd h1_.symm (by assumption))).trans (hHeld.2.2.2.1)), ((World.cell?_setCell_other _ _ _ _ (by intro h_; injection h_ with h1_ h2_ h3_; first | omega | exact absurd h1_ (by assumption) | exact absurd h1_.symm (by assumption))).trans (hHeld.2.2.2.2.1)), ((World.cell?_setCell_other _ _ _ _ (by intro h_; injection h_ with h1_ h2_ h3_; first | omega | exact absurd h1_ (by assumption) | exact absurd h1_.symm (by assumption))).trans (hHeld.2.2.2.2.2.1)), ((World.cell?_setCell_other _ _ _ _ (by intro h_; injection h_ with h1_ h2_ h3_; first | omega | exact absurd h1_ (by assumption) | exact absurd h1_.symm (by assumption))).trans (hHeld.2.2.2.2.2.2.1)), ((World.cell?_setCell_other _ _ _ _ (by intro h_; injection h_ with h1_ h2_ h3_; first | omega | exact absurd h1_ (by assumption) | exact absurd h1_.symm (by assumption))).trans (hHeld.2.2.2.2.2.2.2))⟩ (fun hHeld => ?_)
        clear hK K
        refine pure_ (i := 15) (N := some 50) (v := ?_) (a' := ?_) #[true, true, true, true, true, true, true, true, true, true, true, true, true, true, true, true, false, false] rfl rfl (any_of HT_.out (by kernel_rfl)) (fun _ _ _ h => h) (Or.inl ⟨by rfl, ?_⟩) ?_ ?_
        rotate_left
        ·intro w'
         go_simp
         with_reducible rfl
        rotate_left
        ·simp only [Act.put, List.setIfInBounds_toArray, List.set_cons_zero, List.set_cons_succ, i64_w, i32_w]
         rfl
        refine pure_ (i := 16) (N := some 51) (v := ?_) (a' := ?_) #[true, true, true, true, true, true, true, true, true, true, true, true, true, true, true, true, true, false] rfl rfl (any_of HT_.out (by kernel_rfl)) (fun _ _ _ h => h) (Or.inl ⟨by rfl, ?_⟩) ?_ ?_
        rotate_left
        ·intro w'
         go_simp
         with_reducible rfl
        rotate_left
        ·simp only [Act.put, List.setIfInBounds_toArray, List.set_cons_zero, List.set_cons_succ, i64_w, i32_w]
         rfl
        refine last_ (i := 17) (N := none) #[true, true, true, true, true, true, true, true, true, true, true, true, true, true, true, true, true, true] rfl rfl (one_of HT_.out (by kernel_rfl)) (by decide) (fun K hK => ?_)
        have hs35 : w33.cell? ⟨gb130, 6, none⟩ = some (.int .i64 ((rd_T43 l0 x13_1).f1)) := (blk_cell BK130.out 6).trans rfl
        have hfs35 := blk_frozen BK130.out 6
        have hns35_0 := NB129_130.out
        have hns35_2 := NB132_130.out
        have hms35_0 := NB130_129.out
        have hms35_2 := NB130_132.out
        refine skip_ (w1 := ?_) (by rfl) rfl ?_ ?_
        rotate_left
        ·go_simp
         rfl
        refine hK.out _ _ ?_
        clear hK K
        refine done_ (done_of HT_.out (by kernel_rfl)) ?_
        try go_wp2
        go_roundg k1
        case measure => have := HK1.out; omega
        case rel => have hjx_ : ji16 = ((rd_T43 l0 x13_1).f1) := (by simpa using hji16_.symm); subst hjx_; have hjx_ : ji17 = ((rd_T43 l0 x13_1).f1) := (by simpa using hji17_.symm); subst hjx_; exact ⟨(wrap64 (x13_1 + 1)), (wrap64 (x131001_1 + 1)), (wrap64 (x131002_1 + ((rd_T43 l0 x13_1).f1))), (false), (((rd_T43 l0 x13_1).f1)), (false), (((rd_T43 l0 x13_1).f1)), (by first | rfl | (simp; done) | (simp [*]; done)), H', ⟨by have := HK1.out; omega⟩, ⟨by (with_reducible repeat (first | refine blk_drewN ?_ _ | refine blk_drew ?_ | refine blk_alloc ?_ _)); refine blk_far ?_ NB129_130.out _; (with_reducible repeat (first | refine blk_drewN ?_ _ | refine blk_drew ?_ | refine blk_alloc ?_ _)); refine blk_far ?_ NB129_130.out _; (with_reducible repeat (first | refine blk_drewN ?_ _ | refine blk_drew ?_ | refine blk_alloc ?_ _)); exact BK129.out⟩, ⟨by (with_reducible repeat (first | refine blk_drewN ?_ _ | refine blk_drew ?_ | refine blk_alloc ?_ _)); refine blk_put (cs := #[.int .i64 (l0.length : Int), .int .i64 (wrap64 (x131001_1 + 1)), .int .i64 (wrap64 (x131002_1 + ((rd_T43 l0 x13_1).f1))), .bool false, .int .i64 ((rd_T43 l0 x13_1).f1), .bool false, .int .i64 ((rd_T43 l0 x13_1).f1)]) ?_ 6 _ rfl; (with_reducible repeat (first | refine blk_drewN ?_ _ | refine blk_drew ?_ | refine blk_alloc ?_ _)); refine blk_put (cs := #[.int .i64 (l0.length : Int), .int .i64 (wrap64 (x131001_1 + 1)), .int .i64 (wrap64 (x131002_1 + ((rd_T43 l0 x13_1).f1))), .bool false, .int .i64 ((rd_T43 l0 x13_1).f1), .bool false, .int .i64 ((rd_T43 l0 x13_1).f1)]) ?_ 4 _ rfl; (with_reducible repeat (first | refine blk_drewN ?_ _ | refine blk_drew ?_ | refine blk_alloc ?_ _)); exact BK130.out⟩, ⟨by repeat (first | (with_reducible first | exact HB.out | apply below_alloc | apply pw_below_drewN | apply below_drew1 | refine below_set ?_ GE129.out | refine below_set ?_ GE130.out | refine below_set ?_ GE132.out) | exact HB.out)⟩⟩
       ·rw [if_neg c15] at H
        have c15b0 : (x131001_1 == 0) = false := beq_eq_false_iff_ne.mpr c15
        have c15b1 : (x131001_1 != 0) = true := bne_iff_ne.mpr c15
        obtain ⟨ji36, hji36⟩ : ∃ j_ : Int, (mn x131004_1 ((rd_T43 l0 x13_1).f1)) = j_ := ⟨_, rfl⟩
        replace H : (impl_sumOf.l0 k1 l0 (l0.length : Int) (wrap64 (x13_1 + 1)) (l0.length : Int) (wrap64 (x131001_1 + 1)) (wrap64 (x131002_1 + ((rd_T43 l0 x13_1).f1))) x131003_1 ji36 x131005_1 (mx x131006_1 ((rd_T43 l0 x13_1).f1))) = some (r1, r2, r3, r4, r5, r6, r7) := by first | (rw [hji36] at H; exact H) | (simp only [hji36] at H ⊢; exact H)
        have hji36_ : (if ((rd_T43 l0 x13_1).f1) < x131004_1 then ((rd_T43 l0 x13_1).f1) else x131004_1) = ji36 := hji36
        obtain ⟨ji37, hji37⟩ : ∃ j_ : Int, (mx x131006_1 ((rd_T43 l0 x13_1).f1)) = j_ := ⟨_, rfl⟩
        replace H : (impl_sumOf.l0 k1 l0 (l0.length : Int) (wrap64 (x13_1 + 1)) (l0.length : Int) (wrap64 (x131001_1 + 1)) (wrap64 (x131002_1 + ((rd_T43 l0 x13_1).f1))) x131003_1 ji36 x131005_1 ji37) = some (r1, r2, r3, r4, r5, r6, r7) := by first | (rw [hji37] at H; exact H) | (simp only [hji37] at H ⊢; exact H)
        have hji37_ : (if x131006_1 < ((rd_T43 l0 x13_1).f1) then ((rd_T43 l0 x13_1).f1) else x131006_1) = ji37 := hji37
        have H' := Aside0.mk H
        clear H
        have p131 : 0 ≤ (x13_1 : Int) := of_decide_eq_true (by first | (with_reducible assumption) | assumption)
        have q131 : x13_1 < (l0.length : Int) := of_decide_eq_true (by first | (with_reducible assumption) | assumption)
        obtain ⟨ad131, e131, hx131_0, hx131_1⟩ := at_T43 HR0.out x13_1 p131 q131
        (try rw [← Nbq9.out] at hx131_0)
        cases e131
        replace hx131_0 := (HB.out.cell (World.block_lt_of_cell? w _ hx131_0)).trans hx131_0
        replace hx131_1 := (HB.out.cell (World.block_lt_of_cell? w _ hx131_1)).trans hx131_1
        replace p131 := eq_true p131
        replace q131 := eq_true q131
        try go_wp2_with (first | ((with_reducible refine gate_dst (N := 5) rfl ?_); refine box_event ?hg (N := 5) ?hd (cs := #[.bool false, .int .i64 0]) (t := 43) ?hr ?_; (case hd => rfl); (case hg => rfl); (case hr => first | (go_simp; done) | (go_simp; rfl)); intro gb132 hg w38 hbox hb; have n0_ := Aside0.mk (blk_below (g := gb129) (o := .cells #[.int .i64 0, .int .i64 0, .int .i64 0, .bool false, .int .i64 0, .bool false, .int .i64 0] 55 (0, 0)) (by (with_reducible repeat (first | refine blk_drewN ?_ _ | refine blk_drew ?_ | refine blk_alloc ?_ _)); exact BK129.out) hb); have n1_ := Aside0.mk (blk_below (g := gb130) (o := .cells #[.int .i64 (l0.length : Int), .int .i64 x131001_1, .int .i64 x131002_1, .bool x131003_1, .int .i64 x131004_1, .bool x131005_1, .int .i64 x131006_1] 55 (0, 0)) (by (with_reducible repeat (first | refine blk_drewN ?_ _ | refine blk_drew ?_ | refine blk_alloc ?_ _)); exact BK130.out) hb); have n2_ := Aside0.mk (below_step (by repeat (first | (with_reducible first | exact HB.out | apply below_alloc | apply pw_below_drewN | apply below_drew1 | refine below_set ?_ GE129.out | refine below_set ?_ GE130.out) | exact HB.out)) hb); have n3_ := Aside0.mk (hbox); have n4_ := Aside0.mk ((by rw [hg]; exact (below_size (by repeat (first | (with_reducible first | exact HB.out | apply below_alloc | apply pw_below_drewN | apply below_drew1 | refine below_set ?_ GE129.out | refine below_set ?_ GE130.out) | exact HB.out))) : w.heap.size ≤ gb132)); have n5_ := Aside0.mk ((by rw [hg]; exact (below_size (by repeat (first | (with_reducible first | exact HB.out | apply below_alloc | apply pw_below_drewN | apply below_drew1 | refine below_set ?_ GE129.out | refine below_set ?_ GE130.out) | exact HB.out))) : w.heap.size ≤ gb132)); have n6_ := Aside0.mk ((by rw [hg]; exact Nat.ne_of_lt (blk_lt (g := gb129) (o := .cells #[.int .i64 0, .int .i64 0, .int .i64 0, .bool false, .int .i64 0, .bool false, .int .i64 0] 55 (0, 0)) (by (with_reducible repeat (first | refine blk_drewN ?_ _ | refine blk_drew ?_ | refine blk_alloc ?_ _)); exact BK129.out)) : gb129 ≠ gb132)); have n7_ := Aside0.mk ((by rw [hg]; exact Nat.ne_of_gt (blk_lt (g := gb129) (o := .cells #[.int .i64 0, .int .i64 0, .int .i64 0, .bool false, .int .i64 0, .bool false, .int .i64 0] 55 (0, 0)) (by (with_reducible repeat (first | refine blk_drewN ?_ _ | refine blk_drew ?_ | refine blk_alloc ?_ _)); exact BK129.out)) : gb132 ≠ gb129)); have n8_ := Aside0.mk ((by rw [hg]; exact Nat.ne_of_lt (blk_lt (g := gb130) (o := .cells #[.int .i64 (l0.length : Int), .int .i64 x131001_1, .int .i64 x131002_1, .bool x131003_1, .int .i64 x131004_1, .bool x131005_1, .int .i64 x131006_1] 55 (0, 0)) (by (with_reducible repeat (first | refine blk_drewN ?_ _ | refine blk_drew ?_ | refine blk_alloc ?_ _)); exact BK130.out)) : gb130 ≠ gb132)); have n9_ := Aside0.mk ((by rw [hg]; exact Nat.ne_of_gt (blk_lt (g := gb130) (o := .cells #[.int .i64 (l0.length : Int), .int .i64 x131001_1, .int .i64 x131002_1, .bool x131003_1, .int .i64 x131004_1, .bool x131005_1, .int .i64 x131006_1] 55 (0, 0)) (by (with_reducible repeat (first | refine blk_drewN ?_ _ | refine blk_drew ?_ | refine blk_alloc ?_ _)); exact BK130.out)) : gb132 ≠ gb130)); clear BK129; clear BK130; clear HB; have BK129 := n0_; have BK130 := n1_; have HB := n2_; have BK132 := n3_; have GW132 := n4_; have GE132 := n5_; have NB129_132 := n6_; have NB132_129 := n7_; have NB130_132 := n8_; have NB132_130 := n9_; clear n0_ n1_ n2_ n3_ n4_ n5_ n6_ n7_ n8_ n9_; clear hb hbox hg; have hnb39 := NB132_129.out; have hnc39 := NB129_132.out; have hnb40 := NB132_130.out; have hnc40 := NB130_132.out; have hcz41_0 : w38.cell? ⟨gb132, 0, none⟩ = some (.bool false) := (blk_cell BK132.out 0).trans rfl; have hcz41_1 : w38.cell? ⟨gb132, 1, none⟩ = some (.int .i64 0) := (blk_cell BK132.out 1).trans rfl; have hfz41_0 := blk_frozen BK132.out 0; have hfz41_1 := blk_frozen BK132.out 1; have hnb42 := NB130_129.out; have hnc42 := NB129_130.out; have hcz43_0 : w38.cell? ⟨gb130, 0, none⟩ = some (.int .i64 (l0.length : Int)) := (blk_cell BK130.out 0).trans rfl; have hcz43_1 : w38.cell? ⟨gb130, 1, none⟩ = some (.int .i64 x131001_1) := (blk_cell BK130.out 1).trans rfl; have hcz43_2 : w38.cell? ⟨gb130, 2, none⟩ = some (.int .i64 x131002_1) := (blk_cell BK130.out 2).trans rfl; have hcz43_3 : w38.cell? ⟨gb130, 3, none⟩ = some (.bool x131003_1) := (blk_cell BK130.out 3).trans rfl; have hcz43_4 : w38.cell? ⟨gb130, 4, none⟩ = some (.int .i64 x131004_1) := (blk_cell BK130.out 4).trans rfl; have hcz43_5 : w38.cell? ⟨gb130, 5, none⟩ = some (.bool x131005_1) := (blk_cell BK130.out 5).trans rfl; have hcz43_6 : w38.cell? ⟨gb130, 6, none⟩ = some (.int .i64 x131006_1) := (blk_cell BK130.out 6).trans rfl; have hfz43_0 := blk_frozen BK130.out 0; have hfz43_1 := blk_frozen BK130.out 1; have hfz43_2 := blk_frozen BK130.out 2; have hfz43_3 := blk_frozen BK130.out 3; have hfz43_4 := blk_frozen BK130.out 4; have hfz43_5 := blk_frozen BK130.out 5; have hfz43_6 := blk_frozen BK130.out 6))
        have n0_ : Aside0 (((((w38.setCell ⟨gb132, 0, none⟩ (.bool false)).setCell ⟨gb132, 1, none⟩ (.int .i64 ((rd_T43 l0 x13_1).f1))).setCell ⟨gb130, 1, none⟩ (.int .i64 (wrap64 (x131001_1 + 1)))).setCell ⟨gb130, 2, none⟩ (.int .i64 (wrap64 (x131002_1 + ((rd_T43 l0 x13_1).f1))))).heap[gb129]? = some (.cells #[.int .i64 0, .int .i64 0, .int .i64 0, .bool false, .int .i64 0, .bool false, .int .i64 0] 55 (0, 0))) := ⟨by (with_reducible repeat (first | refine blk_drewN ?_ _ | refine blk_drew ?_ | refine blk_alloc ?_ _)); refine blk_far ?_ NB129_130.out _; (with_reducible repeat (first | refine blk_drewN ?_ _ | refine blk_drew ?_ | refine blk_alloc ?_ _)); refine blk_far ?_ NB129_130.out _; (with_reducible repeat (first | refine blk_drewN ?_ _ | refine blk_drew ?_ | refine blk_alloc ?_ _)); refine blk_far ?_ NB129_132.out _; (with_reducible repeat (first | refine blk_drewN ?_ _ | refine blk_drew ?_ | refine blk_alloc ?_ _)); refine blk_far ?_ NB129_132.out _; (with_reducible repeat (first | refine blk_drewN ?_ _ | refine blk_drew ?_ | refine blk_alloc ?_ _)); exact BK129.out⟩
        have n1_ : Aside0 (((((w38.setCell ⟨gb132, 0, none⟩ (.bool false)).setCell ⟨gb132, 1, none⟩ (.int .i64 ((rd_T43 l0 x13_1).f1))).setCell ⟨gb130, 1, none⟩ (.int .i64 (wrap64 (x131001_1 + 1)))).setCell ⟨gb130, 2, none⟩ (.int .i64 (wrap64 (x131002_1 + ((rd_T43 l0 x13_1).f1))))).heap[gb130]? = some (.cells #[.int .i64 (l0.length : Int), .int .i64 (wrap64 (x131001_1 + 1)), .int .i64 (wrap64 (x131002_1 + ((rd_T43 l0 x13_1).f1))), .bool x131003_1, .int .i64 x131004_1, .bool x131005_1, .int .i64 x131006_1] 55 (0, 0))) := ⟨by (with_reducible repeat (first | refine blk_drewN ?_ _ | refine blk_drew ?_ | refine blk_alloc ?_ _)); refine blk_put (cs := #[.int .i64 (l0.length : Int), .int .i64 (wrap64 (x131001_1 + 1)), .int .i64 x131002_1, .bool x131003_1, .int .i64 x131004_1, .bool x131005_1, .int .i64 x131006_1]) ?_ 2 _ rfl; (with_reducible repeat (first | refine blk_drewN ?_ _ | refine blk_drew ?_ | refine blk_alloc ?_ _)); refine blk_put (cs := #[.int .i64 (l0.length : Int), .int .i64 x131001_1, .int .i64 x131002_1, .bool x131003_1, .int .i64 x131004_1, .bool x131005_1, .int .i64 x131006_1]) ?_ 1 _ rfl; (with_reducible repeat (first | refine blk_drewN ?_ _ | refine blk_drew ?_ | refine blk_alloc ?_ _)); refine blk_far ?_ NB130_132.out _; (with_reducible repeat (first | refine blk_drewN ?_ _ | refine blk_drew ?_ | refine blk_alloc ?_ _)); refine blk_far ?_ NB130_132.out _; (with_reducible repeat (first | refine blk_drewN ?_ _ | refine blk_drew ?_ | refine blk_alloc ?_ _)); exact BK130.out⟩
        have n2_ : Aside0 (((((w38.setCell ⟨gb132, 0, none⟩ (.bool false)).setCell ⟨gb132, 1, none⟩ (.int .i64 ((rd_T43 l0 x13_1).f1))).setCell ⟨gb130, 1, none⟩ (.int .i64 (wrap64 (x131001_1 + 1)))).setCell ⟨gb130, 2, none⟩ (.int .i64 (wrap64 (x131002_1 + ((rd_T43 l0 x13_1).f1))))).heap[gb132]? = some (.cells #[.bool false, .int .i64 ((rd_T43 l0 x13_1).f1)] 43 (0, 0))) := ⟨by (with_reducible repeat (first | refine blk_drewN ?_ _ | refine blk_drew ?_ | refine blk_alloc ?_ _)); refine blk_far ?_ NB132_130.out _; (with_reducible repeat (first | refine blk_drewN ?_ _ | refine blk_drew ?_ | refine blk_alloc ?_ _)); refine blk_far ?_ NB132_130.out _; (with_reducible repeat (first | refine blk_drewN ?_ _ | refine blk_drew ?_ | refine blk_alloc ?_ _)); refine blk_put (cs := #[.bool false, .int .i64 0]) ?_ 1 _ rfl; (with_reducible repeat (first | refine blk_drewN ?_ _ | refine blk_drew ?_ | refine blk_alloc ?_ _)); refine blk_put (cs := #[.bool false, .int .i64 0]) ?_ 0 _ rfl; (with_reducible repeat (first | refine blk_drewN ?_ _ | refine blk_drew ?_ | refine blk_alloc ?_ _)); exact BK132.out⟩
        have n3_ : Aside0 (Below w.heap.size w ((((w38.setCell ⟨gb132, 0, none⟩ (.bool false)).setCell ⟨gb132, 1, none⟩ (.int .i64 ((rd_T43 l0 x13_1).f1))).setCell ⟨gb130, 1, none⟩ (.int .i64 (wrap64 (x131001_1 + 1)))).setCell ⟨gb130, 2, none⟩ (.int .i64 (wrap64 (x131002_1 + ((rd_T43 l0 x13_1).f1)))))) := ⟨by repeat (first | (with_reducible first | exact HB.out | apply below_alloc | apply pw_below_drewN | apply below_drew1 | refine below_set ?_ GE129.out | refine below_set ?_ GE130.out | refine below_set ?_ GE132.out) | exact HB.out)⟩
        (try clear BK129)
        (try clear BK130)
        (try clear BK132)
        (try clear HB)
        generalize ((((w38.setCell ⟨gb132, 0, none⟩ (.bool false)).setCell ⟨gb132, 1, none⟩ (.int .i64 ((rd_T43 l0 x13_1).f1))).setCell ⟨gb130, 1, none⟩ (.int .i64 (wrap64 (x131001_1 + 1)))).setCell ⟨gb130, 2, none⟩ (.int .i64 (wrap64 (x131002_1 + ((rd_T43 l0 x13_1).f1))))) = w44 at n0_ n1_ n2_ n3_ ⊢
        have BK129 := n0_
        have BK130 := n1_
        have BK132 := n2_
        have HB := n3_
        clear n0_ n1_ n2_ n3_
        have n0_ := Aside0.mk (blk_drew BK129.out)
        have n1_ := Aside0.mk (blk_drew BK130.out)
        have n2_ := Aside0.mk (blk_drew BK132.out)
        have n3_ := Aside0.mk (below_drew1 HB.out)
        clear BK129
        clear BK130
        clear BK132
        clear HB
        have BK129 := n0_
        have BK130 := n1_
        have BK132 := n2_
        have HB := n3_
        clear n0_ n1_ n2_ n3_
        refine start_ (n := 18) (S := fun w' => w'.cell? ⟨gb130, 0, none⟩ = some (.int .i64 (l0.length : Int)) ∧ w'.cell? ⟨gb130, 1, none⟩ = some (.int .i64 (wrap64 (x131001_1 + 1))) ∧ w'.cell? ⟨gb130, 2, none⟩ = some (.int .i64 (wrap64 (x131002_1 + ((rd_T43 l0 x13_1).f1)))) ∧ w'.cell? ⟨gb130, 3, none⟩ = some (.bool x131003_1) ∧ w'.cell? ⟨gb130, 5, none⟩ = some (.bool x131005_1) ∧ w'.cell? ⟨gb130, 6, none⟩ = some (.int .i64 x131006_1) ∧ w'.cell? ⟨gb132, 0, none⟩ = some (.bool false) ∧ w'.cell? ⟨gb132, 1, none⟩ = some (.int .i64 ((rd_T43 l0 x13_1).f1))) (ds := [17]) #[false, false, false, false, false, false, false, false, false, false, false, false, false, false, false, false, false, false] (by kernel_rfl) rfl rfl ⟨(blk_cell BK130.out 0).trans rfl, (blk_cell BK130.out 1).trans rfl, (blk_cell BK130.out 2).trans rfl, (blk_cell BK130.out 3).trans rfl, (blk_cell BK130.out 5).trans rfl, (blk_cell BK130.out 6).trans rfl, (blk_cell BK132.out 0).trans rfl, (blk_cell BK132.out 1).trans rfl⟩ (fun hHeld => ?_); refine with_tabW impl_sumOf.tab10 impl_sumOf.bits10 (fun HT_ HW_ => ?_)
        generalize w44.drew = w45 at BK129 BK130 BK132 HB hHeld ⊢
        have hc4_ : w45.cell? ⟨gb130, 4, none⟩ = some (.int .i64 x131004_1) := (blk_cell BK130.out 4).trans rfl
        refine pure_ (i := 0) (N := some 36) (v := ?_) (a' := ?_) #[true, false, false, false, false, false, false, false, false, false, false, false, false, false, false, false, false, false] rfl rfl (any_of HT_.out (by kernel_rfl)) (fun _ _ _ h => h) (Or.inl ⟨by rfl, ?_⟩) ?_ ?_
        rotate_left
        ·intro w'
         go_simp
         with_reducible rfl
        rotate_left
        ·simp only [Act.put, List.setIfInBounds_toArray, List.set_cons_zero, List.set_cons_succ, i64_w, i32_w]
         rfl
        refine pure_ (i := 1) (N := some 37) (v := ?_) (a' := ?_) #[true, true, false, false, false, false, false, false, false, false, false, false, false, false, false, false, false, false] rfl rfl (any_of HT_.out (by kernel_rfl)) (fun _ _ _ h => h) (Or.inl ⟨by rfl, ?_⟩) ?_ ?_
        rotate_left
        ·intro w'
         go_simp
         with_reducible rfl
        rotate_left
        ·simp only [Act.put, List.setIfInBounds_toArray, List.set_cons_zero, List.set_cons_succ, i64_w, i32_w]
         rfl
        refine pure_ (i := 3) (N := some 39) (v := ?_) (a' := ?_) #[true, true, false, true, false, false, false, false, false, false, false, false, false, false, false, false, false, false] rfl rfl (any_of HT_.out (by kernel_rfl)) (fun _ _ _ h => h) (Or.inl ⟨by rfl, ?_⟩) ?_ ?_
        rotate_left
        ·intro w'
         go_simp
         with_reducible rfl
        rotate_left
        ·simp only [Act.put, List.setIfInBounds_toArray, List.set_cons_zero, List.set_cons_succ, i64_w, i32_w]
         rfl
        refine pure_ (i := 6) (N := some 42) (v := ?_) (a' := ?_) #[true, true, false, true, false, false, true, false, false, false, false, false, false, false, false, false, false, false] rfl rfl (any_of HT_.out (by kernel_rfl)) (fun _ _ _ h => h) (Or.inl ⟨by rfl, ?_⟩) ?_ ?_
        rotate_left
        ·intro w'
         go_simp
         with_reducible rfl
        rotate_left
        ·simp only [Act.put, List.setIfInBounds_toArray, List.set_cons_zero, List.set_cons_succ, i64_w, i32_w]
         rfl
        refine pure_ (i := 7) (N := some 43) (v := ?_) (a' := ?_) #[true, true, false, true, false, false, true, true, false, false, false, false, false, false, false, false, false, false] rfl rfl (any_of HT_.out (by kernel_rfl)) (fun _ _ _ h => h) (Or.inl ⟨by rfl, ?_⟩) ?_ ?_
        rotate_left
        ·intro w'
         go_simp
         with_reducible rfl
        rotate_left
        ·simp only [Act.put, List.setIfInBounds_toArray, List.set_cons_zero, List.set_cons_succ, i64_w, i32_w]
         rfl
        refine pure_ (i := 9) (N := some 45) (v := ?_) (a' := ?_) #[true, true, false, true, false, false, true, true, false, true, false, false, false, false, false, false, false, false] rfl rfl (any_of HT_.out (by kernel_rfl)) (fun _ _ _ h => h) (Or.inl ⟨by rfl, ?_⟩) ?_ ?_
        rotate_left
        ·intro w'
         go_simp
         with_reducible rfl
        rotate_left
        ·simp only [Act.put, List.setIfInBounds_toArray, List.set_cons_zero, List.set_cons_succ, i64_w, i32_w]
         rfl
        refine take_ (i := 4) (N := some 40) (v := ?_) (a' := ?_) #[true, true, false, true, true, false, true, true, false, true, false, false, false, false, false, false, false, false] rfl rfl (take_ofW HT_.out HW_.out (by kernel_rfl)) (fun _ _ _ h => h) (Or.inl ⟨by rfl, ?_⟩) hHeld ?_ ?_
        rotate_left
        ·rintro w' ⟨s0, s1, s2, s3, s4, s5, s6, s7⟩
         go_simp
         with_reducible rfl
        rotate_left
        ·simp only [Act.put, List.setIfInBounds_toArray, List.set_cons_zero, List.set_cons_succ, i64_w, i32_w]
         rfl
        refine take_ (i := 8) (N := some 44) (v := ?_) (a' := ?_) #[true, true, false, true, true, false, true, true, true, true, false, false, false, false, false, false, false, false] rfl rfl (take_ofW HT_.out HW_.out (by kernel_rfl)) (fun _ _ _ h => h) (Or.inl ⟨by rfl, ?_⟩) hHeld ?_ ?_
        rotate_left
        ·rintro w' ⟨s0, s1, s2, s3, s4, s5, s6, s7⟩
         go_simp
         with_reducible rfl
        rotate_left
        ·simp only [Act.put, List.setIfInBounds_toArray, List.set_cons_zero, List.set_cons_succ, i64_w, i32_w]
         rfl
        refine take_ (i := 10) (N := some 46) (v := ?_) (a' := ?_) #[true, true, false, true, true, false, true, true, true, true, true, false, false, false, false, false, false, false] rfl rfl (take_ofW HT_.out HW_.out (by kernel_rfl)) (fun _ _ _ h => h) (Or.inl ⟨by rfl, ?_⟩) hHeld ?_ ?_
        rotate_left
        ·rintro w' ⟨s0, s1, s2, s3, s4, s5, s6, s7⟩
         go_simp
         with_reducible rfl
        rotate_left
        ·simp only [Act.put, List.setIfInBounds_toArray, List.set_cons_zero, List.set_cons_succ, i64_w, i32_w]
         rfl
        refine pure_ (i := 11) (N := some 47) (v := ?_) (a' := ?_) #[true, true, false, true, true, false, true, true, true, true, true, true, false, false, false, false, false, false] rfl rfl (any_of HT_.out (by kernel_rfl)) (fun _ _ _ h => h) (Or.inl ⟨by rfl, ?_⟩) ?_ ?_
        rotate_left
        ·intro w'
         go_simp
         with_reducible rfl
        rotate_left
        ·simp only [Act.put, List.setIfInBounds_toArray, List.set_cons_zero, List.set_cons_succ, i64_w, i32_w]
         rfl
        refine one_ (i := 2) (N := some 38) #[true, true, true, true, true, false, true, true, true, true, true, true, false, false, false, false, false, false] rfl rfl (one_of HT_.out (by kernel_rfl)) (by decide) (fun K hK => ?_)
        refine value_ (w1 := ?_) (v := ?_) (by rfl) rfl ?_ ?_
        rotate_left 2
        ·go_simp
         constructor
         ·rfl
         ·rfl
        refine hK.out _ _ ⟨hHeld.1, hHeld.2.1, hHeld.2.2.1, hHeld.2.2.2.1, hHeld.2.2.2.2.1, hHeld.2.2.2.2.2.1, hHeld.2.2.2.2.2.2.1, hHeld.2.2.2.2.2.2.2⟩ (fun hHeld => ?_)
        clear hK K
        refine norm_ (a' := ?_) ?_ ?_
        rotate_left
        ·show Act.put _ (some 38) _ = _
         simp only [Act.put, List.setIfInBounds_toArray, List.set_cons_zero, List.set_cons_succ, i64_w, i32_w]
         rfl
        refine pure_ (i := 5) (N := some 41) (v := ?_) (a' := ?_) #[true, true, true, true, true, true, true, true, true, true, true, true, false, false, false, false, false, false] rfl rfl (any_of HT_.out (by kernel_rfl)) (fun _ _ _ h => h) (Or.inl ⟨by rfl, ?_⟩) ?_ ?_
        rotate_left
        ·intro w'
         go_simp
         with_reducible rfl
        rotate_left
        ·simp only [Act.put, List.setIfInBounds_toArray, List.set_cons_zero, List.set_cons_succ, i64_w, i32_w]
         rfl
        refine pure_ (i := 12) (N := some 48) (v := ?_) (a' := ?_) #[true, true, true, true, true, true, true, true, true, true, true, true, true, false, false, false, false, false] rfl rfl (any_of HT_.out (by kernel_rfl)) (fun _ _ _ h => h) (Or.inl ⟨by rfl, ?_⟩) ?_ ?_
        rotate_left
        ·intro w'
         go_simp
         with_reducible rfl
        rotate_left
        ·simp only [Act.put, List.setIfInBounds_toArray, List.set_cons_zero, List.set_cons_succ, i64_w, i32_w]
         rfl
        refine pure_ (i := 13) (N := some 49) (v := ?_) (a' := ?_) #[true, true, true, true, true, true, true, true, true, true, true, true, true, true, false, false, false, false] rfl rfl (any_of HT_.out (by kernel_rfl)) (fun _ _ _ h => h) (Or.inl ⟨by rfl, ?_⟩) ?_ ?_
        rotate_left
        ·intro w'
         go_simp
         with_reducible rfl
        rotate_left
        ·simp only [Act.put, List.setIfInBounds_toArray, List.set_cons_zero, List.set_cons_succ, i64_w, i32_w]
         rfl
        refine one_ (i := 14) (N := none) #[true, true, true, true, true, true, true, true, true, true, true, true, true, true, true, false, false, false] rfl rfl (one_of HT_.out (by kernel_rfl)) (by decide) (fun K hK => ?_)
        have hs46 : w45.cell? ⟨gb130, 4, none⟩ = some (.int .i64 x131004_1) := (blk_cell BK130.out 4).trans rfl
        have hfs46 := blk_frozen BK130.out 4
        have hns46_0 := NB129_130.out
        have hns46_2 := NB132_130.out
        have hms46_0 := NB130_129.out
        have hms46_2 := NB130_132.out
        refine skip_ (w1 := ?_) (by rfl) rfl ?_ ?_
        rotate_left
        ·go_simp
         rfl
        refine hK.out _ _ ⟨((World.cell?_setCell_other _ _ _ _ (by intro h_; injection h_ with h1_ h2_ h3_; first | omega | exact absurd h1_ (by assumption) | exact absurd h1_.symm (by assumption))).trans (hHeld.1)), ((World.cell?_setCell_other _ _ _ _ (by intro h_; injection h_ with h1_ h2_ h3_; first | omega | exact absurd h1_ (by assumption) | exact absurd h1_.symm (by assumption))).trans (hHeld.2.1)), ((World.cell?_setCell_other _ _ _ _ (by intro h_; injection h_ with h1_ h2_ h3_; first | omega | exact absurd h1_ (by assumption) | exact absurd h1_.symm (by assumption))).trans (hHeld.2.2.1)), ((World.cell?_setCell_other _ _ _ _ (by intro h_; injection h_ with h1_ h2_ h3_; first | omega | exact absurd h1_ (by assumption) | exact absurd h1_.symm (by assumption))).trans (hHeld.2.2.2.1)), ((World.cell?_setCell_other _ _ _ _ (by intro h_; injection h_ with h1_ h2_ h3_; first | omega | exact absurd h1_ (by assumption) | exact absurd h1_.symm (by assumption))).trans (hHeld.2.2.2.2.1)), ((World.cell?_setCell_other _ _ _ _ (by intro h_; injection h_ with h1_ h2_ h3_; first | omega | exact absurd h1_ (by assumption) | exact absurd h1_.symm (by assumption))).trans (hHeld.2.2.2.2.2.1)), ((World.cell?_setCell_other _ _ _ _ (by intro h_; injection h_ with h1_ h2_ h3_; first | omega | exact absurd h1_ (by assumption) | exact absurd h1_.symm (by assumption))).trans (hHeld.2.2.2.2.2.2.1)), ((World.cell?_setCell_other _ _ _ _ (by intro h_; injection h_ with h1_ h2_ h3_; first | omega | exact absurd h1_ (by assumption) | exact absurd h1_.symm (by assumption))).trans (hHeld.2.2.2.2.2.2.2))⟩ (fun hHeld => ?_)
        clear hK K
        refine pure_ (i := 15) (N := some 50) (v := ?_) (a' := ?_) #[true, true, true, true, true, true, true, true, true, true, true, true, true, true, true, true, false, false] rfl rfl (any_of HT_.out (by kernel_rfl)) (fun _ _ _ h => h) (Or.inl ⟨by rfl, ?_⟩) ?_ ?_
        rotate_left
        ·intro w'
         go_simp
         with_reducible rfl
        rotate_left
        ·simp only [Act.put, List.setIfInBounds_toArray, List.set_cons_zero, List.set_cons_succ, i64_w, i32_w]
         rfl
        refine pure_ (i := 16) (N := some 51) (v := ?_) (a' := ?_) #[true, true, true, true, true, true, true, true, true, true, true, true, true, true, true, true, true, false] rfl rfl (any_of HT_.out (by kernel_rfl)) (fun _ _ _ h => h) (Or.inl ⟨by rfl, ?_⟩) ?_ ?_
        rotate_left
        ·intro w'
         go_simp
         with_reducible rfl
        rotate_left
        ·simp only [Act.put, List.setIfInBounds_toArray, List.set_cons_zero, List.set_cons_succ, i64_w, i32_w]
         rfl
        refine last_ (i := 17) (N := none) #[true, true, true, true, true, true, true, true, true, true, true, true, true, true, true, true, true, true] rfl rfl (one_of HT_.out (by kernel_rfl)) (by decide) (fun K hK => ?_)
        have hs47 : w45.cell? ⟨gb130, 6, none⟩ = some (.int .i64 x131006_1) := (blk_cell BK130.out 6).trans rfl
        have hfs47 := blk_frozen BK130.out 6
        have hns47_0 := NB129_130.out
        have hns47_2 := NB132_130.out
        have hms47_0 := NB130_129.out
        have hms47_2 := NB130_132.out
        refine skip_ (w1 := ?_) (by rfl) rfl ?_ ?_
        rotate_left
        ·go_simp
         rfl
        refine hK.out _ _ ?_
        clear hK K
        refine done_ (done_of HT_.out (by kernel_rfl)) ?_
        try go_wp2
        go_roundg k1
        case measure => have := HK1.out; omega
        case rel => exact ⟨(wrap64 (x13_1 + 1)), (wrap64 (x131001_1 + 1)), (wrap64 (x131002_1 + ((rd_T43 l0 x13_1).f1))), (x131003_1), (ji36), (x131005_1), (ji37), (by first | rfl | (simp; done) | (simp [*]; done)), H', ⟨by have := HK1.out; omega⟩, ⟨by (with_reducible repeat (first | refine blk_drewN ?_ _ | refine blk_drew ?_ | refine blk_alloc ?_ _)); refine blk_far ?_ NB129_130.out _; (with_reducible repeat (first | refine blk_drewN ?_ _ | refine blk_drew ?_ | refine blk_alloc ?_ _)); refine blk_far ?_ NB129_130.out _; (with_reducible repeat (first | refine blk_drewN ?_ _ | refine blk_drew ?_ | refine blk_alloc ?_ _)); exact BK129.out⟩, ⟨by (with_reducible repeat (first | refine blk_drewN ?_ _ | refine blk_drew ?_ | refine blk_alloc ?_ _)); refine blk_put (cs := #[.int .i64 (l0.length : Int), .int .i64 (wrap64 (x131001_1 + 1)), .int .i64 (wrap64 (x131002_1 + ((rd_T43 l0 x13_1).f1))), .bool x131003_1, .int .i64 ji36, .bool x131005_1, .int .i64 x131006_1]) ?_ 6 _ rfl; (with_reducible repeat (first | refine blk_drewN ?_ _ | refine blk_drew ?_ | refine blk_alloc ?_ _)); refine blk_put (cs := #[.int .i64 (l0.length : Int), .int .i64 (wrap64 (x131001_1 + 1)), .int .i64 (wrap64 (x131002_1 + ((rd_T43 l0 x13_1).f1))), .bool x131003_1, .int .i64 x131004_1, .bool x131005_1, .int .i64 x131006_1]) ?_ 4 _ rfl; (with_reducible repeat (first | refine blk_drewN ?_ _ | refine blk_drew ?_ | refine blk_alloc ?_ _)); exact BK130.out⟩, ⟨by repeat (first | (with_reducible first | exact HB.out | apply below_alloc | apply pw_below_drewN | apply below_drew1 | refine below_set ?_ GE129.out | refine below_set ?_ GE130.out | refine below_set ?_ GE132.out) | exact HB.out)⟩⟩
     ·rw [if_neg c8] at H
      exact absurd H (by simp)
    ·rw [if_neg c7] at H
     exact absurd H (by simp)
   ·rw [if_neg c6] at H
    have c6b0 : decide (x13_1 < (l0.length : Int)) = false := decide_eq_false c6
    clear c6
    simp only [Option.some.injEq, Prod.mk.injEq] at H
    obtain ⟨rfl, rfl, rfl, rfl, rfl, rfl, rfl⟩ := H
    have hnb48 := NB130_129.out
    have hnc48 := NB129_130.out
    have hcz49_0 : wr.cell? ⟨gb130, 0, none⟩ = some (.int .i64 (l0.length : Int)) := (blk_cell BK130.out 0).trans rfl
    have hcz49_1 : wr.cell? ⟨gb130, 1, none⟩ = some (.int .i64 x131001_1) := (blk_cell BK130.out 1).trans rfl
    have hcz49_2 : wr.cell? ⟨gb130, 2, none⟩ = some (.int .i64 x131002_1) := (blk_cell BK130.out 2).trans rfl
    have hcz49_3 : wr.cell? ⟨gb130, 3, none⟩ = some (.bool x131003_1) := (blk_cell BK130.out 3).trans rfl
    have hcz49_4 : wr.cell? ⟨gb130, 4, none⟩ = some (.int .i64 x131004_1) := (blk_cell BK130.out 4).trans rfl
    have hcz49_5 : wr.cell? ⟨gb130, 5, none⟩ = some (.bool x131005_1) := (blk_cell BK130.out 5).trans rfl
    have hcz49_6 : wr.cell? ⟨gb130, 6, none⟩ = some (.int .i64 x131006_1) := (blk_cell BK130.out 6).trans rfl
    have hfz49_0 := blk_frozen BK130.out 0
    have hfz49_1 := blk_frozen BK130.out 1
    have hfz49_2 := blk_frozen BK130.out 2
    have hfz49_3 := blk_frozen BK130.out 3
    have hfz49_4 := blk_frozen BK130.out 4
    have hfz49_5 := blk_frozen BK130.out 5
    have hfz49_6 := blk_frozen BK130.out 6
    have hcz50_0 : wr.cell? ⟨gb129, 0, none⟩ = some (.int .i64 0) := (blk_cell BK129.out 0).trans rfl
    have hcz50_1 : wr.cell? ⟨gb129, 1, none⟩ = some (.int .i64 0) := (blk_cell BK129.out 1).trans rfl
    have hcz50_2 : wr.cell? ⟨gb129, 2, none⟩ = some (.int .i64 0) := (blk_cell BK129.out 2).trans rfl
    have hcz50_3 : wr.cell? ⟨gb129, 3, none⟩ = some (.bool false) := (blk_cell BK129.out 3).trans rfl
    have hcz50_4 : wr.cell? ⟨gb129, 4, none⟩ = some (.int .i64 0) := (blk_cell BK129.out 4).trans rfl
    have hcz50_5 : wr.cell? ⟨gb129, 5, none⟩ = some (.bool false) := (blk_cell BK129.out 5).trans rfl
    have hcz50_6 : wr.cell? ⟨gb129, 6, none⟩ = some (.int .i64 0) := (blk_cell BK129.out 6).trans rfl
    have hfz50_0 := blk_frozen BK129.out 0
    have hfz50_1 := blk_frozen BK129.out 1
    have hfz50_2 := blk_frozen BK129.out 2
    have hfz50_3 := blk_frozen BK129.out 3
    have hfz50_4 := blk_frozen BK129.out 4
    have hfz50_5 := blk_frozen BK129.out 5
    have hfz50_6 := blk_frozen BK129.out 6
    go_wp2
    refine bodyPost_ret (results_cell_row rfl _ _ gb129 55 #[.int .i64 (l0.length : Int), .int .i64 x131001_1, .int .i64 x131002_1, .bool x131003_1, .int .i64 x131004_1, .bool x131005_1, .int .i64 x131006_1] (0, 0) _ rfl (by (with_reducible repeat (first | refine blk_drewN ?_ _ | refine blk_drew ?_ | refine blk_alloc ?_ _)); refine blk_put (cs := #[.int .i64 (l0.length : Int), .int .i64 x131001_1, .int .i64 x131002_1, .bool x131003_1, .int .i64 x131004_1, .bool x131005_1, .int .i64 0]) ?_ 6 _ rfl; (with_reducible repeat (first | refine blk_drewN ?_ _ | refine blk_drew ?_ | refine blk_alloc ?_ _)); refine blk_put (cs := #[.int .i64 (l0.length : Int), .int .i64 x131001_1, .int .i64 x131002_1, .bool x131003_1, .int .i64 x131004_1, .bool false, .int .i64 0]) ?_ 5 _ rfl; (with_reducible repeat (first | refine blk_drewN ?_ _ | refine blk_drew ?_ | refine blk_alloc ?_ _)); refine blk_put (cs := #[.int .i64 (l0.length : Int), .int .i64 x131001_1, .int .i64 x131002_1, .bool x131003_1, .int .i64 0, .bool false, .int .i64 0]) ?_ 4 _ rfl; (with_reducible repeat (first | refine blk_drewN ?_ _ | refine blk_drew ?_ | refine blk_alloc ?_ _)); refine blk_put (cs := #[.int .i64 (l0.length : Int), .int .i64 x131001_1, .int .i64 x131002_1, .bool false, .int .i64 0, .bool false, .int .i64 0]) ?_ 3 _ rfl; (with_reducible repeat (first | refine blk_drewN ?_ _ | refine blk_drew ?_ | refine blk_alloc ?_ _)); refine blk_put (cs := #[.int .i64 (l0.length : Int), .int .i64 x131001_1, .int .i64 0, .bool false, .int .i64 0, .bool false, .int .i64 0]) ?_ 2 _ rfl; (with_reducible repeat (first | refine blk_drewN ?_ _ | refine blk_drew ?_ | refine blk_alloc ?_ _)); refine blk_put (cs := #[.int .i64 (l0.length : Int), .int .i64 0, .int .i64 0, .bool false, .int .i64 0, .bool false, .int .i64 0]) ?_ 1 _ rfl; (with_reducible repeat (first | refine blk_drewN ?_ _ | refine blk_drew ?_ | refine blk_alloc ?_ _)); refine blk_put (cs := #[.int .i64 0, .int .i64 0, .int .i64 0, .bool false, .int .i64 0, .bool false, .int .i64 0]) ?_ 0 _ rfl; (with_reducible repeat (first | refine blk_drewN ?_ _ | refine blk_drew ?_ | refine blk_alloc ?_ _)); exact BK129.out) Try.underlying55 rfl (by kernel_rfl)) rfl ?_
    exact ⟨by first | rfl | (simp [errW_none, errW_some] <;> rfl) | (simp [*, errW_none, errW_some] <;> rfl), by repeat (first | (with_reducible first | exact HB.out | apply below_alloc | apply pw_below_drewN | apply below_drew1 | refine below_set ?_ GE129.out | refine below_set ?_ GE130.out) | exact HB.out)⟩
end Go.Proofs.Ytmlbihhaikknnaa.Pr
