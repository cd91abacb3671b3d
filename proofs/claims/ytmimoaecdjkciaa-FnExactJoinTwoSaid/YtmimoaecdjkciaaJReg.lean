/- The law JoinTwo's two regions of open order. Written by joinreg.py. Conditions: the equations of the callees, the operands' rows and boxes. -/
import Derived.Test.YtmimoaecdjkciaaPr2
import Derived.Test.YtmimoaecdjkciaaPr5
import Derived.Test.YtmimoaecdjkciaaPr7
import Derived.Test.YtmimoaecdjkciaaIv
namespace Go.Proofs.Ytmimoaecdjkciaa.J
open Go.RowKit Go.Proofs.Ytmimoaecdjkciaa Go.Proofs.Ytmimoaecdjkciaa.Pr Go.Proofs.YtmimoaecdjkciaaW.PrintWords Go.Proofs.YtmimoaecdjkciaaW.PrintLast Go.Proofs.YtmimoaecdjkciaaW.PrintMore
set_option linter.unusedVariables false
set_option linter.unusedSimpArgs false
set_option maxRecDepth 100000
def J.T8 : Bool × List (List Nat × List Nat) := (true, [([], []), ([0], [0]), ([], []), ([2, 1], [2]), ([1, 3, 3], [1, 3]), ([4], [4]), ([5], [5]), ([5], [5]), ([], []), ([8, 6, 4, 0, 1, 2, 3, 4, 5, 6, 8], [6, 8]), ([7, 9, 0, 1, 2, 3, 4, 5, 6, 7, 8, 9], [7])])
theorem J.tab8 : rtab .any (opsOf Try.f3 8) = J.T8 := by kernel_rfl
theorem J.bits8 : waitsOk J.T8.2 [0, 1, 0, 7, 15, 31, 63, 63, 0, 383, 1023] = true := by kernel_rfl
set_option maxHeartbeats 4000000 in
theorem reg8 {Q : Exit → Act → World → Prop} (a : Act) (w : World) (n2 n3 : Nat) (A1 A2 A3 A4 : Option Addr) (c1 c2 c3 c4 : Nat) (l1 l3 x1 x3 y1 : List Int) (l2 l4 x2 x4 y2 : List (List Int)) (y3 : Bool) (k1 k3 k5 : Nat)
    (hsz : 102 ≤ a.tmps.size) (ha2 : a.tmps[2]? = some (.pointer (some ⟨n2, 0, none⟩))) (ha3 : a.tmps[3]? = some (.pointer (some ⟨n3, 0, none⟩)))
    (h20 : w.cell? ⟨n2, 0, none⟩ = some (.slice A1 l1.length c1)) (h21 : w.cell? ⟨n2, 1, none⟩ = some (.slice A2 l2.length c2)) (h30 : w.cell? ⟨n3, 0, none⟩ = some (.slice A3 l3.length c3)) (h31 : w.cell? ⟨n3, 1, none⟩ = some (.slice A4 l4.length c4))
    (hC1 : Kd.C (Kd.int .i64) w A1 l1.length l1) (hc1 : l1.length ≤ c1) (hC2 : Kd.C (Kd.slice 3 (Kd.int .i64)) w A2 l2.length l2) (hc2 : l2.length ≤ c2) (hC3 : Kd.C (Kd.int .i64) w A3 l3.length l3) (hc3 : l3.length ≤ c3) (hC4 : Kd.C (Kd.slice 3 (Kd.int .i64)) w A4 l4.length l4) (hc4 : l4.length ≤ c4)
    (H1 : laws_toRelation.f k1 l1 l2 = some (x1, x2)) (H3 : laws_toRelation.f k3 l3 l4 = some (x3, x4)) (H5 : spec_JoinTwo.f k5 x1 x2 x3 x4 = some (y1, y2, y3))
    (h : ∀ (w' : World) (B1 B2 B3 B4 B5 B6 : Option Addr) (e1 e2 e3 e4 e5 e6 gb lo hi : Nat), Below w.heap.size w w' → (Iv.Ob (Kd.int .i64) 3 w' lo hi (fun _ => True) (.slice B5 y1.length e5) y1) → (Kd.V (Kd.slice 3 (Kd.int .i64)) 22 w' lo (fun k_ => lo ≤ k_ ∧ k_ < hi) (.slice B6 y2.length e6) y2) → w.heap.size ≤ lo → hi ≤ w'.heap.size → (gb < lo ∨ hi ≤ gb) → w.heap.size ≤ gb → w'.heap[gb]? = some (.cells #[.slice B5 y1.length e5, .slice B6 y2.length e6] 27 (0, 0)) → Q .normal (putSel a (fun _ => true) [(0, 28, .agg #[.slice A1 l1.length c1, .slice A2 l2.length c2]), (1, 29, .agg #[.slice B1 x1.length e1, .slice B2 x2.length e2]), (2, 30, .agg #[.slice A3 l3.length c3, .slice A4 l4.length c4]), (3, 31, .agg #[.slice B3 x3.length e3, .slice B4 x4.length e4]), (4, 32, .tuple #[.agg #[.slice B5 y1.length e5, .slice B6 y2.length e6], .bool y3]), (5, 27, .tuple #[.agg #[.slice B5 y1.length e5, .slice B6 y2.length e6], .bool y3]), (6, 33, .agg #[.slice B5 y1.length e5, .slice B6 y2.length e6]), (7, 34, .bool y3), (8, 6, .pointer (some ⟨gb, 0, none⟩)), (10, 7, .bool y3)]) w') :
    (Code.region 8 #[{ dst := some 28, op := Go.Op.load 25 (Go.Operand.tmp 2), type := 25, pos := "exact.go:4406", after := #[], guard := none }, { dst := some 29, op := Go.Op.call { callee := Go.Callee.value (Go.Operand.func 11), args := #[Go.Operand.tmp 28], argTypes := #[25] }, type := 27, pos := "exact.go:4406", after := #[{ on := 0, ground := Go.Ground.data }], guard := none }, { dst := some 30, op := Go.Op.load 25 (Go.Operand.tmp 3), type := 25, pos := "exact.go:4406", after := #[], guard := none }, { dst := some 31, op := Go.Op.call { callee := Go.Callee.value (Go.Operand.func 11), args := #[Go.Operand.tmp 30], argTypes := #[25] }, type := 27, pos := "exact.go:4406", after := #[{ on := 2, ground := Go.Ground.data }, { on := 1, ground := Go.Ground.chain }], guard := none }, { dst := some 32, op := Go.Op.call { callee := Go.Callee.value (Go.Operand.func 10), args := #[Go.Operand.tmp 29, Go.Operand.tmp 31], argTypes := #[27, 27] }, type := 28, pos := "exact.go:4406", after := #[{ on := 1, ground := Go.Ground.data }, { on := 3, ground := Go.Ground.data }, { on := 3, ground := Go.Ground.chain }], guard := none }, { dst := some 27, op := Go.Op.move (Go.Operand.tmp 32), type := 28, pos := "exact.go:4406", after := #[{ on := 4, ground := Go.Ground.data }], guard := none }, { dst := some 33, op := Go.Op.extract (Go.Operand.tmp 27) 0, type := 27, pos := "exact.go:4406", after := #[{ on := 5, ground := Go.Ground.data }], guard := none }, { dst := some 34, op := Go.Op.extract (Go.Operand.tmp 27) 1, type := 4, pos := "exact.go:4406", after := #[{ on := 5, ground := Go.Ground.data }, { on := 9, ground := Go.Ground.gcOnly Go.Departure.lateStores }], guard := none }, { dst := some 6, op := Go.Op.alloc 27, type := 0, pos := "exact.go:4406", after := #[], guard := none }, { dst := none, op := Go.Op.store 27 (Go.Operand.tmp 6) (Go.Operand.tmp 33), type := 0, pos := "exact.go:4406", after := #[{ on := 8, ground := Go.Ground.data }, { on := 6, ground := Go.Ground.data }, { on := 4, ground := Go.Ground.chain }, { on := 0, ground := Go.Ground.phase }, { on := 1, ground := Go.Ground.phase }, { on := 2, ground := Go.Ground.phase }, { on := 3, ground := Go.Ground.phase }, { on := 4, ground := Go.Ground.phase }, { on := 5, ground := Go.Ground.phase }, { on := 6, ground := Go.Ground.phase }, { on := 7, ground := Go.Ground.textOnly Go.Departure.lateStores }, { on := 8, ground := Go.Ground.phase }], guard := none }, { dst := some 7, op := Go.Op.assign (Go.Operand.tmp 34), type := 4, pos := "exact.go:4406", after := #[{ on := 7, ground := Go.Ground.data }, { on := 9, ground := Go.Ground.chain }, { on := 0, ground := Go.Ground.phase }, { on := 1, ground := Go.Ground.phase }, { on := 2, ground := Go.Ground.phase }, { on := 3, ground := Go.Ground.phase }, { on := 4, ground := Go.Ground.phase }, { on := 5, ground := Go.Ground.phase }, { on := 6, ground := Go.Ground.phase }, { on := 7, ground := Go.Ground.phase }, { on := 8, ground := Go.Ground.phase }, { on := 9, ground := Go.Ground.phase }], guard := none }] true).wp Try.prog Q a w := by
  refine Bx.start_any (n := 11) (S := fun _ => True) (ds := []) #[false, false, false, false, false, false, false, false, false, false, false] (by kernel_rfl) rfl rfl trivial (fun ws hb0 _ => ?_)
  refine with_tabW J.tab8 J.bits8 (fun HT_ HW_ => ?_)
  refine inv_at [0, 1, 2, 3, 4, 5, 6, 7, 8, 9, 10] (fun a0_ b a w' => a0_.tmps = a0_.tmps ∧ ∃ (B1 B2 B3 B4 B5 B6 : Option Addr) (e1 e2 e3 e4 e5 e6 gb lo hi : Nat) (m27 m33 m34 m7 : Value), a = putSel a0_ b [(0, 28, .agg #[.slice A1 l1.length c1, .slice A2 l2.length c2]), (1, 29, .agg #[.slice B1 x1.length e1, .slice B2 x2.length e2]), (2, 30, .agg #[.slice A3 l3.length c3, .slice A4 l4.length c4]), (3, 31, .agg #[.slice B3 x3.length e3, .slice B4 x4.length e4]), (4, 32, .tuple #[.agg #[.slice B5 y1.length e5, .slice B6 y2.length e6], .bool y3]), (5, 27, m27), (6, 33, m33), (7, 34, m34), (8, 6, .pointer (some ⟨gb, 0, none⟩)), (10, 7, m7)] ∧ Below w.heap.size w w' ∧ (b 1 = true → b 4 = false → (Kd.C (Kd.int .i64) w' B1 x1.length x1 ∧ x1.length ≤ e1 ∧ Kd.C (Kd.slice 3 (Kd.int .i64)) w' B2 x2.length x2 ∧ x2.length ≤ e2)) ∧ (b 3 = true → b 4 = false → (Kd.C (Kd.int .i64) w' B3 x3.length x3 ∧ x3.length ≤ e3 ∧ Kd.C (Kd.slice 3 (Kd.int .i64)) w' B4 x4.length x4 ∧ x4.length ≤ e4)) ∧ (b 4 = true → (Iv.Ob (Kd.int .i64) 3 w' lo hi (fun _ => True) (.slice B5 y1.length e5) y1) ∧ (Kd.V (Kd.slice 3 (Kd.int .i64)) 22 w' lo (fun k_ => lo ≤ k_ ∧ k_ < hi) (.slice B6 y2.length e6) y2) ∧ w.heap.size ≤ lo ∧ hi ≤ w'.heap.size) ∧ (b 4 = true → b 8 = true → gb < lo ∨ hi ≤ gb) ∧ (b 8 = true → w.heap.size ≤ gb) ∧ (b 8 = true → b 9 = false → w'.heap[gb]? = some (.cells #[.slice none 0 0, .slice none 0 0] 27 (0, 0))) ∧ (b 9 = true → w'.heap[gb]? = some (.cells #[.slice B5 y1.length e5, .slice B6 y2.length e6] 27 (0, 0))) ∧ (b 5 = true → m27 = .tuple #[.agg #[.slice B5 y1.length e5, .slice B6 y2.length e6], .bool y3]) ∧ (b 6 = true → m33 = .agg #[.slice B5 y1.length e5, .slice B6 y2.length e6]) ∧ (b 7 = true → m34 = .bool y3) ∧ (b 10 = true → m7 = .bool y3)) HT_.out HW_.out (by kernel_rfl) (by kernel_rfl) ?_ ?_ ?_
  · exact ⟨rfl, none, none, none, none, none, none, 0, 0, 0, 0, 0, 0, 0, 0, 0, .bool false, .bool false, .bool false, .bool false, by simp only [putSel, Bool.false_eq_true, if_false], hb0, (fun x_ _ => absurd x_ (by decide)), (fun x_ _ => absurd x_ (by decide)), (fun x_ => absurd x_ (by decide)), (fun x_ _ => absurd x_ (by decide)), (fun x_ => absurd x_ (by decide)), (fun x_ _ => absurd x_ (by decide)), (fun x_ => absurd x_ (by decide)), (fun x_ => absurd x_ (by decide)), (fun x_ => absurd x_ (by decide)), (fun x_ => absurd x_ (by decide)), (fun x_ => absurd x_ (by decide))⟩
  · skip
    refine steps_cons ?_ ?_
    · rintro b a_ w' ⟨_, B1, B2, B3, B4, B5, B6, e1, e2, e3, e4, e5, e6, gb, lo, hi, m27, m33, m34, m7, ha, QB, Q1, Q3, Q4, QG, QL, QZ, QW, Q5, Q6, Q7, Q10⟩ hb_ hon hoff
      refine ⟨_, rfl, fun K hK => ?_⟩
      have te2 : a_.tmps[2]? = some (.pointer (some ⟨n2, 0, none⟩)) := by rw [ha]; exact (putSel_off rfl).trans ha2
      replace ha := Aside0.mk ha
      have hc0_ := Bx.box_later h20 QB
      have hc1_ := Bx.box_later h21 QB
      refine value_ (w1 := w') (v := .agg #[.slice A1 l1.length c1, .slice A2 l2.length c2]) (by rfl) rfl ?_ ?_
      · go_simp
        (try simp only [i64_w])
        try rfl
      exact hK.out _ _ ⟨rfl, B1, B2, B3, B4, B5, B6, e1, e2, e3, e4, e5, e6, gb, lo, hi, m27, m33, m34, m7, (by rw [ha.out]; exact putSel_upk 0 hb_ rfl rfl rfl), QB, Q1, Q3, Q4, QG, QL, QZ, QW, Q5, Q6, Q7, Q10⟩
    refine steps_cons ?_ ?_
    · rintro b a_ w' ⟨_, B1, B2, B3, B4, B5, B6, e1, e2, e3, e4, e5, e6, gb, lo, hi, m27, m33, m34, m7, ha, QB, Q1, Q3, Q4, QG, QL, QZ, QW, Q5, Q6, Q7, Q10⟩ hb_ hon hoff
      refine ⟨_, rfl, fun K hK => ?_⟩
      have te28 : a_.tmps[28]? = some (.agg #[.slice A1 l1.length c1, .slice A2 l2.length c2]) := by rw [ha]; exact putSel_on (e := (0, 28, .agg #[.slice A1 l1.length c1, .slice A2 l2.length c2])) 0 rfl rfl (hon 0 (by kernel_rfl)) (by simp only [Nat.ble_eq]; omega)
      replace ha := Aside0.mk ha
      refine goes_ Try.func11 (by kernel_rfl) rfl #[.agg #[.slice A1 l1.length c1, .slice A2 l2.length c2]] (by rfl) rfl rfl (by first | (simp only [List.map_toArray, List.map_cons, List.map_nil, Act.eval, Array.getD_eq_getD_getElem?, Option.getD_some, te28]; done) | (simp only [List.map_toArray, List.map_cons, List.map_nil, Act.eval, Array.getD_eq_getD_getElem?, Option.getD_some, te28]; rfl)) ?_
      with_reducible refine (laws_toRelation.calls k1 _ _ l1 _ _ l2 x1 x2 _ ?s1 ?s2 ?s3 ?s4 H1).mono ?_
      (case s1 => exact Kd.C_below hC1 QB)
      (case s2 => exact hc1)
      (case s3 => exact Kd.C_below hC2 QB)
      (case s4 => exact hc2)
      rintro e w2 ⟨v0, v1, rfl, ho0, ho1, hb⟩
      refine ⟨_, rfl, ?_⟩
      have o0_ := Iv.Ob.of_Rint (q := fun _ => True) ho0 (fun _ _ => trivial)
      have o1_ := Iv.Ob.of_S (q := fun _ => True) ho1 (fun _ _ => trivial)
      obtain ⟨Bn1, en1, rfl⟩ := Iv.Ob.slice o0_
      obtain ⟨Bn2, en2, rfl⟩ := Iv.Ob.slice o1_
      exact hK.out _ _ ⟨rfl, Bn1, Bn2, B3, B4, B5, B6, en1, en2, e3, e4, e5, e6, gb, lo, hi, m27, m33, m34, m7, (by rw [ha.out]; exact putSel_upk 1 hb_ rfl rfl rfl), below_step QB hb, fun _ _ => ⟨o0_.C, o0_.le, o1_.C, o1_.le⟩, fun h0_ => absurd ((hoff 3 (by kernel_rfl)).symm.trans h0_) (by decide), fun h0_ => absurd ((hoff 4 (by kernel_rfl)).symm.trans h0_) (by decide), fun h0_ => absurd ((hoff 4 (by kernel_rfl)).symm.trans h0_) (by decide), QL, fun x_ y_ => blk_below (QZ x_ y_) hb, fun h0_ => absurd ((hoff 9 (by kernel_rfl)).symm.trans h0_) (by decide), Q5, Q6, Q7, Q10⟩
    refine steps_cons ?_ ?_
    · rintro b a_ w' ⟨_, B1, B2, B3, B4, B5, B6, e1, e2, e3, e4, e5, e6, gb, lo, hi, m27, m33, m34, m7, ha, QB, Q1, Q3, Q4, QG, QL, QZ, QW, Q5, Q6, Q7, Q10⟩ hb_ hon hoff
      refine ⟨_, rfl, fun K hK => ?_⟩
      have te3 : a_.tmps[3]? = some (.pointer (some ⟨n3, 0, none⟩)) := by rw [ha]; exact (putSel_off rfl).trans ha3
      replace ha := Aside0.mk ha
      have hc0_ := Bx.box_later h30 QB
      have hc1_ := Bx.box_later h31 QB
      refine value_ (w1 := w') (v := .agg #[.slice A3 l3.length c3, .slice A4 l4.length c4]) (by rfl) rfl ?_ ?_
      · go_simp
        (try simp only [i64_w])
        try rfl
      exact hK.out _ _ ⟨rfl, B1, B2, B3, B4, B5, B6, e1, e2, e3, e4, e5, e6, gb, lo, hi, m27, m33, m34, m7, (by rw [ha.out]; exact putSel_upk 2 hb_ rfl rfl rfl), QB, Q1, Q3, Q4, QG, QL, QZ, QW, Q5, Q6, Q7, Q10⟩
    refine steps_cons ?_ ?_
    · rintro b a_ w' ⟨_, B1, B2, B3, B4, B5, B6, e1, e2, e3, e4, e5, e6, gb, lo, hi, m27, m33, m34, m7, ha, QB, Q1, Q3, Q4, QG, QL, QZ, QW, Q5, Q6, Q7, Q10⟩ hb_ hon hoff
      refine ⟨_, rfl, fun K hK => ?_⟩
      have te30 : a_.tmps[30]? = some (.agg #[.slice A3 l3.length c3, .slice A4 l4.length c4]) := by rw [ha]; exact putSel_on (e := (2, 30, .agg #[.slice A3 l3.length c3, .slice A4 l4.length c4])) 2 rfl rfl (hon 2 (by kernel_rfl)) (by simp only [Nat.ble_eq]; omega)
      replace ha := Aside0.mk ha
      refine goes_ Try.func11 (by kernel_rfl) rfl #[.agg #[.slice A3 l3.length c3, .slice A4 l4.length c4]] (by rfl) rfl rfl (by first | (simp only [List.map_toArray, List.map_cons, List.map_nil, Act.eval, Array.getD_eq_getD_getElem?, Option.getD_some, te30]; done) | (simp only [List.map_toArray, List.map_cons, List.map_nil, Act.eval, Array.getD_eq_getD_getElem?, Option.getD_some, te30]; rfl)) ?_
      with_reducible refine (laws_toRelation.calls k3 _ _ l3 _ _ l4 x3 x4 _ ?s1 ?s2 ?s3 ?s4 H3).mono ?_
      (case s1 => exact Kd.C_below hC3 QB)
      (case s2 => exact hc3)
      (case s3 => exact Kd.C_below hC4 QB)
      (case s4 => exact hc4)
      rintro e w2 ⟨v0, v1, rfl, ho0, ho1, hb⟩
      refine ⟨_, rfl, ?_⟩
      have o0_ := Iv.Ob.of_Rint (q := fun _ => True) ho0 (fun _ _ => trivial)
      have o1_ := Iv.Ob.of_S (q := fun _ => True) ho1 (fun _ _ => trivial)
      obtain ⟨Bn1, en1, rfl⟩ := Iv.Ob.slice o0_
      obtain ⟨Bn2, en2, rfl⟩ := Iv.Ob.slice o1_
      exact hK.out _ _ ⟨rfl, B1, B2, Bn1, Bn2, B5, B6, e1, e2, en1, en2, e5, e6, gb, lo, hi, m27, m33, m34, m7, (by rw [ha.out]; exact putSel_upk 3 hb_ rfl rfl rfl), below_step QB hb, fun x_ y_ => have h_ := Q1 x_ y_; ⟨Kd.C_below h_.1 hb, h_.2.1, Kd.C_below h_.2.2.1 hb, h_.2.2.2⟩, fun _ _ => ⟨o0_.C, o0_.le, o1_.C, o1_.le⟩, fun h0_ => absurd ((hoff 4 (by kernel_rfl)).symm.trans h0_) (by decide), fun h0_ => absurd ((hoff 4 (by kernel_rfl)).symm.trans h0_) (by decide), QL, fun x_ y_ => blk_below (QZ x_ y_) hb, fun h0_ => absurd ((hoff 9 (by kernel_rfl)).symm.trans h0_) (by decide), Q5, Q6, Q7, Q10⟩
    refine steps_cons ?_ ?_
    · rintro b a_ w' ⟨_, B1, B2, B3, B4, B5, B6, e1, e2, e3, e4, e5, e6, gb, lo, hi, m27, m33, m34, m7, ha, QB, Q1, Q3, Q4, QG, QL, QZ, QW, Q5, Q6, Q7, Q10⟩ hb_ hon hoff
      refine ⟨_, rfl, fun K hK => ?_⟩
      have te29 : a_.tmps[29]? = some (.agg #[.slice B1 x1.length e1, .slice B2 x2.length e2]) := by rw [ha]; exact putSel_on (e := (1, 29, .agg #[.slice B1 x1.length e1, .slice B2 x2.length e2])) 1 rfl rfl (hon 1 (by kernel_rfl)) (by simp only [Nat.ble_eq]; omega)
      have te31 : a_.tmps[31]? = some (.agg #[.slice B3 x3.length e3, .slice B4 x4.length e4]) := by rw [ha]; exact putSel_on (e := (3, 31, .agg #[.slice B3 x3.length e3, .slice B4 x4.length e4])) 3 rfl rfl (hon 3 (by kernel_rfl)) (by simp only [Nat.ble_eq]; omega)
      replace ha := Aside0.mk ha
      have f1 := Q1 (hon 1 (by kernel_rfl)) hb_
      have f3 := Q3 (hon 3 (by kernel_rfl)) hb_
      refine goes_ Try.func10 (by kernel_rfl) rfl #[.agg #[.slice B1 x1.length e1, .slice B2 x2.length e2], .agg #[.slice B3 x3.length e3, .slice B4 x4.length e4]] (by rfl) rfl rfl (by first | (simp only [List.map_toArray, List.map_cons, List.map_nil, Act.eval, Array.getD_eq_getD_getElem?, Option.getD_some, te29, te31]; done) | (simp only [List.map_toArray, List.map_cons, List.map_nil, Act.eval, Array.getD_eq_getD_getElem?, Option.getD_some, te29, te31]; rfl)) ?_
      with_reducible refine (spec_JoinTwo.calls k5 _ _ x1 _ _ x2 _ _ x3 _ _ x4 y1 y2 y3 _ ?s1 ?s2 ?s3 ?s4 ?s5 ?s6 ?s7 ?s8 H5).mono ?_
      (case s1 => exact f1.1)
      (case s2 => exact f1.2.1)
      (case s3 => exact f1.2.2.1)
      (case s4 => exact f1.2.2.2)
      (case s5 => exact f3.1)
      (case s6 => exact f3.2.1)
      (case s7 => exact f3.2.2.1)
      (case s8 => exact f3.2.2.2)
      rintro e w2 ⟨v0, v1, rfl, ho0, ho1, hb⟩
      refine ⟨_, rfl, ?_⟩
      have o0_ := Iv.Ob.of_Rint (q := fun _ => True) ho0 (fun _ _ => trivial)
      have o1_ := Iv.ObV.of_V ho1
      obtain ⟨Bn2, en2, rfl⟩ := Iv.ObV.slice o1_
      replace ho1 := Kd.V_mono (ok' := fun k_ => w'.heap.size ≤ k_ ∧ k_ < w2.heap.size) (Kd.V_bound ho1) (fun k_ h_ => ⟨h_.1.1, h_.2⟩)
      obtain ⟨Bn1, en1, rfl⟩ := Iv.Ob.slice o0_
      exact hK.out _ _ ⟨rfl, B1, B2, B3, B4, Bn1, Bn2, e1, e2, e3, e4, en1, en2, gb, w'.heap.size, w2.heap.size, m27, m33, m34, m7, (by rw [ha.out]; exact putSel_upk 4 hb_ rfl rfl rfl), below_step QB hb, fun _ h0_ => absurd h0_ (by rw [up_self]; decide), fun _ h0_ => absurd h0_ (by rw [up_self]; decide), fun _ => ⟨o0_, ho1, QB.size, Nat.le_refl _⟩, fun _ x_ => Or.inl (blk_lt (QZ x_ (hoff 9 (by kernel_rfl)))), QL, fun x_ y_ => blk_below (QZ x_ y_) hb, fun h0_ => absurd ((hoff 9 (by kernel_rfl)).symm.trans h0_) (by decide), fun h0_ => absurd ((hoff 5 (by kernel_rfl)).symm.trans h0_) (by decide), fun h0_ => absurd ((hoff 6 (by kernel_rfl)).symm.trans h0_) (by decide), fun h0_ => absurd ((hoff 7 (by kernel_rfl)).symm.trans h0_) (by decide), fun h0_ => absurd ((hoff 10 (by kernel_rfl)).symm.trans h0_) (by decide)⟩
    refine steps_cons ?_ ?_
    · rintro b a_ w' ⟨_, B1, B2, B3, B4, B5, B6, e1, e2, e3, e4, e5, e6, gb, lo, hi, m27, m33, m34, m7, ha, QB, Q1, Q3, Q4, QG, QL, QZ, QW, Q5, Q6, Q7, Q10⟩ hb_ hon hoff
      refine ⟨_, rfl, fun K hK => ?_⟩
      have te32 : a_.tmps[32]? = some (.tuple #[.agg #[.slice B5 y1.length e5, .slice B6 y2.length e6], .bool y3]) := by rw [ha]; exact putSel_on (e := (4, 32, .tuple #[.agg #[.slice B5 y1.length e5, .slice B6 y2.length e6], .bool y3])) 4 rfl rfl (hon 4 (by kernel_rfl)) (by simp only [Nat.ble_eq]; omega)
      replace ha := Aside0.mk ha
      refine value_ (w1 := w') (v := .tuple #[.agg #[.slice B5 y1.length e5, .slice B6 y2.length e6], .bool y3]) (by rfl) rfl ?_ ?_
      · go_simp
        (try simp only [i64_w])
        try rfl
      exact hK.out _ _ ⟨rfl, B1, B2, B3, B4, B5, B6, e1, e2, e3, e4, e5, e6, gb, lo, hi, (.tuple #[.agg #[.slice B5 y1.length e5, .slice B6 y2.length e6], .bool y3]), m33, m34, m7, (by rw [ha.out]; exact putSel_upk 5 hb_ rfl rfl rfl), QB, Q1, Q3, Q4, QG, QL, QZ, QW, fun _ => rfl, fun h0_ => absurd ((hoff 6 (by kernel_rfl)).symm.trans h0_) (by decide), fun h0_ => absurd ((hoff 7 (by kernel_rfl)).symm.trans h0_) (by decide), fun h0_ => absurd ((hoff 10 (by kernel_rfl)).symm.trans h0_) (by decide)⟩
    refine steps_cons ?_ ?_
    · rintro b a_ w' ⟨_, B1, B2, B3, B4, B5, B6, e1, e2, e3, e4, e5, e6, gb, lo, hi, m27, m33, m34, m7, ha, QB, Q1, Q3, Q4, QG, QL, QZ, QW, Q5, Q6, Q7, Q10⟩ hb_ hon hoff
      refine ⟨_, rfl, fun K hK => ?_⟩
      have q5_ := Q5 (hon 5 (by kernel_rfl))
      subst q5_
      have te27 : a_.tmps[27]? = some (.tuple #[.agg #[.slice B5 y1.length e5, .slice B6 y2.length e6], .bool y3]) := by rw [ha]; exact putSel_on (e := (5, 27, .tuple #[.agg #[.slice B5 y1.length e5, .slice B6 y2.length e6], .bool y3])) 5 rfl rfl (hon 5 (by kernel_rfl)) (by simp only [Nat.ble_eq]; omega)
      replace ha := Aside0.mk ha
      refine value_ (w1 := w') (v := .agg #[.slice B5 y1.length e5, .slice B6 y2.length e6]) (by rfl) rfl ?_ ?_
      · go_simp
        (try simp only [i64_w])
        try rfl
      exact hK.out _ _ ⟨rfl, B1, B2, B3, B4, B5, B6, e1, e2, e3, e4, e5, e6, gb, lo, hi, _, (.agg #[.slice B5 y1.length e5, .slice B6 y2.length e6]), m34, m7, (by rw [ha.out]; exact putSel_upk 6 hb_ rfl rfl rfl), QB, Q1, Q3, Q4, QG, QL, QZ, QW, Q5, fun _ => rfl, Q7, Q10⟩
    refine steps_cons ?_ ?_
    · rintro b a_ w' ⟨_, B1, B2, B3, B4, B5, B6, e1, e2, e3, e4, e5, e6, gb, lo, hi, m27, m33, m34, m7, ha, QB, Q1, Q3, Q4, QG, QL, QZ, QW, Q5, Q6, Q7, Q10⟩ hb_ hon hoff
      refine ⟨_, rfl, fun K hK => ?_⟩
      have q5_ := Q5 (hon 5 (by kernel_rfl))
      subst q5_
      have te27 : a_.tmps[27]? = some (.tuple #[.agg #[.slice B5 y1.length e5, .slice B6 y2.length e6], .bool y3]) := by rw [ha]; exact putSel_on (e := (5, 27, .tuple #[.agg #[.slice B5 y1.length e5, .slice B6 y2.length e6], .bool y3])) 5 rfl rfl (hon 5 (by kernel_rfl)) (by simp only [Nat.ble_eq]; omega)
      replace ha := Aside0.mk ha
      refine value_ (w1 := w') (v := .bool y3) (by rfl) rfl ?_ ?_
      · go_simp
        (try simp only [i64_w])
        try rfl
      exact hK.out _ _ ⟨rfl, B1, B2, B3, B4, B5, B6, e1, e2, e3, e4, e5, e6, gb, lo, hi, _, m33, (.bool y3), m7, (by rw [ha.out]; exact putSel_upk 7 hb_ rfl rfl rfl), QB, Q1, Q3, Q4, QG, QL, QZ, QW, Q5, Q6, fun _ => rfl, fun h0_ => absurd ((hoff 10 (by kernel_rfl)).symm.trans h0_) (by decide)⟩
    refine steps_cons ?_ ?_
    · rintro b a_ w' ⟨_, B1, B2, B3, B4, B5, B6, e1, e2, e3, e4, e5, e6, gb, lo, hi, m27, m33, m34, m7, ha, QB, Q1, Q3, Q4, QG, QL, QZ, QW, Q5, Q6, Q7, Q10⟩ hb_ hon hoff
      refine ⟨_, rfl, fun K hK => ?_⟩
      replace ha := Aside0.mk ha
      have hal_ := below_alloc (Below.refl (World.heap w').size w') (.cells #[.slice none 0 0, .slice none 0 0] 27)
      have hu27 := Try.underlying27
      refine value_ (w1 := (w'.alloc (.cells #[.slice none 0 0, .slice none 0 0] 27))) (v := .pointer (some ⟨w'.heap.size, 0, none⟩)) (by rfl) rfl ?_ ?_
      · go_simp
        (try simp only [i64_w])
        try rfl
      exact hK.out _ _ ⟨rfl, B1, B2, B3, B4, B5, B6, e1, e2, e3, e4, e5, e6, w'.heap.size, lo, hi, m27, m33, m34, m7, (by rw [ha.out]; exact putSel_upk 8 hb_ rfl rfl rfl), below_alloc QB _, fun x_ y_ => have h_ := Q1 x_ y_; ⟨Kd.C_below h_.1 hal_, h_.2.1, Kd.C_below h_.2.2.1 hal_, h_.2.2.2⟩, fun x_ y_ => have h_ := Q3 x_ y_; ⟨Kd.C_below h_.1 hal_, h_.2.1, Kd.C_below h_.2.2.1 hal_, h_.2.2.2⟩, fun x_ => have h_ := Q4 x_; ⟨h_.1.below hal_, Kd.V_below h_.2.1 hal_, h_.2.2.1, Nat.le_trans h_.2.2.2 hal_.size⟩, fun x_ _ => Or.inr (Q4 x_).2.2.2, fun _ => QB.size, fun _ _ => blk_new w' (.cells #[.slice none 0 0, .slice none 0 0] 27), fun h0_ => absurd ((hoff 9 (by kernel_rfl)).symm.trans h0_) (by decide), Q5, Q6, Q7, Q10⟩
    refine steps_cons ?_ ?_
    · rintro b a_ w' ⟨_, B1, B2, B3, B4, B5, B6, e1, e2, e3, e4, e5, e6, gb, lo, hi, m27, m33, m34, m7, ha, QB, Q1, Q3, Q4, QG, QL, QZ, QW, Q5, Q6, Q7, Q10⟩ hb_ hon hoff
      refine ⟨_, rfl, fun K hK => ?_⟩
      have q6_ := Q6 (hon 6 (by kernel_rfl))
      subst q6_
      have te33 : a_.tmps[33]? = some (.agg #[.slice B5 y1.length e5, .slice B6 y2.length e6]) := by rw [ha]; exact putSel_on (e := (6, 33, .agg #[.slice B5 y1.length e5, .slice B6 y2.length e6])) 6 rfl rfl (hon 6 (by kernel_rfl)) (by simp only [Nat.ble_eq]; omega)
      have te6 : a_.tmps[6]? = some (.pointer (some ⟨gb, 0, none⟩)) := by rw [ha]; exact putSel_on (e := (8, 6, .pointer (some ⟨gb, 0, none⟩))) 8 rfl rfl (hon 8 (by kernel_rfl)) (by simp only [Nat.ble_eq]; omega)
      replace ha := Aside0.mk ha
      have hu27 := Try.underlying27
      have z_ := QZ (hon 8 (by kernel_rfl)) hb_
      have g4 := Q4 (hon 4 (by kernel_rfl))
      have gg := QG (hon 4 (by kernel_rfl)) (hon 8 (by kernel_rfl))
      have gl := QL (hon 8 (by kernel_rfl))
      have hk0_ := Kept.setCell (p := ⟨gb, 1, none⟩) (Kept.setCell (p := ⟨gb, 0, none⟩) (Kept.refl w' (fun k => gb ≤ k ∧ k < gb + 1)) (Or.inl ⟨Nat.le_refl _, Nat.lt_succ_self _⟩) (.slice B5 y1.length e5)) (Or.inl ⟨Nat.le_refl _, Nat.lt_succ_self _⟩) (.slice B6 y2.length e6)
      have z0_ : w'.cell? ⟨gb, 0, none⟩ = some (.slice none 0 0) := (blk_cell z_ 0).trans rfl
      have z1_ : w'.cell? ⟨gb, 1, none⟩ = some (.slice none 0 0) := (blk_cell z_ 1).trans rfl
      have hfz0 := blk_frozen z_ 0
      have hfz1 := blk_frozen z_ 1
      refine skip_ (w1 := ((w'.setCell ⟨gb, 0, none⟩ (.slice B5 y1.length e5)).setCell ⟨gb, 1, none⟩ (.slice B6 y2.length e6))) (by rfl) rfl ?_ ?_
      · go_simp
        (try simp only [i64_w])
        try rfl
      refine hK.out _ _ ⟨rfl, B1, B2, B3, B4, B5, B6, e1, e2, e3, e4, e5, e6, gb, lo, hi, m27, _, m34, m7, (by rw [ha.out]; exact (putSel_same rfl).symm), (below_set (below_set QB gl) gl), (fun _ h0_ => absurd ((hon 4 (by kernel_rfl)).symm.trans h0_) (by decide)), (fun _ h0_ => absurd ((hon 4 (by kernel_rfl)).symm.trans h0_) (by decide)), (fun _ => ⟨g4.1.kept hk0_ (by omega), Kd.V_kept g4.2.1 hk0_ (fun k_ h_ s_ => by have := h_.1; have := h_.2; have := s_.1; have := s_.2; omega), g4.2.2.1, Nat.le_trans g4.2.2.2 hk0_.1⟩), fun _ _ => gg, QL, (fun _ h0_ => absurd h0_ (by rw [up_self]; decide)), (fun _ => blk_set (blk_set z_ 0 _) 1 _), Q5, Q6, Q7, fun h0_ => absurd ((hoff 10 (by kernel_rfl)).symm.trans h0_) (by decide)⟩
    refine steps_cons ?_ ?_
    · rintro b a_ w' ⟨_, B1, B2, B3, B4, B5, B6, e1, e2, e3, e4, e5, e6, gb, lo, hi, m27, m33, m34, m7, ha, QB, Q1, Q3, Q4, QG, QL, QZ, QW, Q5, Q6, Q7, Q10⟩ hb_ hon hoff
      refine ⟨_, rfl, fun K hK => ?_⟩
      have q7_ := Q7 (hon 7 (by kernel_rfl))
      subst q7_
      have te34 : a_.tmps[34]? = some (.bool y3) := by rw [ha]; exact putSel_on (e := (7, 34, .bool y3)) 7 rfl rfl (hon 7 (by kernel_rfl)) (by simp only [Nat.ble_eq]; omega)
      replace ha := Aside0.mk ha
      refine value_ (w1 := w') (v := .bool y3) (by rfl) rfl ?_ ?_
      · go_simp
        (try simp only [i64_w])
        try rfl
      exact hK.out _ _ ⟨rfl, B1, B2, B3, B4, B5, B6, e1, e2, e3, e4, e5, e6, gb, lo, hi, m27, m33, _, (.bool y3), (by rw [ha.out]; exact putSel_upk 9 hb_ rfl rfl rfl), QB, Q1, Q3, Q4, QG, QL, QZ, QW, Q5, Q6, Q7, fun _ => rfl⟩
    exact steps_nil
  rintro b a_ w' hall ⟨_, B1, B2, B3, B4, B5, B6, e1, e2, e3, e4, e5, e6, gb, lo, hi, m27, m33, m34, m7, ha, QB, Q1, Q3, Q4, QG, QL, QZ, QW, Q5, Q6, Q7, Q10⟩
  have hb0_ := hall 0 (by kernel_rfl)
  have hb1_ := hall 1 (by kernel_rfl)
  have hb2_ := hall 2 (by kernel_rfl)
  have hb3_ := hall 3 (by kernel_rfl)
  have hb4_ := hall 4 (by kernel_rfl)
  have hb5_ := hall 5 (by kernel_rfl)
  have hb6_ := hall 6 (by kernel_rfl)
  have hb7_ := hall 7 (by kernel_rfl)
  have hb8_ := hall 8 (by kernel_rfl)
  have hb9_ := hall 9 (by kernel_rfl)
  have hb10_ := hall 10 (by kernel_rfl)
  subst ha
  obtain rfl := (Q5 hb5_).symm
  obtain rfl := (Q6 hb6_).symm
  obtain rfl := (Q7 hb7_).symm
  obtain rfl := (Q10 hb10_).symm
  have g4 := Q4 hb4_
  have hf := h w' B1 B2 B3 B4 B5 B6 e1 e2 e3 e4 e5 e6 gb lo hi QB g4.1 g4.2.1 g4.2.2.1 g4.2.2.2 (QG hb4_ hb8_) (QL hb8_) (QW hb9_)
  simp only [putSel, hb0_, hb1_, hb2_, hb3_, hb4_, hb5_, hb6_, hb7_, hb8_, hb10_, if_true] at hf ⊢
  exact hf
def J.T31 : Bool × List (List Nat × List Nat) := (true, [([], []), ([0], [0]), ([], []), ([2, 1], [2]), ([1, 3, 3], [1, 3]), ([4], [4]), ([5], [5]), ([5], [5]), ([], []), ([8, 6, 4, 0, 1, 2, 3, 4, 5, 6, 8], [6, 8]), ([7, 9, 0, 1, 2, 3, 4, 5, 6, 7, 8, 9], [7])])
theorem J.tab31 : rtab .any (opsOf Try.f3 31) = J.T31 := by kernel_rfl
theorem J.bits31 : waitsOk J.T31.2 [0, 1, 0, 7, 15, 31, 63, 63, 0, 383, 1023] = true := by kernel_rfl
set_option maxHeartbeats 4000000 in
theorem reg31 {Q : Exit → Act → World → Prop} (a : Act) (w : World) (n2 n3 : Nat) (A1 A2 A3 A4 : Option Addr) (c1 c2 c3 c4 : Nat) (l1 l3 x1 x3 y1 : List Int) (l2 l4 x2 x4 y2 : List (List Int)) (y3 : Bool) (k1 k3 k5 : Nat)
    (hsz : 102 ≤ a.tmps.size) (ha2 : a.tmps[2]? = some (.pointer (some ⟨n2, 0, none⟩))) (ha3 : a.tmps[3]? = some (.pointer (some ⟨n3, 0, none⟩)))
    (h20 : w.cell? ⟨n2, 0, none⟩ = some (.slice A1 l1.length c1)) (h21 : w.cell? ⟨n2, 1, none⟩ = some (.slice A2 l2.length c2)) (h30 : w.cell? ⟨n3, 0, none⟩ = some (.slice A3 l3.length c3)) (h31 : w.cell? ⟨n3, 1, none⟩ = some (.slice A4 l4.length c4))
    (hC1 : Kd.C (Kd.int .i64) w A1 l1.length l1) (hc1 : l1.length ≤ c1) (hC2 : Kd.C (Kd.slice 3 (Kd.int .i64)) w A2 l2.length l2) (hc2 : l2.length ≤ c2) (hC3 : Kd.C (Kd.int .i64) w A3 l3.length l3) (hc3 : l3.length ≤ c3) (hC4 : Kd.C (Kd.slice 3 (Kd.int .i64)) w A4 l4.length l4) (hc4 : l4.length ≤ c4)
    (H1 : laws_toRelation.f k1 l1 l2 = some (x1, x2)) (H3 : laws_toRelation.f k3 l3 l4 = some (x3, x4)) (H5 : impl_JoinTwo.f k5 x1 x2 x3 x4 = some (y1, y2, y3))
    (h : ∀ (w' : World) (B1 B2 B3 B4 B5 B6 : Option Addr) (e1 e2 e3 e4 e5 e6 gb lo hi : Nat), Below w.heap.size w w' → (Iv.Ob (Kd.int .i64) 3 w' lo hi (fun _ => True) (.slice B5 y1.length e5) y1) → (Iv.Ob (Kd.slice 3 (Kd.int .i64)) 22 w' lo hi (fun k_ => some k_ ≠ (Value.slice B5 y1.length e5).ownBlock) (.slice B6 y2.length e6) y2) → w.heap.size ≤ lo → hi ≤ w'.heap.size → (gb < lo ∨ hi ≤ gb) → w.heap.size ≤ gb → w'.heap[gb]? = some (.cells #[.slice B5 y1.length e5, .slice B6 y2.length e6] 27 (0, 0)) → Q .normal (putSel a (fun _ => true) [(0, 95, .agg #[.slice A1 l1.length c1, .slice A2 l2.length c2]), (1, 96, .agg #[.slice B1 x1.length e1, .slice B2 x2.length e2]), (2, 97, .agg #[.slice A3 l3.length c3, .slice A4 l4.length c4]), (3, 98, .agg #[.slice B3 x3.length e3, .slice B4 x4.length e4]), (4, 99, .tuple #[.agg #[.slice B5 y1.length e5, .slice B6 y2.length e6], .bool y3]), (5, 94, .tuple #[.agg #[.slice B5 y1.length e5, .slice B6 y2.length e6], .bool y3]), (6, 100, .agg #[.slice B5 y1.length e5, .slice B6 y2.length e6]), (7, 101, .bool y3), (8, 15, .pointer (some ⟨gb, 0, none⟩)), (10, 16, .bool y3)]) w') :
    (Code.region 31 #[{ dst := some 95, op := Go.Op.load 25 (Go.Operand.tmp 2), type := 25, pos := "exact.go:4435", after := #[], guard := none }, { dst := some 96, op := Go.Op.call { callee := Go.Callee.value (Go.Operand.func 11), args := #[Go.Operand.tmp 95], argTypes := #[25] }, type := 27, pos := "exact.go:4435", after := #[{ on := 0, ground := Go.Ground.data }], guard := none }, { dst := some 97, op := Go.Op.load 25 (Go.Operand.tmp 3), type := 25, pos := "exact.go:4435", after := #[], guard := none }, { dst := some 98, op := Go.Op.call { callee := Go.Callee.value (Go.Operand.func 11), args := #[Go.Operand.tmp 97], argTypes := #[25] }, type := 27, pos := "exact.go:4435", after := #[{ on := 2, ground := Go.Ground.data }, { on := 1, ground := Go.Ground.chain }], guard := none }, { dst := some 99, op := Go.Op.call { callee := Go.Callee.value (Go.Operand.func 12), args := #[Go.Operand.tmp 96, Go.Operand.tmp 98], argTypes := #[27, 27] }, type := 28, pos := "exact.go:4435", after := #[{ on := 1, ground := Go.Ground.data }, { on := 3, ground := Go.Ground.data }, { on := 3, ground := Go.Ground.chain }], guard := none }, { dst := some 94, op := Go.Op.move (Go.Operand.tmp 99), type := 28, pos := "exact.go:4435", after := #[{ on := 4, ground := Go.Ground.data }], guard := none }, { dst := some 100, op := Go.Op.extract (Go.Operand.tmp 94) 0, type := 27, pos := "exact.go:4435", after := #[{ on := 5, ground := Go.Ground.data }], guard := none }, { dst := some 101, op := Go.Op.extract (Go.Operand.tmp 94) 1, type := 4, pos := "exact.go:4435", after := #[{ on := 5, ground := Go.Ground.data }, { on := 9, ground := Go.Ground.gcOnly Go.Departure.lateStores }], guard := none }, { dst := some 15, op := Go.Op.alloc 27, type := 0, pos := "exact.go:4435", after := #[], guard := none }, { dst := none, op := Go.Op.store 27 (Go.Operand.tmp 15) (Go.Operand.tmp 100), type := 0, pos := "exact.go:4435", after := #[{ on := 8, ground := Go.Ground.data }, { on := 6, ground := Go.Ground.data }, { on := 4, ground := Go.Ground.chain }, { on := 0, ground := Go.Ground.phase }, { on := 1, ground := Go.Ground.phase }, { on := 2, ground := Go.Ground.phase }, { on := 3, ground := Go.Ground.phase }, { on := 4, ground := Go.Ground.phase }, { on := 5, ground := Go.Ground.phase }, { on := 6, ground := Go.Ground.phase }, { on := 7, ground := Go.Ground.textOnly Go.Departure.lateStores }, { on := 8, ground := Go.Ground.phase }], guard := none }, { dst := some 16, op := Go.Op.assign (Go.Operand.tmp 101), type := 4, pos := "exact.go:4435", after := #[{ on := 7, ground := Go.Ground.data }, { on := 9, ground := Go.Ground.chain }, { on := 0, ground := Go.Ground.phase }, { on := 1, ground := Go.Ground.phase }, { on := 2, ground := Go.Ground.phase }, { on := 3, ground := Go.Ground.phase }, { on := 4, ground := Go.Ground.phase }, { on := 5, ground := Go.Ground.phase }, { on := 6, ground := Go.Ground.phase }, { on := 7, ground := Go.Ground.phase }, { on := 8, ground := Go.Ground.phase }, { on := 9, ground := Go.Ground.phase }], guard := none }] true).wp Try.prog Q a w := by
  refine Bx.start_any (n := 11) (S := fun _ => True) (ds := []) #[false, false, false, false, false, false, false, false, false, false, false] (by kernel_rfl) rfl rfl trivial (fun ws hb0 _ => ?_)
  refine with_tabW J.tab31 J.bits31 (fun HT_ HW_ => ?_)
  refine inv_at [0, 1, 2, 3, 4, 5, 6, 7, 8, 9, 10] (fun a0_ b a w' => a0_.tmps = a0_.tmps ∧ ∃ (B1 B2 B3 B4 B5 B6 : Option Addr) (e1 e2 e3 e4 e5 e6 gb lo hi : Nat) (m27 m33 m34 m7 : Value), a = putSel a0_ b [(0, 95, .agg #[.slice A1 l1.length c1, .slice A2 l2.length c2]), (1, 96, .agg #[.slice B1 x1.length e1, .slice B2 x2.length e2]), (2, 97, .agg #[.slice A3 l3.length c3, .slice A4 l4.length c4]), (3, 98, .agg #[.slice B3 x3.length e3, .slice B4 x4.length e4]), (4, 99, .tuple #[.agg #[.slice B5 y1.length e5, .slice B6 y2.length e6], .bool y3]), (5, 94, m27), (6, 100, m33), (7, 101, m34), (8, 15, .pointer (some ⟨gb, 0, none⟩)), (10, 16, m7)] ∧ Below w.heap.size w w' ∧ (b 1 = true → b 4 = false → (Kd.C (Kd.int .i64) w' B1 x1.length x1 ∧ x1.length ≤ e1 ∧ Kd.C (Kd.slice 3 (Kd.int .i64)) w' B2 x2.length x2 ∧ x2.length ≤ e2)) ∧ (b 3 = true → b 4 = false → (Kd.C (Kd.int .i64) w' B3 x3.length x3 ∧ x3.length ≤ e3 ∧ Kd.C (Kd.slice 3 (Kd.int .i64)) w' B4 x4.length x4 ∧ x4.length ≤ e4)) ∧ (b 4 = true → (Iv.Ob (Kd.int .i64) 3 w' lo hi (fun _ => True) (.slice B5 y1.length e5) y1) ∧ (Iv.Ob (Kd.slice 3 (Kd.int .i64)) 22 w' lo hi (fun k_ => some k_ ≠ (Value.slice B5 y1.length e5).ownBlock) (.slice B6 y2.length e6) y2) ∧ w.heap.size ≤ lo ∧ hi ≤ w'.heap.size) ∧ (b 4 = true → b 8 = true → gb < lo ∨ hi ≤ gb) ∧ (b 8 = true → w.heap.size ≤ gb) ∧ (b 8 = true → b 9 = false → w'.heap[gb]? = some (.cells #[.slice none 0 0, .slice none 0 0] 27 (0, 0))) ∧ (b 9 = true → w'.heap[gb]? = some (.cells #[.slice B5 y1.length e5, .slice B6 y2.length e6] 27 (0, 0))) ∧ (b 5 = true → m27 = .tuple #[.agg #[.slice B5 y1.length e5, .slice B6 y2.length e6], .bool y3]) ∧ (b 6 = true → m33 = .agg #[.slice B5 y1.length e5, .slice B6 y2.length e6]) ∧ (b 7 = true → m34 = .bool y3) ∧ (b 10 = true → m7 = .bool y3)) HT_.out HW_.out (by kernel_rfl) (by kernel_rfl) ?_ ?_ ?_
  · exact ⟨rfl, none, none, none, none, none, none, 0, 0, 0, 0, 0, 0, 0, 0, 0, .bool false, .bool false, .bool false, .bool false, by simp only [putSel, Bool.false_eq_true, if_false], hb0, (fun x_ _ => absurd x_ (by decide)), (fun x_ _ => absurd x_ (by decide)), (fun x_ => absurd x_ (by decide)), (fun x_ _ => absurd x_ (by decide)), (fun x_ => absurd x_ (by decide)), (fun x_ _ => absurd x_ (by decide)), (fun x_ => absurd x_ (by decide)), (fun x_ => absurd x_ (by decide)), (fun x_ => absurd x_ (by decide)), (fun x_ => absurd x_ (by decide)), (fun x_ => absurd x_ (by decide))⟩
  · skip
    refine steps_cons ?_ ?_
    · rintro b a_ w' ⟨_, B1, B2, B3, B4, B5, B6, e1, e2, e3, e4, e5, e6, gb, lo, hi, m27, m33, m34, m7, ha, QB, Q1, Q3, Q4, QG, QL, QZ, QW, Q5, Q6, Q7, Q10⟩ hb_ hon hoff
      refine ⟨_, rfl, fun K hK => ?_⟩
      have te2 : a_.tmps[2]? = some (.pointer (some ⟨n2, 0, none⟩)) := by rw [ha]; exact (putSel_off rfl).trans ha2
      replace ha := Aside0.mk ha
      have hc0_ := Bx.box_later h20 QB
      have hc1_ := Bx.box_later h21 QB
      refine value_ (w1 := w') (v := .agg #[.slice A1 l1.length c1, .slice A2 l2.length c2]) (by rfl) rfl ?_ ?_
      · go_simp
        (try simp only [i64_w])
        try rfl
      exact hK.out _ _ ⟨rfl, B1, B2, B3, B4, B5, B6, e1, e2, e3, e4, e5, e6, gb, lo, hi, m27, m33, m34, m7, (by rw [ha.out]; exact putSel_upk 0 hb_ rfl rfl rfl), QB, Q1, Q3, Q4, QG, QL, QZ, QW, Q5, Q6, Q7, Q10⟩
    refine steps_cons ?_ ?_
    · rintro b a_ w' ⟨_, B1, B2, B3, B4, B5, B6, e1, e2, e3, e4, e5, e6, gb, lo, hi, m27, m33, m34, m7, ha, QB, Q1, Q3, Q4, QG, QL, QZ, QW, Q5, Q6, Q7, Q10⟩ hb_ hon hoff
      refine ⟨_, rfl, fun K hK => ?_⟩
      have te95 : a_.tmps[95]? = some (.agg #[.slice A1 l1.length c1, .slice A2 l2.length c2]) := by rw [ha]; exact putSel_on (e := (0, 95, .agg #[.slice A1 l1.length c1, .slice A2 l2.length c2])) 0 rfl rfl (hon 0 (by kernel_rfl)) (by simp only [Nat.ble_eq]; omega)
      replace ha := Aside0.mk ha
      refine goes_ Try.func11 (by kernel_rfl) rfl #[.agg #[.slice A1 l1.length c1, .slice A2 l2.length c2]] (by rfl) rfl rfl (by first | (simp only [List.map_toArray, List.map_cons, List.map_nil, Act.eval, Array.getD_eq_getD_getElem?, Option.getD_some, te95]; done) | (simp only [List.map_toArray, List.map_cons, List.map_nil, Act.eval, Array.getD_eq_getD_getElem?, Option.getD_some, te95]; rfl)) ?_
      with_reducible refine (laws_toRelation.calls k1 _ _ l1 _ _ l2 x1 x2 _ ?s1 ?s2 ?s3 ?s4 H1).mono ?_
      (case s1 => exact Kd.C_below hC1 QB)
      (case s2 => exact hc1)
      (case s3 => exact Kd.C_below hC2 QB)
      (case s4 => exact hc2)
      rintro e w2 ⟨v0, v1, rfl, ho0, ho1, hb⟩
      refine ⟨_, rfl, ?_⟩
      have o0_ := Iv.Ob.of_Rint (q := fun _ => True) ho0 (fun _ _ => trivial)
      have o1_ := Iv.Ob.of_S (q := fun _ => True) ho1 (fun _ _ => trivial)
      obtain ⟨Bn1, en1, rfl⟩ := Iv.Ob.slice o0_
      obtain ⟨Bn2, en2, rfl⟩ := Iv.Ob.slice o1_
      exact hK.out _ _ ⟨rfl, Bn1, Bn2, B3, B4, B5, B6, en1, en2, e3, e4, e5, e6, gb, lo, hi, m27, m33, m34, m7, (by rw [ha.out]; exact putSel_upk 1 hb_ rfl rfl rfl), below_step QB hb, fun _ _ => ⟨o0_.C, o0_.le, o1_.C, o1_.le⟩, fun h0_ => absurd ((hoff 3 (by kernel_rfl)).symm.trans h0_) (by decide), fun h0_ => absurd ((hoff 4 (by kernel_rfl)).symm.trans h0_) (by decide), fun h0_ => absurd ((hoff 4 (by kernel_rfl)).symm.trans h0_) (by decide), QL, fun x_ y_ => blk_below (QZ x_ y_) hb, fun h0_ => absurd ((hoff 9 (by kernel_rfl)).symm.trans h0_) (by decide), Q5, Q6, Q7, Q10⟩
    refine steps_cons ?_ ?_
    · rintro b a_ w' ⟨_, B1, B2, B3, B4, B5, B6, e1, e2, e3, e4, e5, e6, gb, lo, hi, m27, m33, m34, m7, ha, QB, Q1, Q3, Q4, QG, QL, QZ, QW, Q5, Q6, Q7, Q10⟩ hb_ hon hoff
      refine ⟨_, rfl, fun K hK => ?_⟩
      have te3 : a_.tmps[3]? = some (.pointer (some ⟨n3, 0, none⟩)) := by rw [ha]; exact (putSel_off rfl).trans ha3
      replace ha := Aside0.mk ha
      have hc0_ := Bx.box_later h30 QB
      have hc1_ := Bx.box_later h31 QB
      refine value_ (w1 := w') (v := .agg #[.slice A3 l3.length c3, .slice A4 l4.length c4]) (by rfl) rfl ?_ ?_
      · go_simp
        (try simp only [i64_w])
        try rfl
      exact hK.out _ _ ⟨rfl, B1, B2, B3, B4, B5, B6, e1, e2, e3, e4, e5, e6, gb, lo, hi, m27, m33, m34, m7, (by rw [ha.out]; exact putSel_upk 2 hb_ rfl rfl rfl), QB, Q1, Q3, Q4, QG, QL, QZ, QW, Q5, Q6, Q7, Q10⟩
    refine steps_cons ?_ ?_
    · rintro b a_ w' ⟨_, B1, B2, B3, B4, B5, B6, e1, e2, e3, e4, e5, e6, gb, lo, hi, m27, m33, m34, m7, ha, QB, Q1, Q3, Q4, QG, QL, QZ, QW, Q5, Q6, Q7, Q10⟩ hb_ hon hoff
      refine ⟨_, rfl, fun K hK => ?_⟩
      have te97 : a_.tmps[97]? = some (.agg #[.slice A3 l3.length c3, .slice A4 l4.length c4]) := by rw [ha]; exact putSel_on (e := (2, 97, .agg #[.slice A3 l3.length c3, .slice A4 l4.length c4])) 2 rfl rfl (hon 2 (by kernel_rfl)) (by simp only [Nat.ble_eq]; omega)
      replace ha := Aside0.mk ha
      refine goes_ Try.func11 (by kernel_rfl) rfl #[.agg #[.slice A3 l3.length c3, .slice A4 l4.length c4]] (by rfl) rfl rfl (by first | (simp only [List.map_toArray, List.map_cons, List.map_nil, Act.eval, Array.getD_eq_getD_getElem?, Option.getD_some, te97]; done) | (simp only [List.map_toArray, List.map_cons, List.map_nil, Act.eval, Array.getD_eq_getD_getElem?, Option.getD_some, te97]; rfl)) ?_
      with_reducible refine (laws_toRelation.calls k3 _ _ l3 _ _ l4 x3 x4 _ ?s1 ?s2 ?s3 ?s4 H3).mono ?_
      (case s1 => exact Kd.C_below hC3 QB)
      (case s2 => exact hc3)
      (case s3 => exact Kd.C_below hC4 QB)
      (case s4 => exact hc4)
      rintro e w2 ⟨v0, v1, rfl, ho0, ho1, hb⟩
      refine ⟨_, rfl, ?_⟩
      have o0_ := Iv.Ob.of_Rint (q := fun _ => True) ho0 (fun _ _ => trivial)
      have o1_ := Iv.Ob.of_S (q := fun _ => True) ho1 (fun _ _ => trivial)
      obtain ⟨Bn1, en1, rfl⟩ := Iv.Ob.slice o0_
      obtain ⟨Bn2, en2, rfl⟩ := Iv.Ob.slice o1_
      exact hK.out _ _ ⟨rfl, B1, B2, Bn1, Bn2, B5, B6, e1, e2, en1, en2, e5, e6, gb, lo, hi, m27, m33, m34, m7, (by rw [ha.out]; exact putSel_upk 3 hb_ rfl rfl rfl), below_step QB hb, fun x_ y_ => have h_ := Q1 x_ y_; ⟨Kd.C_below h_.1 hb, h_.2.1, Kd.C_below h_.2.2.1 hb, h_.2.2.2⟩, fun _ _ => ⟨o0_.C, o0_.le, o1_.C, o1_.le⟩, fun h0_ => absurd ((hoff 4 (by kernel_rfl)).symm.trans h0_) (by decide), fun h0_ => absurd ((hoff 4 (by kernel_rfl)).symm.trans h0_) (by decide), QL, fun x_ y_ => blk_below (QZ x_ y_) hb, fun h0_ => absurd ((hoff 9 (by kernel_rfl)).symm.trans h0_) (by decide), Q5, Q6, Q7, Q10⟩
    refine steps_cons ?_ ?_
    · rintro b a_ w' ⟨_, B1, B2, B3, B4, B5, B6, e1, e2, e3, e4, e5, e6, gb, lo, hi, m27, m33, m34, m7, ha, QB, Q1, Q3, Q4, QG, QL, QZ, QW, Q5, Q6, Q7, Q10⟩ hb_ hon hoff
      refine ⟨_, rfl, fun K hK => ?_⟩
      have te96 : a_.tmps[96]? = some (.agg #[.slice B1 x1.length e1, .slice B2 x2.length e2]) := by rw [ha]; exact putSel_on (e := (1, 96, .agg #[.slice B1 x1.length e1, .slice B2 x2.length e2])) 1 rfl rfl (hon 1 (by kernel_rfl)) (by simp only [Nat.ble_eq]; omega)
      have te98 : a_.tmps[98]? = some (.agg #[.slice B3 x3.length e3, .slice B4 x4.length e4]) := by rw [ha]; exact putSel_on (e := (3, 98, .agg #[.slice B3 x3.length e3, .slice B4 x4.length e4])) 3 rfl rfl (hon 3 (by kernel_rfl)) (by simp only [Nat.ble_eq]; omega)
      replace ha := Aside0.mk ha
      have f1 := Q1 (hon 1 (by kernel_rfl)) hb_
      have f3 := Q3 (hon 3 (by kernel_rfl)) hb_
      refine goes_ Try.func12 (by kernel_rfl) rfl #[.agg #[.slice B1 x1.length e1, .slice B2 x2.length e2], .agg #[.slice B3 x3.length e3, .slice B4 x4.length e4]] (by rfl) rfl rfl (by first | (simp only [List.map_toArray, List.map_cons, List.map_nil, Act.eval, Array.getD_eq_getD_getElem?, Option.getD_some, te96, te98]; done) | (simp only [List.map_toArray, List.map_cons, List.map_nil, Act.eval, Array.getD_eq_getD_getElem?, Option.getD_some, te96, te98]; rfl)) ?_
      with_reducible refine (impl_JoinTwo.calls k5 _ _ x1 _ _ x2 _ _ x3 _ _ x4 y1 y2 y3 _ ?s1 ?s2 ?s3 ?s4 ?s5 ?s6 ?s7 ?s8 H5).mono ?_
      (case s1 => exact f1.1)
      (case s2 => exact f1.2.1)
      (case s3 => exact f1.2.2.1)
      (case s4 => exact f1.2.2.2)
      (case s5 => exact f3.1)
      (case s6 => exact f3.2.1)
      (case s7 => exact f3.2.2.1)
      (case s8 => exact f3.2.2.2)
      rintro e w2 ⟨v0, v1, rfl, ho0, ho1, hb⟩
      refine ⟨_, rfl, ?_⟩
      have o0_ := Iv.Ob.of_Rint (q := fun _ => True) ho0 (fun _ _ => trivial)
      replace ho1 := Iv.Ob.of_S ho1 (fun _ h_ => h_)
      obtain ⟨Bn2, en2, rfl⟩ := Iv.Ob.slice ho1
      obtain ⟨Bn1, en1, rfl⟩ := Iv.Ob.slice o0_
      exact hK.out _ _ ⟨rfl, B1, B2, B3, B4, Bn1, Bn2, e1, e2, e3, e4, en1, en2, gb, w'.heap.size, w2.heap.size, m27, m33, m34, m7, (by rw [ha.out]; exact putSel_upk 4 hb_ rfl rfl rfl), below_step QB hb, fun _ h0_ => absurd h0_ (by rw [up_self]; decide), fun _ h0_ => absurd h0_ (by rw [up_self]; decide), fun _ => ⟨o0_, ho1, QB.size, Nat.le_refl _⟩, fun _ x_ => Or.inl (blk_lt (QZ x_ (hoff 9 (by kernel_rfl)))), QL, fun x_ y_ => blk_below (QZ x_ y_) hb, fun h0_ => absurd ((hoff 9 (by kernel_rfl)).symm.trans h0_) (by decide), fun h0_ => absurd ((hoff 5 (by kernel_rfl)).symm.trans h0_) (by decide), fun h0_ => absurd ((hoff 6 (by kernel_rfl)).symm.trans h0_) (by decide), fun h0_ => absurd ((hoff 7 (by kernel_rfl)).symm.trans h0_) (by decide), fun h0_ => absurd ((hoff 10 (by kernel_rfl)).symm.trans h0_) (by decide)⟩
    refine steps_cons ?_ ?_
    · rintro b a_ w' ⟨_, B1, B2, B3, B4, B5, B6, e1, e2, e3, e4, e5, e6, gb, lo, hi, m27, m33, m34, m7, ha, QB, Q1, Q3, Q4, QG, QL, QZ, QW, Q5, Q6, Q7, Q10⟩ hb_ hon hoff
      refine ⟨_, rfl, fun K hK => ?_⟩
      have te99 : a_.tmps[99]? = some (.tuple #[.agg #[.slice B5 y1.length e5, .slice B6 y2.length e6], .bool y3]) := by rw [ha]; exact putSel_on (e := (4, 99, .tuple #[.agg #[.slice B5 y1.length e5, .slice B6 y2.length e6], .bool y3])) 4 rfl rfl (hon 4 (by kernel_rfl)) (by simp only [Nat.ble_eq]; omega)
      replace ha := Aside0.mk ha
      refine value_ (w1 := w') (v := .tuple #[.agg #[.slice B5 y1.length e5, .slice B6 y2.length e6], .bool y3]) (by rfl) rfl ?_ ?_
      · go_simp
        (try simp only [i64_w])
        try rfl
      exact hK.out _ _ ⟨rfl, B1, B2, B3, B4, B5, B6, e1, e2, e3, e4, e5, e6, gb, lo, hi, (.tuple #[.agg #[.slice B5 y1.length e5, .slice B6 y2.length e6], .bool y3]), m33, m34, m7, (by rw [ha.out]; exact putSel_upk 5 hb_ rfl rfl rfl), QB, Q1, Q3, Q4, QG, QL, QZ, QW, fun _ => rfl, fun h0_ => absurd ((hoff 6 (by kernel_rfl)).symm.trans h0_) (by decide), fun h0_ => absurd ((hoff 7 (by kernel_rfl)).symm.trans h0_) (by decide), fun h0_ => absurd ((hoff 10 (by kernel_rfl)).symm.trans h0_) (by decide)⟩
    refine steps_cons ?_ ?_
    · rintro b a_ w' ⟨_, B1, B2, B3, B4, B5, B6, e1, e2, e3, e4, e5, e6, gb, lo, hi, m27, m33, m34, m7, ha, QB, Q1, Q3, Q4, QG, QL, QZ, QW, Q5, Q6, Q7, Q10⟩ hb_ hon hoff
      refine ⟨_, rfl, fun K hK => ?_⟩
      have q5_ := Q5 (hon 5 (by kernel_rfl))
      subst q5_
      have te94 : a_.tmps[94]? = some (.tuple #[.agg #[.slice B5 y1.length e5, .slice B6 y2.length e6], .bool y3]) := by rw [ha]; exact putSel_on (e := (5, 94, .tuple #[.agg #[.slice B5 y1.length e5, .slice B6 y2.length e6], .bool y3])) 5 rfl rfl (hon 5 (by kernel_rfl)) (by simp only [Nat.ble_eq]; omega)
      replace ha := Aside0.mk ha
      refine value_ (w1 := w') (v := .agg #[.slice B5 y1.length e5, .slice B6 y2.length e6]) (by rfl) rfl ?_ ?_
      · go_simp
        (try simp only [i64_w])
        try rfl
      exact hK.out _ _ ⟨rfl, B1, B2, B3, B4, B5, B6, e1, e2, e3, e4, e5, e6, gb, lo, hi, _, (.agg #[.slice B5 y1.length e5, .slice B6 y2.length e6]), m34, m7, (by rw [ha.out]; exact putSel_upk 6 hb_ rfl rfl rfl), QB, Q1, Q3, Q4, QG, QL, QZ, QW, Q5, fun _ => rfl, Q7, Q10⟩
    refine steps_cons ?_ ?_
    · rintro b a_ w' ⟨_, B1, B2, B3, B4, B5, B6, e1, e2, e3, e4, e5, e6, gb, lo, hi, m27, m33, m34, m7, ha, QB, Q1, Q3, Q4, QG, QL, QZ, QW, Q5, Q6, Q7, Q10⟩ hb_ hon hoff
      refine ⟨_, rfl, fun K hK => ?_⟩
      have q5_ := Q5 (hon 5 (by kernel_rfl))
      subst q5_
      have te94 : a_.tmps[94]? = some (.tuple #[.agg #[.slice B5 y1.length e5, .slice B6 y2.length e6], .bool y3]) := by rw [ha]; exact putSel_on (e := (5, 94, .tuple #[.agg #[.slice B5 y1.length e5, .slice B6 y2.length e6], .bool y3])) 5 rfl rfl (hon 5 (by kernel_rfl)) (by simp only [Nat.ble_eq]; omega)
      replace ha := Aside0.mk ha
      refine value_ (w1 := w') (v := .bool y3) (by rfl) rfl ?_ ?_
      · go_simp
        (try simp only [i64_w])
        try rfl
      exact hK.out _ _ ⟨rfl, B1, B2, B3, B4, B5, B6, e1, e2, e3, e4, e5, e6, gb, lo, hi, _, m33, (.bool y3), m7, (by rw [ha.out]; exact putSel_upk 7 hb_ rfl rfl rfl), QB, Q1, Q3, Q4, QG, QL, QZ, QW, Q5, Q6, fun _ => rfl, fun h0_ => absurd ((hoff 10 (by kernel_rfl)).symm.trans h0_) (by decide)⟩
    refine steps_cons ?_ ?_
    · rintro b a_ w' ⟨_, B1, B2, B3, B4, B5, B6, e1, e2, e3, e4, e5, e6, gb, lo, hi, m27, m33, m34, m7, ha, QB, Q1, Q3, Q4, QG, QL, QZ, QW, Q5, Q6, Q7, Q10⟩ hb_ hon hoff
      refine ⟨_, rfl, fun K hK => ?_⟩
      replace ha := Aside0.mk ha
      have hal_ := below_alloc (Below.refl (World.heap w').size w') (.cells #[.slice none 0 0, .slice none 0 0] 27)
      have hu27 := Try.underlying27
      refine value_ (w1 := (w'.alloc (.cells #[.slice none 0 0, .slice none 0 0] 27))) (v := .pointer (some ⟨w'.heap.size, 0, none⟩)) (by rfl) rfl ?_ ?_
      · go_simp
        (try simp only [i64_w])
        try rfl
      exact hK.out _ _ ⟨rfl, B1, B2, B3, B4, B5, B6, e1, e2, e3, e4, e5, e6, w'.heap.size, lo, hi, m27, m33, m34, m7, (by rw [ha.out]; exact putSel_upk 8 hb_ rfl rfl rfl), below_alloc QB _, fun x_ y_ => have h_ := Q1 x_ y_; ⟨Kd.C_below h_.1 hal_, h_.2.1, Kd.C_below h_.2.2.1 hal_, h_.2.2.2⟩, fun x_ y_ => have h_ := Q3 x_ y_; ⟨Kd.C_below h_.1 hal_, h_.2.1, Kd.C_below h_.2.2.1 hal_, h_.2.2.2⟩, fun x_ => have h_ := Q4 x_; ⟨h_.1.below hal_, h_.2.1.below hal_, h_.2.2.1, Nat.le_trans h_.2.2.2 hal_.size⟩, fun x_ _ => Or.inr (Q4 x_).2.2.2, fun _ => QB.size, fun _ _ => blk_new w' (.cells #[.slice none 0 0, .slice none 0 0] 27), fun h0_ => absurd ((hoff 9 (by kernel_rfl)).symm.trans h0_) (by decide), Q5, Q6, Q7, Q10⟩
    refine steps_cons ?_ ?_
    · rintro b a_ w' ⟨_, B1, B2, B3, B4, B5, B6, e1, e2, e3, e4, e5, e6, gb, lo, hi, m27, m33, m34, m7, ha, QB, Q1, Q3, Q4, QG, QL, QZ, QW, Q5, Q6, Q7, Q10⟩ hb_ hon hoff
      refine ⟨_, rfl, fun K hK => ?_⟩
      have q6_ := Q6 (hon 6 (by kernel_rfl))
      subst q6_
      have te100 : a_.tmps[100]? = some (.agg #[.slice B5 y1.length e5, .slice B6 y2.length e6]) := by rw [ha]; exact putSel_on (e := (6, 100, .agg #[.slice B5 y1.length e5, .slice B6 y2.length e6])) 6 rfl rfl (hon 6 (by kernel_rfl)) (by simp only [Nat.ble_eq]; omega)
      have te15 : a_.tmps[15]? = some (.pointer (some ⟨gb, 0, none⟩)) := by rw [ha]; exact putSel_on (e := (8, 15, .pointer (some ⟨gb, 0, none⟩))) 8 rfl rfl (hon 8 (by kernel_rfl)) (by simp only [Nat.ble_eq]; omega)
      replace ha := Aside0.mk ha
      have hu27 := Try.underlying27
      have z_ := QZ (hon 8 (by kernel_rfl)) hb_
      have g4 := Q4 (hon 4 (by kernel_rfl))
      have gg := QG (hon 4 (by kernel_rfl)) (hon 8 (by kernel_rfl))
      have gl := QL (hon 8 (by kernel_rfl))
      have hk0_ := Kept.setCell (p := ⟨gb, 1, none⟩) (Kept.setCell (p := ⟨gb, 0, none⟩) (Kept.refl w' (fun k => gb ≤ k ∧ k < gb + 1)) (Or.inl ⟨Nat.le_refl _, Nat.lt_succ_self _⟩) (.slice B5 y1.length e5)) (Or.inl ⟨Nat.le_refl _, Nat.lt_succ_self _⟩) (.slice B6 y2.length e6)
      have z0_ : w'.cell? ⟨gb, 0, none⟩ = some (.slice none 0 0) := (blk_cell z_ 0).trans rfl
      have z1_ : w'.cell? ⟨gb, 1, none⟩ = some (.slice none 0 0) := (blk_cell z_ 1).trans rfl
      have hfz0 := blk_frozen z_ 0
      have hfz1 := blk_frozen z_ 1
      refine skip_ (w1 := ((w'.setCell ⟨gb, 0, none⟩ (.slice B5 y1.length e5)).setCell ⟨gb, 1, none⟩ (.slice B6 y2.length e6))) (by rfl) rfl ?_ ?_
      · go_simp
        (try simp only [i64_w])
        try rfl
      refine hK.out _ _ ⟨rfl, B1, B2, B3, B4, B5, B6, e1, e2, e3, e4, e5, e6, gb, lo, hi, m27, _, m34, m7, (by rw [ha.out]; exact (putSel_same rfl).symm), (below_set (below_set QB gl) gl), (fun _ h0_ => absurd ((hon 4 (by kernel_rfl)).symm.trans h0_) (by decide)), (fun _ h0_ => absurd ((hon 4 (by kernel_rfl)).symm.trans h0_) (by decide)), (fun _ => ⟨g4.1.kept hk0_ (by omega), g4.2.1.kept hk0_ (by omega), g4.2.2.1, Nat.le_trans g4.2.2.2 hk0_.1⟩), fun _ _ => gg, QL, (fun _ h0_ => absurd h0_ (by rw [up_self]; decide)), (fun _ => blk_set (blk_set z_ 0 _) 1 _), Q5, Q6, Q7, fun h0_ => absurd ((hoff 10 (by kernel_rfl)).symm.trans h0_) (by decide)⟩
    refine steps_cons ?_ ?_
    · rintro b a_ w' ⟨_, B1, B2, B3, B4, B5, B6, e1, e2, e3, e4, e5, e6, gb, lo, hi, m27, m33, m34, m7, ha, QB, Q1, Q3, Q4, QG, QL, QZ, QW, Q5, Q6, Q7, Q10⟩ hb_ hon hoff
      refine ⟨_, rfl, fun K hK => ?_⟩
      have q7_ := Q7 (hon 7 (by kernel_rfl))
      subst q7_
      have te101 : a_.tmps[101]? = some (.bool y3) := by rw [ha]; exact putSel_on (e := (7, 101, .bool y3)) 7 rfl rfl (hon 7 (by kernel_rfl)) (by simp only [Nat.ble_eq]; omega)
      replace ha := Aside0.mk ha
      refine value_ (w1 := w') (v := .bool y3) (by rfl) rfl ?_ ?_
      · go_simp
        (try simp only [i64_w])
        try rfl
      exact hK.out _ _ ⟨rfl, B1, B2, B3, B4, B5, B6, e1, e2, e3, e4, e5, e6, gb, lo, hi, m27, m33, _, (.bool y3), (by rw [ha.out]; exact putSel_upk 9 hb_ rfl rfl rfl), QB, Q1, Q3, Q4, QG, QL, QZ, QW, Q5, Q6, Q7, fun _ => rfl⟩
    exact steps_nil
  rintro b a_ w' hall ⟨_, B1, B2, B3, B4, B5, B6, e1, e2, e3, e4, e5, e6, gb, lo, hi, m27, m33, m34, m7, ha, QB, Q1, Q3, Q4, QG, QL, QZ, QW, Q5, Q6, Q7, Q10⟩
  have hb0_ := hall 0 (by kernel_rfl)
  have hb1_ := hall 1 (by kernel_rfl)
  have hb2_ := hall 2 (by kernel_rfl)
  have hb3_ := hall 3 (by kernel_rfl)
  have hb4_ := hall 4 (by kernel_rfl)
  have hb5_ := hall 5 (by kernel_rfl)
  have hb6_ := hall 6 (by kernel_rfl)
  have hb7_ := hall 7 (by kernel_rfl)
  have hb8_ := hall 8 (by kernel_rfl)
  have hb9_ := hall 9 (by kernel_rfl)
  have hb10_ := hall 10 (by kernel_rfl)
  subst ha
  obtain rfl := (Q5 hb5_).symm
  obtain rfl := (Q6 hb6_).symm
  obtain rfl := (Q7 hb7_).symm
  obtain rfl := (Q10 hb10_).symm
  have g4 := Q4 hb4_
  have hf := h w' B1 B2 B3 B4 B5 B6 e1 e2 e3 e4 e5 e6 gb lo hi QB g4.1 g4.2.1 g4.2.2.1 g4.2.2.2 (QG hb4_ hb8_) (QL hb8_) (QW hb9_)
  simp only [putSel, hb0_, hb1_, hb2_, hb3_, hb4_, hb5_, hb6_, hb7_, hb8_, hb10_, if_true] at hf ⊢
  exact hf
end Go.Proofs.Ytmimoaecdjkciaa.J
