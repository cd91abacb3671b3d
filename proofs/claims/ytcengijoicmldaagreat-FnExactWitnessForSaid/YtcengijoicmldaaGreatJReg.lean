/- The law WitnessFor's two regions of open order. Written by witreg.py. Conditions: the equations of the callees, the operands' rows and boxes. -/
import Derived.Test.YtcengijoicmldaaGreatPr6
import Derived.Test.YtcengijoicmldaaGreatPr7
import Derived.Test.YtcengijoicmldaaGreatPr9
import Derived.Test.YtcengijoicmldaaGreatIv
namespace Go.Proofs.YtcengijoicmldaaGreat.J
open Go.RowKit Go.Proofs.YtcengijoicmldaaGreat Go.Proofs.YtcengijoicmldaaGreat.Pr Go.Proofs.YtcengijoicmldaaGreatW.PrintWords Go.Proofs.YtcengijoicmldaaGreatW.PrintLast Go.Proofs.YtcengijoicmldaaGreatW.PrintMore
set_option linter.unusedVariables false
set_option linter.unusedSimpArgs false
set_option maxRecDepth 100000
def J.T8 : Bool × List (List Nat × List Nat) := (true, [([], []), ([], []), ([1], [1]), ([], []), ([3, 2], [3]), ([0, 2, 4, 4], [0, 2, 4]), ([5], [5]), ([6], [6]), ([6], [6]), ([], []), ([9, 7, 5, 0, 1, 2, 3, 4, 5, 6, 7, 9], [7, 9]), ([8, 10, 0, 1, 2, 3, 4, 5, 6, 7, 8, 9, 10], [8])])
theorem J.tab8 : rtab .any (opsOf Tryz.f3 8) = J.T8 := by kernel_rfl
theorem J.bits8 : waitsOk J.T8.2 [0, 0, 2, 0, 14, 31, 63, 127, 127, 0, 767, 2047] = true := by kernel_rfl
set_option maxHeartbeats 4000000 in
theorem reg8 {Q : Exit → Act → World → Prop} (a : Act) (w : World) (n5 : Nat) (a0 : Int) (A1 A3 A4 : Option Addr) (c1 c3 c4 : Nat) (l1 : List S25) (x1 : List S35) (l3 l4 x3 x4 y1 : List Int) (y2 : List (List Int)) (y3 : Bool) (k1 k3 k5 : Nat)
    (hsz : 38 ≤ a.tmps.size) (ha0 : a.tmps[0]? = some (.int .i64 a0)) (ha1 : a.tmps[1]? = some (.slice A1 l1.length c1)) (ha5 : a.tmps[5]? = some (.pointer (some ⟨n5, 0, none⟩)))
    (h30 : w.cell? ⟨n5, 0, none⟩ = some (.slice A3 l3.length c3)) (h31 : w.cell? ⟨n5, 1, none⟩ = some (.slice A4 l4.length c4))
    (hC1 : Kd.C k25 w A1 l1.length l1) (hc1 : l1.length ≤ c1) (hC3 : Kd.C (Kd.int .i64) w A3 l3.length l3) (hc3 : l3.length ≤ c3) (hC4 : Kd.C (Kd.int .i64) w A4 l4.length l4) (hc4 : l4.length ≤ c4)
    (H1 : laws_toDepS.f k1 l1 = some x1) (H3 : laws_toDep.f k3 l3 l4 = some (x3, x4)) (H5 : spec_WitnessFor.f k5 a0 x1 x3 x4 = some (y1, y2, y3))
    (h : ∀ (w' : World) (B1 B3 B4 B5 B6 : Option Addr) (e1 e3 e4 e5 e6 gb lo hi : Nat), Below w.heap.size w w' → (Iv.Ob (Kd.int .i64) 3 w' lo hi (fun _ => True) (.slice B5 y1.length e5) y1) → (Kd.V (Kd.slice 3 (Kd.int .i64)) 23 w' lo (fun k_ => lo ≤ k_ ∧ k_ < hi) (.slice B6 y2.length e6) y2) → w.heap.size ≤ lo → hi ≤ w'.heap.size → (gb < lo ∨ hi ≤ gb) → w.heap.size ≤ gb → w'.heap[gb]? = some (.cells #[.slice B5 y1.length e5, .slice B6 y2.length e6] 30 (0, 0)) → Q .normal (putSel a (fun _ => true) [(0, 30, .int .i64 a0), (1, 31, .slice A1 l1.length c1), (2, 32, .slice B1 x1.length e1), (3, 33, .agg #[.slice A3 l3.length c3, .slice A4 l4.length c4]), (4, 34, .agg #[.slice B3 x3.length e3, .slice B4 x4.length e4]), (5, 35, .tuple #[.agg #[.slice B5 y1.length e5, .slice B6 y2.length e6], .bool y3]), (6, 29, .tuple #[.agg #[.slice B5 y1.length e5, .slice B6 y2.length e6], .bool y3]), (7, 36, .agg #[.slice B5 y1.length e5, .slice B6 y2.length e6]), (8, 37, .bool y3), (9, 8, .pointer (some ⟨gb, 0, none⟩)), (11, 9, .bool y3)]) w') :
    (Code.region 8 #[{ dst := some 30, op := Go.Op.move (Go.Operand.tmp 0), type := 3, pos := "exact.go:4977", after := #[], guard := none }, { dst := some 31, op := Go.Op.move (Go.Operand.tmp 1), type := 22, pos := "exact.go:4977", after := #[], guard := none }, { dst := some 32, op := Go.Op.call { callee := Go.Callee.value (Go.Operand.func 7), args := #[Go.Operand.tmp 31], argTypes := #[22] }, type := 33, pos := "exact.go:4977", after := #[{ on := 1, ground := Go.Ground.data }], guard := none }, { dst := some 33, op := Go.Op.load 25 (Go.Operand.tmp 5), type := 25, pos := "exact.go:4977", after := #[], guard := none }, { dst := some 34, op := Go.Op.call { callee := Go.Callee.value (Go.Operand.func 8), args := #[Go.Operand.tmp 33], argTypes := #[25] }, type := 35, pos := "exact.go:4977", after := #[{ on := 3, ground := Go.Ground.data }, { on := 2, ground := Go.Ground.chain }], guard := none }, { dst := some 35, op := Go.Op.call { callee := Go.Callee.value (Go.Operand.func 6), args := #[Go.Operand.tmp 30, Go.Operand.tmp 32, Go.Operand.tmp 34], argTypes := #[3, 33, 35] }, type := 31, pos := "exact.go:4977", after := #[{ on := 0, ground := Go.Ground.data }, { on := 2, ground := Go.Ground.data }, { on := 4, ground := Go.Ground.data }, { on := 4, ground := Go.Ground.chain }], guard := none }, { dst := some 29, op := Go.Op.move (Go.Operand.tmp 35), type := 31, pos := "exact.go:4977", after := #[{ on := 5, ground := Go.Ground.data }], guard := none }, { dst := some 36, op := Go.Op.extract (Go.Operand.tmp 29) 0, type := 30, pos := "exact.go:4977", after := #[{ on := 6, ground := Go.Ground.data }], guard := none }, { dst := some 37, op := Go.Op.extract (Go.Operand.tmp 29) 1, type := 4, pos := "exact.go:4977", after := #[{ on := 6, ground := Go.Ground.data }, { on := 10, ground := Go.Ground.gcOnly Go.Departure.lateStores }], guard := none }, { dst := some 8, op := Go.Op.alloc 30, type := 0, pos := "exact.go:4977", after := #[], guard := none }, { dst := none, op := Go.Op.store 30 (Go.Operand.tmp 8) (Go.Operand.tmp 36), type := 0, pos := "exact.go:4977", after := #[{ on := 9, ground := Go.Ground.data }, { on := 7, ground := Go.Ground.data }, { on := 5, ground := Go.Ground.chain }, { on := 0, ground := Go.Ground.phase }, { on := 1, ground := Go.Ground.phase }, { on := 2, ground := Go.Ground.phase }, { on := 3, ground := Go.Ground.phase }, { on := 4, ground := Go.Ground.phase }, { on := 5, ground := Go.Ground.phase }, { on := 6, ground := Go.Ground.phase }, { on := 7, ground := Go.Ground.phase }, { on := 8, ground := Go.Ground.textOnly Go.Departure.lateStores }, { on := 9, ground := Go.Ground.phase }], guard := none }, { dst := some 9, op := Go.Op.assign (Go.Operand.tmp 37), type := 4, pos := "exact.go:4977", after := #[{ on := 8, ground := Go.Ground.data }, { on := 10, ground := Go.Ground.chain }, { on := 0, ground := Go.Ground.phase }, { on := 1, ground := Go.Ground.phase }, { on := 2, ground := Go.Ground.phase }, { on := 3, ground := Go.Ground.phase }, { on := 4, ground := Go.Ground.phase }, { on := 5, ground := Go.Ground.phase }, { on := 6, ground := Go.Ground.phase }, { on := 7, ground := Go.Ground.phase }, { on := 8, ground := Go.Ground.phase }, { on := 9, ground := Go.Ground.phase }, { on := 10, ground := Go.Ground.phase }], guard := none }] true).wp Tryz.prog Q a w := by
  refine Bx.start_any (n := 12) (S := fun _ => True) (ds := []) #[false, false, false, false, false, false, false, false, false, false, false, false] (by kernel_rfl) rfl rfl trivial (fun ws hb0 _ => ?_)
  refine with_tabW J.tab8 J.bits8 (fun HT_ HW_ => ?_)
  refine inv_at [0, 1, 2, 3, 4, 5, 6, 7, 8, 9, 10, 11] (fun a0_ b a w' => a0_.tmps = a0_.tmps ∧ ∃ (B1 B3 B4 B5 B6 : Option Addr) (e1 e3 e4 e5 e6 gb lo hi : Nat) (m27 m33 m34 m7 : Value), a = putSel a0_ b [(0, 30, .int .i64 a0), (1, 31, .slice A1 l1.length c1), (2, 32, .slice B1 x1.length e1), (3, 33, .agg #[.slice A3 l3.length c3, .slice A4 l4.length c4]), (4, 34, .agg #[.slice B3 x3.length e3, .slice B4 x4.length e4]), (5, 35, .tuple #[.agg #[.slice B5 y1.length e5, .slice B6 y2.length e6], .bool y3]), (6, 29, m27), (7, 36, m33), (8, 37, m34), (9, 8, .pointer (some ⟨gb, 0, none⟩)), (11, 9, m7)] ∧ Below w.heap.size w w' ∧ (b 2 = true → b 5 = false → (Kd.C k35 w' B1 x1.length x1 ∧ x1.length ≤ e1)) ∧ (b 4 = true → b 5 = false → (Kd.C (Kd.int .i64) w' B3 x3.length x3 ∧ x3.length ≤ e3 ∧ Kd.C (Kd.int .i64) w' B4 x4.length x4 ∧ x4.length ≤ e4)) ∧ (b 5 = true → (Iv.Ob (Kd.int .i64) 3 w' lo hi (fun _ => True) (.slice B5 y1.length e5) y1) ∧ (Kd.V (Kd.slice 3 (Kd.int .i64)) 23 w' lo (fun k_ => lo ≤ k_ ∧ k_ < hi) (.slice B6 y2.length e6) y2) ∧ w.heap.size ≤ lo ∧ hi ≤ w'.heap.size) ∧ (b 5 = true → b 9 = true → gb < lo ∨ hi ≤ gb) ∧ (b 9 = true → w.heap.size ≤ gb) ∧ (b 9 = true → b 10 = false → w'.heap[gb]? = some (.cells #[.slice none 0 0, .slice none 0 0] 30 (0, 0))) ∧ (b 10 = true → w'.heap[gb]? = some (.cells #[.slice B5 y1.length e5, .slice B6 y2.length e6] 30 (0, 0))) ∧ (b 6 = true → m27 = .tuple #[.agg #[.slice B5 y1.length e5, .slice B6 y2.length e6], .bool y3]) ∧ (b 7 = true → m33 = .agg #[.slice B5 y1.length e5, .slice B6 y2.length e6]) ∧ (b 8 = true → m34 = .bool y3) ∧ (b 11 = true → m7 = .bool y3)) HT_.out HW_.out (by kernel_rfl) (by kernel_rfl) ?_ ?_ ?_
  · exact ⟨rfl, none, none, none, none, none, 0, 0, 0, 0, 0, 0, 0, 0, .bool false, .bool false, .bool false, .bool false, by simp only [putSel, Bool.false_eq_true, if_false], hb0, (fun x_ _ => absurd x_ (by decide)), (fun x_ _ => absurd x_ (by decide)), (fun x_ => absurd x_ (by decide)), (fun x_ _ => absurd x_ (by decide)), (fun x_ => absurd x_ (by decide)), (fun x_ _ => absurd x_ (by decide)), (fun x_ => absurd x_ (by decide)), (fun x_ => absurd x_ (by decide)), (fun x_ => absurd x_ (by decide)), (fun x_ => absurd x_ (by decide)), (fun x_ => absurd x_ (by decide))⟩
  · skip
    refine steps_cons ?_ ?_
    · rintro b a_ w' ⟨_, B1, B3, B4, B5, B6, e1, e3, e4, e5, e6, gb, lo, hi, m27, m33, m34, m7, ha, QB, Q2, Q4, Q5, QG, QL, QZ, QW, Q6, Q7, Q8, Q11⟩ hb_ hon hoff
      refine ⟨_, rfl, fun K hK => ?_⟩
      have te0 : a_.tmps[0]? = some (.int .i64 a0) := by rw [ha]; exact (putSel_off rfl).trans ha0
      replace ha := Aside0.mk ha
      refine value_ (w1 := w') (v := .int .i64 a0) (by rfl) rfl ?_ ?_
      · go_simp
        (try simp only [i64_w])
        try rfl
      exact hK.out _ _ ⟨rfl, B1, B3, B4, B5, B6, e1, e3, e4, e5, e6, gb, lo, hi, m27, m33, m34, m7, (by rw [ha.out]; exact putSel_upk 0 hb_ rfl rfl rfl), QB, Q2, Q4, Q5, QG, QL, QZ, QW, Q6, Q7, Q8, Q11⟩
    refine steps_cons ?_ ?_
    · rintro b a_ w' ⟨_, B1, B3, B4, B5, B6, e1, e3, e4, e5, e6, gb, lo, hi, m27, m33, m34, m7, ha, QB, Q2, Q4, Q5, QG, QL, QZ, QW, Q6, Q7, Q8, Q11⟩ hb_ hon hoff
      refine ⟨_, rfl, fun K hK => ?_⟩
      have te1 : a_.tmps[1]? = some (.slice A1 l1.length c1) := by rw [ha]; exact (putSel_off rfl).trans ha1
      replace ha := Aside0.mk ha
      refine value_ (w1 := w') (v := .slice A1 l1.length c1) (by rfl) rfl ?_ ?_
      · go_simp
        (try simp only [i64_w])
        try rfl
      exact hK.out _ _ ⟨rfl, B1, B3, B4, B5, B6, e1, e3, e4, e5, e6, gb, lo, hi, m27, m33, m34, m7, (by rw [ha.out]; exact putSel_upk 1 hb_ rfl rfl rfl), QB, Q2, Q4, Q5, QG, QL, QZ, QW, Q6, Q7, Q8, Q11⟩
    refine steps_cons ?_ ?_
    · rintro b a_ w' ⟨_, B1, B3, B4, B5, B6, e1, e3, e4, e5, e6, gb, lo, hi, m27, m33, m34, m7, ha, QB, Q2, Q4, Q5, QG, QL, QZ, QW, Q6, Q7, Q8, Q11⟩ hb_ hon hoff
      refine ⟨_, rfl, fun K hK => ?_⟩
      have te31 : a_.tmps[31]? = some (.slice A1 l1.length c1) := by rw [ha]; exact putSel_on (e := (1, 31, .slice A1 l1.length c1)) 1 rfl rfl (hon 1 (by kernel_rfl)) (by simp only [Nat.ble_eq]; omega)
      replace ha := Aside0.mk ha
      refine goes_ Tryz.func7 (by kernel_rfl) rfl #[.slice A1 l1.length c1] (by rfl) rfl rfl (by first | (simp only [List.map_toArray, List.map_cons, List.map_nil, Act.eval, Array.getD_eq_getD_getElem?, Option.getD_some, te31]; done) | (simp only [List.map_toArray, List.map_cons, List.map_nil, Act.eval, Array.getD_eq_getD_getElem?, Option.getD_some, te31]; rfl)) ?_
      with_reducible refine (laws_toDepS.calls k1 _ _ l1 x1 _ ?s1 ?s2 H1).mono ?_
      (case s1 => exact Kd.C_below hC1 QB)
      (case s2 => exact hc1)
      rintro e w2 ⟨v0, rfl, ho0, hb⟩
      refine ⟨_, rfl, ?_⟩
      have o0_ := Iv.Ob.of_S (q := fun _ => True) ho0 (fun _ _ => trivial)
      obtain ⟨Bn1, en1, rfl⟩ := Iv.Ob.slice o0_
      exact hK.out _ _ ⟨rfl, Bn1, B3, B4, B5, B6, en1, e3, e4, e5, e6, gb, lo, hi, m27, m33, m34, m7, (by rw [ha.out]; exact putSel_upk 2 hb_ rfl rfl rfl), below_step QB hb, fun _ _ => ⟨o0_.C, o0_.le⟩, fun h0_ => absurd ((hoff 4 (by kernel_rfl)).symm.trans h0_) (by decide), fun h0_ => absurd ((hoff 5 (by kernel_rfl)).symm.trans h0_) (by decide), fun h0_ => absurd ((hoff 5 (by kernel_rfl)).symm.trans h0_) (by decide), QL, fun x_ y_ => blk_below (QZ x_ y_) hb, fun h0_ => absurd ((hoff 10 (by kernel_rfl)).symm.trans h0_) (by decide), Q6, Q7, Q8, Q11⟩
    refine steps_cons ?_ ?_
    · rintro b a_ w' ⟨_, B1, B3, B4, B5, B6, e1, e3, e4, e5, e6, gb, lo, hi, m27, m33, m34, m7, ha, QB, Q2, Q4, Q5, QG, QL, QZ, QW, Q6, Q7, Q8, Q11⟩ hb_ hon hoff
      refine ⟨_, rfl, fun K hK => ?_⟩
      have te5 : a_.tmps[5]? = some (.pointer (some ⟨n5, 0, none⟩)) := by rw [ha]; exact (putSel_off rfl).trans ha5
      replace ha := Aside0.mk ha
      have hc0_ := Bx.box_later h30 QB
      have hc1_ := Bx.box_later h31 QB
      refine value_ (w1 := w') (v := .agg #[.slice A3 l3.length c3, .slice A4 l4.length c4]) (by rfl) rfl ?_ ?_
      · go_simp
        (try simp only [i64_w])
        try rfl
      exact hK.out _ _ ⟨rfl, B1, B3, B4, B5, B6, e1, e3, e4, e5, e6, gb, lo, hi, m27, m33, m34, m7, (by rw [ha.out]; exact putSel_upk 3 hb_ rfl rfl rfl), QB, Q2, Q4, Q5, QG, QL, QZ, QW, Q6, Q7, Q8, Q11⟩
    refine steps_cons ?_ ?_
    · rintro b a_ w' ⟨_, B1, B3, B4, B5, B6, e1, e3, e4, e5, e6, gb, lo, hi, m27, m33, m34, m7, ha, QB, Q2, Q4, Q5, QG, QL, QZ, QW, Q6, Q7, Q8, Q11⟩ hb_ hon hoff
      refine ⟨_, rfl, fun K hK => ?_⟩
      have te33 : a_.tmps[33]? = some (.agg #[.slice A3 l3.length c3, .slice A4 l4.length c4]) := by rw [ha]; exact putSel_on (e := (3, 33, .agg #[.slice A3 l3.length c3, .slice A4 l4.length c4])) 3 rfl rfl (hon 3 (by kernel_rfl)) (by simp only [Nat.ble_eq]; omega)
      replace ha := Aside0.mk ha
      refine goes_ Tryz.func8 (by kernel_rfl) rfl #[.agg #[.slice A3 l3.length c3, .slice A4 l4.length c4]] (by rfl) rfl rfl (by first | (simp only [List.map_toArray, List.map_cons, List.map_nil, Act.eval, Array.getD_eq_getD_getElem?, Option.getD_some, te33]; done) | (simp only [List.map_toArray, List.map_cons, List.map_nil, Act.eval, Array.getD_eq_getD_getElem?, Option.getD_some, te33]; rfl)) ?_
      with_reducible refine (laws_toDep.calls k3 _ _ l3 _ _ l4 x3 x4 _ ?s1 ?s2 ?s3 ?s4 H3).mono ?_
      (case s1 => exact Kd.C_below hC3 QB)
      (case s2 => exact hc3)
      (case s3 => exact Kd.C_below hC4 QB)
      (case s4 => exact hc4)
      rintro e w2 ⟨v0, v1, rfl, ho0, ho1, hb⟩
      refine ⟨_, rfl, ?_⟩
      have o0_ := Iv.Ob.of_Rint (q := fun _ => True) ho0 (fun _ _ => trivial)
      have o1_ := Iv.Ob.of_Rint (q := fun _ => True) ho1 (fun _ _ => trivial)
      obtain ⟨Bn1, en1, rfl⟩ := Iv.Ob.slice o0_
      obtain ⟨Bn2, en2, rfl⟩ := Iv.Ob.slice o1_
      exact hK.out _ _ ⟨rfl, B1, Bn1, Bn2, B5, B6, e1, en1, en2, e5, e6, gb, lo, hi, m27, m33, m34, m7, (by rw [ha.out]; exact putSel_upk 4 hb_ rfl rfl rfl), below_step QB hb, fun x_ y_ => have h_ := Q2 x_ y_; ⟨Kd.C_below h_.1 hb, h_.2⟩, fun _ _ => ⟨o0_.C, o0_.le, o1_.C, o1_.le⟩, fun h0_ => absurd ((hoff 5 (by kernel_rfl)).symm.trans h0_) (by decide), fun h0_ => absurd ((hoff 5 (by kernel_rfl)).symm.trans h0_) (by decide), QL, fun x_ y_ => blk_below (QZ x_ y_) hb, fun h0_ => absurd ((hoff 10 (by kernel_rfl)).symm.trans h0_) (by decide), Q6, Q7, Q8, Q11⟩
    refine steps_cons ?_ ?_
    · rintro b a_ w' ⟨_, B1, B3, B4, B5, B6, e1, e3, e4, e5, e6, gb, lo, hi, m27, m33, m34, m7, ha, QB, Q2, Q4, Q5, QG, QL, QZ, QW, Q6, Q7, Q8, Q11⟩ hb_ hon hoff
      refine ⟨_, rfl, fun K hK => ?_⟩
      have te30 : a_.tmps[30]? = some (.int .i64 a0) := by rw [ha]; exact putSel_on (e := (0, 30, .int .i64 a0)) 0 rfl rfl (hon 0 (by kernel_rfl)) (by simp only [Nat.ble_eq]; omega)
      have te32 : a_.tmps[32]? = some (.slice B1 x1.length e1) := by rw [ha]; exact putSel_on (e := (2, 32, .slice B1 x1.length e1)) 2 rfl rfl (hon 2 (by kernel_rfl)) (by simp only [Nat.ble_eq]; omega)
      have te34 : a_.tmps[34]? = some (.agg #[.slice B3 x3.length e3, .slice B4 x4.length e4]) := by rw [ha]; exact putSel_on (e := (4, 34, .agg #[.slice B3 x3.length e3, .slice B4 x4.length e4])) 4 rfl rfl (hon 4 (by kernel_rfl)) (by simp only [Nat.ble_eq]; omega)
      replace ha := Aside0.mk ha
      have f1 := Q2 (hon 2 (by kernel_rfl)) hb_
      have f3 := Q4 (hon 4 (by kernel_rfl)) hb_
      refine goes_ Tryz.func6 (by kernel_rfl) rfl #[.int .i64 a0, .slice B1 x1.length e1, .agg #[.slice B3 x3.length e3, .slice B4 x4.length e4]] (by rfl) rfl rfl (by first | (simp only [List.map_toArray, List.map_cons, List.map_nil, Act.eval, Array.getD_eq_getD_getElem?, Option.getD_some, te30, te32, te34]; done) | (simp only [List.map_toArray, List.map_cons, List.map_nil, Act.eval, Array.getD_eq_getD_getElem?, Option.getD_some, te30, te32, te34]; rfl)) ?_
      with_reducible refine (spec_WitnessFor.calls k5 a0 _ _ x1 _ _ x3 _ _ x4 y1 y2 y3 _ ?s1 ?s2 ?s3 ?s4 ?s5 ?s6 H5).mono ?_
      (case s1 => exact f1.1)
      (case s2 => exact f1.2)
      (case s3 => exact f3.1)
      (case s4 => exact f3.2.1)
      (case s5 => exact f3.2.2.1)
      (case s6 => exact f3.2.2.2)
      rintro e w2 ⟨v0, v1, rfl, ho0, ho1, hb⟩
      refine ⟨_, rfl, ?_⟩
      have o0_ := Iv.Ob.of_Rint (q := fun _ => True) ho0 (fun _ _ => trivial)
      have o1_ := Iv.ObV.of_V ho1
      obtain ⟨Bn2, en2, rfl⟩ := Iv.ObV.slice o1_
      replace ho1 := Kd.V_mono (ok' := fun k_ => w'.heap.size ≤ k_ ∧ k_ < w2.heap.size) (Kd.V_bound ho1) (fun k_ h_ => ⟨h_.1.1, h_.2⟩)
      obtain ⟨Bn1, en1, rfl⟩ := Iv.Ob.slice o0_
      exact hK.out _ _ ⟨rfl, B1, B3, B4, Bn1, Bn2, e1, e3, e4, en1, en2, gb, w'.heap.size, w2.heap.size, m27, m33, m34, m7, (by rw [ha.out]; exact putSel_upk 5 hb_ rfl rfl rfl), below_step QB hb, fun _ h0_ => absurd h0_ (by rw [up_self]; decide), fun _ h0_ => absurd h0_ (by rw [up_self]; decide), fun _ => ⟨o0_, ho1, QB.size, Nat.le_refl _⟩, fun _ x_ => Or.inl (blk_lt (QZ x_ (hoff 10 (by kernel_rfl)))), QL, fun x_ y_ => blk_below (QZ x_ y_) hb, fun h0_ => absurd ((hoff 10 (by kernel_rfl)).symm.trans h0_) (by decide), fun h0_ => absurd ((hoff 6 (by kernel_rfl)).symm.trans h0_) (by decide), fun h0_ => absurd ((hoff 7 (by kernel_rfl)).symm.trans h0_) (by decide), fun h0_ => absurd ((hoff 8 (by kernel_rfl)).symm.trans h0_) (by decide), fun h0_ => absurd ((hoff 11 (by kernel_rfl)).symm.trans h0_) (by decide)⟩
    refine steps_cons ?_ ?_
    · rintro b a_ w' ⟨_, B1, B3, B4, B5, B6, e1, e3, e4, e5, e6, gb, lo, hi, m27, m33, m34, m7, ha, QB, Q2, Q4, Q5, QG, QL, QZ, QW, Q6, Q7, Q8, Q11⟩ hb_ hon hoff
      refine ⟨_, rfl, fun K hK => ?_⟩
      have te35 : a_.tmps[35]? = some (.tuple #[.agg #[.slice B5 y1.length e5, .slice B6 y2.length e6], .bool y3]) := by rw [ha]; exact putSel_on (e := (5, 35, .tuple #[.agg #[.slice B5 y1.length e5, .slice B6 y2.length e6], .bool y3])) 5 rfl rfl (hon 5 (by kernel_rfl)) (by simp only [Nat.ble_eq]; omega)
      replace ha := Aside0.mk ha
      refine value_ (w1 := w') (v := .tuple #[.agg #[.slice B5 y1.length e5, .slice B6 y2.length e6], .bool y3]) (by rfl) rfl ?_ ?_
      · go_simp
        (try simp only [i64_w])
        try rfl
      exact hK.out _ _ ⟨rfl, B1, B3, B4, B5, B6, e1, e3, e4, e5, e6, gb, lo, hi, (.tuple #[.agg #[.slice B5 y1.length e5, .slice B6 y2.length e6], .bool y3]), m33, m34, m7, (by rw [ha.out]; exact putSel_upk 6 hb_ rfl rfl rfl), QB, Q2, Q4, Q5, QG, QL, QZ, QW, fun _ => rfl, fun h0_ => absurd ((hoff 7 (by kernel_rfl)).symm.trans h0_) (by decide), fun h0_ => absurd ((hoff 8 (by kernel_rfl)).symm.trans h0_) (by decide), fun h0_ => absurd ((hoff 11 (by kernel_rfl)).symm.trans h0_) (by decide)⟩
    refine steps_cons ?_ ?_
    · rintro b a_ w' ⟨_, B1, B3, B4, B5, B6, e1, e3, e4, e5, e6, gb, lo, hi, m27, m33, m34, m7, ha, QB, Q2, Q4, Q5, QG, QL, QZ, QW, Q6, Q7, Q8, Q11⟩ hb_ hon hoff
      refine ⟨_, rfl, fun K hK => ?_⟩
      have q5_ := Q6 (hon 6 (by kernel_rfl))
      subst q5_
      have te29 : a_.tmps[29]? = some (.tuple #[.agg #[.slice B5 y1.length e5, .slice B6 y2.length e6], .bool y3]) := by rw [ha]; exact putSel_on (e := (6, 29, .tuple #[.agg #[.slice B5 y1.length e5, .slice B6 y2.length e6], .bool y3])) 6 rfl rfl (hon 6 (by kernel_rfl)) (by simp only [Nat.ble_eq]; omega)
      replace ha := Aside0.mk ha
      refine value_ (w1 := w') (v := .agg #[.slice B5 y1.length e5, .slice B6 y2.length e6]) (by rfl) rfl ?_ ?_
      · go_simp
        (try simp only [i64_w])
        try rfl
      exact hK.out _ _ ⟨rfl, B1, B3, B4, B5, B6, e1, e3, e4, e5, e6, gb, lo, hi, _, (.agg #[.slice B5 y1.length e5, .slice B6 y2.length e6]), m34, m7, (by rw [ha.out]; exact putSel_upk 7 hb_ rfl rfl rfl), QB, Q2, Q4, Q5, QG, QL, QZ, QW, Q6, fun _ => rfl, Q8, Q11⟩
    refine steps_cons ?_ ?_
    · rintro b a_ w' ⟨_, B1, B3, B4, B5, B6, e1, e3, e4, e5, e6, gb, lo, hi, m27, m33, m34, m7, ha, QB, Q2, Q4, Q5, QG, QL, QZ, QW, Q6, Q7, Q8, Q11⟩ hb_ hon hoff
      refine ⟨_, rfl, fun K hK => ?_⟩
      have q5_ := Q6 (hon 6 (by kernel_rfl))
      subst q5_
      have te29 : a_.tmps[29]? = some (.tuple #[.agg #[.slice B5 y1.length e5, .slice B6 y2.length e6], .bool y3]) := by rw [ha]; exact putSel_on (e := (6, 29, .tuple #[.agg #[.slice B5 y1.length e5, .slice B6 y2.length e6], .bool y3])) 6 rfl rfl (hon 6 (by kernel_rfl)) (by simp only [Nat.ble_eq]; omega)
      replace ha := Aside0.mk ha
      refine value_ (w1 := w') (v := .bool y3) (by rfl) rfl ?_ ?_
      · go_simp
        (try simp only [i64_w])
        try rfl
      exact hK.out _ _ ⟨rfl, B1, B3, B4, B5, B6, e1, e3, e4, e5, e6, gb, lo, hi, _, m33, (.bool y3), m7, (by rw [ha.out]; exact putSel_upk 8 hb_ rfl rfl rfl), QB, Q2, Q4, Q5, QG, QL, QZ, QW, Q6, Q7, fun _ => rfl, fun h0_ => absurd ((hoff 11 (by kernel_rfl)).symm.trans h0_) (by decide)⟩
    refine steps_cons ?_ ?_
    · rintro b a_ w' ⟨_, B1, B3, B4, B5, B6, e1, e3, e4, e5, e6, gb, lo, hi, m27, m33, m34, m7, ha, QB, Q2, Q4, Q5, QG, QL, QZ, QW, Q6, Q7, Q8, Q11⟩ hb_ hon hoff
      refine ⟨_, rfl, fun K hK => ?_⟩
      replace ha := Aside0.mk ha
      have hal_ := below_alloc (Below.refl (World.heap w').size w') (.cells #[.slice none 0 0, .slice none 0 0] 30)
      have hu27 := Tryz.underlying30
      refine value_ (w1 := (w'.alloc (.cells #[.slice none 0 0, .slice none 0 0] 30))) (v := .pointer (some ⟨w'.heap.size, 0, none⟩)) (by rfl) rfl ?_ ?_
      · go_simp
        (try simp only [i64_w])
        try rfl
      exact hK.out _ _ ⟨rfl, B1, B3, B4, B5, B6, e1, e3, e4, e5, e6, w'.heap.size, lo, hi, m27, m33, m34, m7, (by rw [ha.out]; exact putSel_upk 9 hb_ rfl rfl rfl), below_alloc QB _, fun x_ y_ => have h_ := Q2 x_ y_; ⟨Kd.C_below h_.1 hal_, h_.2⟩, fun x_ y_ => have h_ := Q4 x_ y_; ⟨Kd.C_below h_.1 hal_, h_.2.1, Kd.C_below h_.2.2.1 hal_, h_.2.2.2⟩, fun x_ => have h_ := Q5 x_; ⟨h_.1.below hal_, Kd.V_below h_.2.1 hal_, h_.2.2.1, Nat.le_trans h_.2.2.2 hal_.size⟩, fun x_ _ => Or.inr (Q5 x_).2.2.2, fun _ => QB.size, fun _ _ => blk_new w' (.cells #[.slice none 0 0, .slice none 0 0] 30), fun h0_ => absurd ((hoff 10 (by kernel_rfl)).symm.trans h0_) (by decide), Q6, Q7, Q8, Q11⟩
    refine steps_cons ?_ ?_
    · rintro b a_ w' ⟨_, B1, B3, B4, B5, B6, e1, e3, e4, e5, e6, gb, lo, hi, m27, m33, m34, m7, ha, QB, Q2, Q4, Q5, QG, QL, QZ, QW, Q6, Q7, Q8, Q11⟩ hb_ hon hoff
      refine ⟨_, rfl, fun K hK => ?_⟩
      have q6_ := Q7 (hon 7 (by kernel_rfl))
      subst q6_
      have te36 : a_.tmps[36]? = some (.agg #[.slice B5 y1.length e5, .slice B6 y2.length e6]) := by rw [ha]; exact putSel_on (e := (7, 36, .agg #[.slice B5 y1.length e5, .slice B6 y2.length e6])) 7 rfl rfl (hon 7 (by kernel_rfl)) (by simp only [Nat.ble_eq]; omega)
      have te8 : a_.tmps[8]? = some (.pointer (some ⟨gb, 0, none⟩)) := by rw [ha]; exact putSel_on (e := (9, 8, .pointer (some ⟨gb, 0, none⟩))) 9 rfl rfl (hon 9 (by kernel_rfl)) (by simp only [Nat.ble_eq]; omega)
      replace ha := Aside0.mk ha
      have hu27 := Tryz.underlying30
      have z_ := QZ (hon 9 (by kernel_rfl)) hb_
      have g4 := Q5 (hon 5 (by kernel_rfl))
      have gg := QG (hon 5 (by kernel_rfl)) (hon 9 (by kernel_rfl))
      have gl := QL (hon 9 (by kernel_rfl))
      have hk0_ := Kept.setCell (p := ⟨gb, 1, none⟩) (Kept.setCell (p := ⟨gb, 0, none⟩) (Kept.refl w' (fun k => gb ≤ k ∧ k < gb + 1)) (Or.inl ⟨Nat.le_refl _, Nat.lt_succ_self _⟩) (.slice B5 y1.length e5)) (Or.inl ⟨Nat.le_refl _, Nat.lt_succ_self _⟩) (.slice B6 y2.length e6)
      have z0_ : w'.cell? ⟨gb, 0, none⟩ = some (.slice none 0 0) := (blk_cell z_ 0).trans rfl
      have z1_ : w'.cell? ⟨gb, 1, none⟩ = some (.slice none 0 0) := (blk_cell z_ 1).trans rfl
      have hfz0 := blk_frozen z_ 0
      have hfz1 := blk_frozen z_ 1
      refine skip_ (w1 := ((w'.setCell ⟨gb, 0, none⟩ (.slice B5 y1.length e5)).setCell ⟨gb, 1, none⟩ (.slice B6 y2.length e6))) (by rfl) rfl ?_ ?_
      · go_simp
        (try simp only [i64_w])
        try rfl
      refine hK.out _ _ ⟨rfl, B1, B3, B4, B5, B6, e1, e3, e4, e5, e6, gb, lo, hi, m27, _, m34, m7, (by rw [ha.out]; exact (putSel_same rfl).symm), (below_set (below_set QB gl) gl), (fun _ h0_ => absurd ((hon 5 (by kernel_rfl)).symm.trans h0_) (by decide)), (fun _ h0_ => absurd ((hon 5 (by kernel_rfl)).symm.trans h0_) (by decide)), (fun _ => ⟨g4.1.kept hk0_ (by omega), Kd.V_kept g4.2.1 hk0_ (fun k_ h_ s_ => by have := h_.1; have := h_.2; have := s_.1; have := s_.2; omega), g4.2.2.1, Nat.le_trans g4.2.2.2 hk0_.1⟩), fun _ _ => gg, QL, (fun _ h0_ => absurd h0_ (by rw [up_self]; decide)), (fun _ => blk_set (blk_set z_ 0 _) 1 _), Q6, Q7, Q8, fun h0_ => absurd ((hoff 11 (by kernel_rfl)).symm.trans h0_) (by decide)⟩
    refine steps_cons ?_ ?_
    · rintro b a_ w' ⟨_, B1, B3, B4, B5, B6, e1, e3, e4, e5, e6, gb, lo, hi, m27, m33, m34, m7, ha, QB, Q2, Q4, Q5, QG, QL, QZ, QW, Q6, Q7, Q8, Q11⟩ hb_ hon hoff
      refine ⟨_, rfl, fun K hK => ?_⟩
      have q7_ := Q8 (hon 8 (by kernel_rfl))
      subst q7_
      have te37 : a_.tmps[37]? = some (.bool y3) := by rw [ha]; exact putSel_on (e := (8, 37, .bool y3)) 8 rfl rfl (hon 8 (by kernel_rfl)) (by simp only [Nat.ble_eq]; omega)
      replace ha := Aside0.mk ha
      refine value_ (w1 := w') (v := .bool y3) (by rfl) rfl ?_ ?_
      · go_simp
        (try simp only [i64_w])
        try rfl
      exact hK.out _ _ ⟨rfl, B1, B3, B4, B5, B6, e1, e3, e4, e5, e6, gb, lo, hi, m27, m33, _, (.bool y3), (by rw [ha.out]; exact putSel_upk 10 hb_ rfl rfl rfl), QB, Q2, Q4, Q5, QG, QL, QZ, QW, Q6, Q7, Q8, fun _ => rfl⟩
    exact steps_nil
  rintro b a_ w' hall ⟨_, B1, B3, B4, B5, B6, e1, e3, e4, e5, e6, gb, lo, hi, m27, m33, m34, m7, ha, QB, Q2, Q4, Q5, QG, QL, QZ, QW, Q6, Q7, Q8, Q11⟩
  have hb0_ := hall 0 (by kernel_rfl)
  have hb1_ := hall 1 (by kernel_rfl)
  have hb2_ := hall 2 (by kernel_rfl)
  have hb3_ := hall 3 (by kernel_rfl)
  have hb4_ := hall 4 (by kernel_rfl)
  have hb5_ := hall 5 (by kernel_rfl)
  have hb6_ := hall 6 (by kernel_rfl)
  have hb7_ := hall 7 (by kernel_rfl)
  have hb8_ := hall 8 (by kernel_rfl)
  have hb9_ := hall 9 (by kernel_rfl)
  have hb10_ := hall 10 (by kernel_rfl)
  have hb11_ := hall 11 (by kernel_rfl)
  subst ha
  obtain rfl := (Q6 hb6_).symm
  obtain rfl := (Q7 hb7_).symm
  obtain rfl := (Q8 hb8_).symm
  obtain rfl := (Q11 hb11_).symm
  have g4 := Q5 hb5_
  have hf := h w' B1 B3 B4 B5 B6 e1 e3 e4 e5 e6 gb lo hi QB g4.1 g4.2.1 g4.2.2.1 g4.2.2.2 (QG hb5_ hb9_) (QL hb9_) (QW hb10_)
  simp only [putSel, hb0_, hb1_, hb2_, hb3_, hb4_, hb5_, hb6_, hb7_, hb8_, hb9_, hb11_, if_true] at hf ⊢
  exact hf
def J.T31 : Bool × List (List Nat × List Nat) := (true, [([], []), ([], []), ([1], [1]), ([], []), ([3, 2], [3]), ([0, 2, 4, 4], [0, 2, 4]), ([5], [5]), ([6], [6]), ([6], [6]), ([], []), ([9, 7, 5, 0, 1, 2, 3, 4, 5, 6, 7, 9], [7, 9]), ([8, 10, 0, 1, 2, 3, 4, 5, 6, 7, 8, 9, 10], [8])])
theorem J.tab31 : rtab .any (opsOf Tryz.f3 31) = J.T31 := by kernel_rfl
theorem J.bits31 : waitsOk J.T31.2 [0, 0, 2, 0, 14, 31, 63, 127, 127, 0, 767, 2047] = true := by kernel_rfl
set_option maxHeartbeats 4000000 in
theorem reg31 {Q : Exit → Act → World → Prop} (a : Act) (w : World) (n5 : Nat) (a0 : Int) (A1 A3 A4 : Option Addr) (c1 c3 c4 : Nat) (l1 : List S25) (x1 : List S35) (l3 l4 x3 x4 y1 : List Int) (y2 : List (List Int)) (y3 : Bool) (k1 k3 k5 : Nat)
    (hsz : 107 ≤ a.tmps.size) (ha0 : a.tmps[0]? = some (.int .i64 a0)) (ha1 : a.tmps[1]? = some (.slice A1 l1.length c1)) (ha5 : a.tmps[5]? = some (.pointer (some ⟨n5, 0, none⟩)))
    (h30 : w.cell? ⟨n5, 0, none⟩ = some (.slice A3 l3.length c3)) (h31 : w.cell? ⟨n5, 1, none⟩ = some (.slice A4 l4.length c4))
    (hC1 : Kd.C k25 w A1 l1.length l1) (hc1 : l1.length ≤ c1) (hC3 : Kd.C (Kd.int .i64) w A3 l3.length l3) (hc3 : l3.length ≤ c3) (hC4 : Kd.C (Kd.int .i64) w A4 l4.length l4) (hc4 : l4.length ≤ c4)
    (H1 : laws_toDepS.f k1 l1 = some x1) (H3 : laws_toDep.f k3 l3 l4 = some (x3, x4)) (H5 : impl_WitnessFor.f k5 a0 x1 x3 x4 = some (y1, y2, y3))
    (h : ∀ (w' : World) (B1 B3 B4 B5 B6 : Option Addr) (e1 e3 e4 e5 e6 gb lo hi : Nat), Below w.heap.size w w' → (Iv.Ob (Kd.int .i64) 3 w' lo hi (fun _ => True) (.slice B5 y1.length e5) y1) → (Iv.Ob (Kd.slice 3 (Kd.int .i64)) 23 w' lo hi (fun k_ => some k_ ≠ (Value.slice B5 y1.length e5).ownBlock) (.slice B6 y2.length e6) y2) → w.heap.size ≤ lo → hi ≤ w'.heap.size → (gb < lo ∨ hi ≤ gb) → w.heap.size ≤ gb → w'.heap[gb]? = some (.cells #[.slice B5 y1.length e5, .slice B6 y2.length e6] 30 (0, 0)) → Q .normal (putSel a (fun _ => true) [(0, 99, .int .i64 a0), (1, 100, .slice A1 l1.length c1), (2, 101, .slice B1 x1.length e1), (3, 102, .agg #[.slice A3 l3.length c3, .slice A4 l4.length c4]), (4, 103, .agg #[.slice B3 x3.length e3, .slice B4 x4.length e4]), (5, 104, .tuple #[.agg #[.slice B5 y1.length e5, .slice B6 y2.length e6], .bool y3]), (6, 98, .tuple #[.agg #[.slice B5 y1.length e5, .slice B6 y2.length e6], .bool y3]), (7, 105, .agg #[.slice B5 y1.length e5, .slice B6 y2.length e6]), (8, 106, .bool y3), (9, 17, .pointer (some ⟨gb, 0, none⟩)), (11, 18, .bool y3)]) w') :
    (Code.region 31 #[{ dst := some 99, op := Go.Op.move (Go.Operand.tmp 0), type := 3, pos := "exact.go:5006", after := #[], guard := none }, { dst := some 100, op := Go.Op.move (Go.Operand.tmp 1), type := 22, pos := "exact.go:5006", after := #[], guard := none }, { dst := some 101, op := Go.Op.call { callee := Go.Callee.value (Go.Operand.func 7), args := #[Go.Operand.tmp 100], argTypes := #[22] }, type := 33, pos := "exact.go:5006", after := #[{ on := 1, ground := Go.Ground.data }], guard := none }, { dst := some 102, op := Go.Op.load 25 (Go.Operand.tmp 5), type := 25, pos := "exact.go:5006", after := #[], guard := none }, { dst := some 103, op := Go.Op.call { callee := Go.Callee.value (Go.Operand.func 8), args := #[Go.Operand.tmp 102], argTypes := #[25] }, type := 35, pos := "exact.go:5006", after := #[{ on := 3, ground := Go.Ground.data }, { on := 2, ground := Go.Ground.chain }], guard := none }, { dst := some 104, op := Go.Op.call { callee := Go.Callee.value (Go.Operand.func 9), args := #[Go.Operand.tmp 99, Go.Operand.tmp 101, Go.Operand.tmp 103], argTypes := #[3, 33, 35] }, type := 31, pos := "exact.go:5006", after := #[{ on := 0, ground := Go.Ground.data }, { on := 2, ground := Go.Ground.data }, { on := 4, ground := Go.Ground.data }, { on := 4, ground := Go.Ground.chain }], guard := none }, { dst := some 98, op := Go.Op.move (Go.Operand.tmp 104), type := 31, pos := "exact.go:5006", after := #[{ on := 5, ground := Go.Ground.data }], guard := none }, { dst := some 105, op := Go.Op.extract (Go.Operand.tmp 98) 0, type := 30, pos := "exact.go:5006", after := #[{ on := 6, ground := Go.Ground.data }], guard := none }, { dst := some 106, op := Go.Op.extract (Go.Operand.tmp 98) 1, type := 4, pos := "exact.go:5006", after := #[{ on := 6, ground := Go.Ground.data }, { on := 10, ground := Go.Ground.gcOnly Go.Departure.lateStores }], guard := none }, { dst := some 17, op := Go.Op.alloc 30, type := 0, pos := "exact.go:5006", after := #[], guard := none }, { dst := none, op := Go.Op.store 30 (Go.Operand.tmp 17) (Go.Operand.tmp 105), type := 0, pos := "exact.go:5006", after := #[{ on := 9, ground := Go.Ground.data }, { on := 7, ground := Go.Ground.data }, { on := 5, ground := Go.Ground.chain }, { on := 0, ground := Go.Ground.phase }, { on := 1, ground := Go.Ground.phase }, { on := 2, ground := Go.Ground.phase }, { on := 3, ground := Go.Ground.phase }, { on := 4, ground := Go.Ground.phase }, { on := 5, ground := Go.Ground.phase }, { on := 6, ground := Go.Ground.phase }, { on := 7, ground := Go.Ground.phase }, { on := 8, ground := Go.Ground.textOnly Go.Departure.lateStores }, { on := 9, ground := Go.Ground.phase }], guard := none }, { dst := some 18, op := Go.Op.assign (Go.Operand.tmp 106), type := 4, pos := "exact.go:5006", after := #[{ on := 8, ground := Go.Ground.data }, { on := 10, ground := Go.Ground.chain }, { on := 0, ground := Go.Ground.phase }, { on := 1, ground := Go.Ground.phase }, { on := 2, ground := Go.Ground.phase }, { on := 3, ground := Go.Ground.phase }, { on := 4, ground := Go.Ground.phase }, { on := 5, ground := Go.Ground.phase }, { on := 6, ground := Go.Ground.phase }, { on := 7, ground := Go.Ground.phase }, { on := 8, ground := Go.Ground.phase }, { on := 9, ground := Go.Ground.phase }, { on := 10, ground := Go.Ground.phase }], guard := none }] true).wp Tryz.prog Q a w := by
  refine Bx.start_any (n := 12) (S := fun _ => True) (ds := []) #[false, false, false, false, false, false, false, false, false, false, false, false] (by kernel_rfl) rfl rfl trivial (fun ws hb0 _ => ?_)
  refine with_tabW J.tab31 J.bits31 (fun HT_ HW_ => ?_)
  refine inv_at [0, 1, 2, 3, 4, 5, 6, 7, 8, 9, 10, 11] (fun a0_ b a w' => a0_.tmps = a0_.tmps ∧ ∃ (B1 B3 B4 B5 B6 : Option Addr) (e1 e3 e4 e5 e6 gb lo hi : Nat) (m27 m33 m34 m7 : Value), a = putSel a0_ b [(0, 99, .int .i64 a0), (1, 100, .slice A1 l1.length c1), (2, 101, .slice B1 x1.length e1), (3, 102, .agg #[.slice A3 l3.length c3, .slice A4 l4.length c4]), (4, 103, .agg #[.slice B3 x3.length e3, .slice B4 x4.length e4]), (5, 104, .tuple #[.agg #[.slice B5 y1.length e5, .slice B6 y2.length e6], .bool y3]), (6, 98, m27), (7, 105, m33), (8, 106, m34), (9, 17, .pointer (some ⟨gb, 0, none⟩)), (11, 18, m7)] ∧ Below w.heap.size w w' ∧ (b 2 = true → b 5 = false → (Kd.C k35 w' B1 x1.length x1 ∧ x1.length ≤ e1)) ∧ (b 4 = true → b 5 = false → (Kd.C (Kd.int .i64) w' B3 x3.length x3 ∧ x3.length ≤ e3 ∧ Kd.C (Kd.int .i64) w' B4 x4.length x4 ∧ x4.length ≤ e4)) ∧ (b 5 = true → (Iv.Ob (Kd.int .i64) 3 w' lo hi (fun _ => True) (.slice B5 y1.length e5) y1) ∧ (Iv.Ob (Kd.slice 3 (Kd.int .i64)) 23 w' lo hi (fun k_ => some k_ ≠ (Value.slice B5 y1.length e5).ownBlock) (.slice B6 y2.length e6) y2) ∧ w.heap.size ≤ lo ∧ hi ≤ w'.heap.size) ∧ (b 5 = true → b 9 = true → gb < lo ∨ hi ≤ gb) ∧ (b 9 = true → w.heap.size ≤ gb) ∧ (b 9 = true → b 10 = false → w'.heap[gb]? = some (.cells #[.slice none 0 0, .slice none 0 0] 30 (0, 0))) ∧ (b 10 = true → w'.heap[gb]? = some (.cells #[.slice B5 y1.length e5, .slice B6 y2.length e6] 30 (0, 0))) ∧ (b 6 = true → m27 = .tuple #[.agg #[.slice B5 y1.length e5, .slice B6 y2.length e6], .bool y3]) ∧ (b 7 = true → m33 = .agg #[.slice B5 y1.length e5, .slice B6 y2.length e6]) ∧ (b 8 = true → m34 = .bool y3) ∧ (b 11 = true → m7 = .bool y3)) HT_.out HW_.out (by kernel_rfl) (by kernel_rfl) ?_ ?_ ?_
  · exact ⟨rfl, none, none, none, none, none, 0, 0, 0, 0, 0, 0, 0, 0, .bool false, .bool false, .bool false, .bool false, by simp only [putSel, Bool.false_eq_true, if_false], hb0, (fun x_ _ => absurd x_ (by decide)), (fun x_ _ => absurd x_ (by decide)), (fun x_ => absurd x_ (by decide)), (fun x_ _ => absurd x_ (by decide)), (fun x_ => absurd x_ (by decide)), (fun x_ _ => absurd x_ (by decide)), (fun x_ => absurd x_ (by decide)), (fun x_ => absurd x_ (by decide)), (fun x_ => absurd x_ (by decide)), (fun x_ => absurd x_ (by decide)), (fun x_ => absurd x_ (by decide))⟩
  · skip
    refine steps_cons ?_ ?_
    · rintro b a_ w' ⟨_, B1, B3, B4, B5, B6, e1, e3, e4, e5, e6, gb, lo, hi, m27, m33, m34, m7, ha, QB, Q2, Q4, Q5, QG, QL, QZ, QW, Q6, Q7, Q8, Q11⟩ hb_ hon hoff
      refine ⟨_, rfl, fun K hK => ?_⟩
      have te0 : a_.tmps[0]? = some (.int .i64 a0) := by rw [ha]; exact (putSel_off rfl).trans ha0
      replace ha := Aside0.mk ha
      refine value_ (w1 := w') (v := .int .i64 a0) (by rfl) rfl ?_ ?_
      · go_simp
        (try simp only [i64_w])
        try rfl
      exact hK.out _ _ ⟨rfl, B1, B3, B4, B5, B6, e1, e3, e4, e5, e6, gb, lo, hi, m27, m33, m34, m7, (by rw [ha.out]; exact putSel_upk 0 hb_ rfl rfl rfl), QB, Q2, Q4, Q5, QG, QL, QZ, QW, Q6, Q7, Q8, Q11⟩
    refine steps_cons ?_ ?_
    · rintro b a_ w' ⟨_, B1, B3, B4, B5, B6, e1, e3, e4, e5, e6, gb, lo, hi, m27, m33, m34, m7, ha, QB, Q2, Q4, Q5, QG, QL, QZ, QW, Q6, Q7, Q8, Q11⟩ hb_ hon hoff
      refine ⟨_, rfl, fun K hK => ?_⟩
      have te1 : a_.tmps[1]? = some (.slice A1 l1.length c1) := by rw [ha]; exact (putSel_off rfl).trans ha1
      replace ha := Aside0.mk ha
      refine value_ (w1 := w') (v := .slice A1 l1.length c1) (by rfl) rfl ?_ ?_
      · go_simp
        (try simp only [i64_w])
        try rfl
      exact hK.out _ _ ⟨rfl, B1, B3, B4, B5, B6, e1, e3, e4, e5, e6, gb, lo, hi, m27, m33, m34, m7, (by rw [ha.out]; exact putSel_upk 1 hb_ rfl rfl rfl), QB, Q2, Q4, Q5, QG, QL, QZ, QW, Q6, Q7, Q8, Q11⟩
    refine steps_cons ?_ ?_
    · rintro b a_ w' ⟨_, B1, B3, B4, B5, B6, e1, e3, e4, e5, e6, gb, lo, hi, m27, m33, m34, m7, ha, QB, Q2, Q4, Q5, QG, QL, QZ, QW, Q6, Q7, Q8, Q11⟩ hb_ hon hoff
      refine ⟨_, rfl, fun K hK => ?_⟩
      have te100 : a_.tmps[100]? = some (.slice A1 l1.length c1) := by rw [ha]; exact putSel_on (e := (1, 100, .slice A1 l1.length c1)) 1 rfl rfl (hon 1 (by kernel_rfl)) (by simp only [Nat.ble_eq]; omega)
      replace ha := Aside0.mk ha
      refine goes_ Tryz.func7 (by kernel_rfl) rfl #[.slice A1 l1.length c1] (by rfl) rfl rfl (by first | (simp only [List.map_toArray, List.map_cons, List.map_nil, Act.eval, Array.getD_eq_getD_getElem?, Option.getD_some, te100]; done) | (simp only [List.map_toArray, List.map_cons, List.map_nil, Act.eval, Array.getD_eq_getD_getElem?, Option.getD_some, te100]; rfl)) ?_
      with_reducible refine (laws_toDepS.calls k1 _ _ l1 x1 _ ?s1 ?s2 H1).mono ?_
      (case s1 => exact Kd.C_below hC1 QB)
      (case s2 => exact hc1)
      rintro e w2 ⟨v0, rfl, ho0, hb⟩
      refine ⟨_, rfl, ?_⟩
      have o0_ := Iv.Ob.of_S (q := fun _ => True) ho0 (fun _ _ => trivial)
      obtain ⟨Bn1, en1, rfl⟩ := Iv.Ob.slice o0_
      exact hK.out _ _ ⟨rfl, Bn1, B3, B4, B5, B6, en1, e3, e4, e5, e6, gb, lo, hi, m27, m33, m34, m7, (by rw [ha.out]; exact putSel_upk 2 hb_ rfl rfl rfl), below_step QB hb, fun _ _ => ⟨o0_.C, o0_.le⟩, fun h0_ => absurd ((hoff 4 (by kernel_rfl)).symm.trans h0_) (by decide), fun h0_ => absurd ((hoff 5 (by kernel_rfl)).symm.trans h0_) (by decide), fun h0_ => absurd ((hoff 5 (by kernel_rfl)).symm.trans h0_) (by decide), QL, fun x_ y_ => blk_below (QZ x_ y_) hb, fun h0_ => absurd ((hoff 10 (by kernel_rfl)).symm.trans h0_) (by decide), Q6, Q7, Q8, Q11⟩
    refine steps_cons ?_ ?_
    · rintro b a_ w' ⟨_, B1, B3, B4, B5, B6, e1, e3, e4, e5, e6, gb, lo, hi, m27, m33, m34, m7, ha, QB, Q2, Q4, Q5, QG, QL, QZ, QW, Q6, Q7, Q8, Q11⟩ hb_ hon hoff
      refine ⟨_, rfl, fun K hK => ?_⟩
      have te5 : a_.tmps[5]? = some (.pointer (some ⟨n5, 0, none⟩)) := by rw [ha]; exact (putSel_off rfl).trans ha5
      replace ha := Aside0.mk ha
      have hc0_ := Bx.box_later h30 QB
      have hc1_ := Bx.box_later h31 QB
      refine value_ (w1 := w') (v := .agg #[.slice A3 l3.length c3, .slice A4 l4.length c4]) (by rfl) rfl ?_ ?_
      · go_simp
        (try simp only [i64_w])
        try rfl
      exact hK.out _ _ ⟨rfl, B1, B3, B4, B5, B6, e1, e3, e4, e5, e6, gb, lo, hi, m27, m33, m34, m7, (by rw [ha.out]; exact putSel_upk 3 hb_ rfl rfl rfl), QB, Q2, Q4, Q5, QG, QL, QZ, QW, Q6, Q7, Q8, Q11⟩
    refine steps_cons ?_ ?_
    · rintro b a_ w' ⟨_, B1, B3, B4, B5, B6, e1, e3, e4, e5, e6, gb, lo, hi, m27, m33, m34, m7, ha, QB, Q2, Q4, Q5, QG, QL, QZ, QW, Q6, Q7, Q8, Q11⟩ hb_ hon hoff
      refine ⟨_, rfl, fun K hK => ?_⟩
      have te102 : a_.tmps[102]? = some (.agg #[.slice A3 l3.length c3, .slice A4 l4.length c4]) := by rw [ha]; exact putSel_on (e := (3, 102, .agg #[.slice A3 l3.length c3, .slice A4 l4.length c4])) 3 rfl rfl (hon 3 (by kernel_rfl)) (by simp only [Nat.ble_eq]; omega)
      replace ha := Aside0.mk ha
      refine goes_ Tryz.func8 (by kernel_rfl) rfl #[.agg #[.slice A3 l3.length c3, .slice A4 l4.length c4]] (by rfl) rfl rfl (by first | (simp only [List.map_toArray, List.map_cons, List.map_nil, Act.eval, Array.getD_eq_getD_getElem?, Option.getD_some, te102]; done) | (simp only [List.map_toArray, List.map_cons, List.map_nil, Act.eval, Array.getD_eq_getD_getElem?, Option.getD_some, te102]; rfl)) ?_
      with_reducible refine (laws_toDep.calls k3 _ _ l3 _ _ l4 x3 x4 _ ?s1 ?s2 ?s3 ?s4 H3).mono ?_
      (case s1 => exact Kd.C_below hC3 QB)
      (case s2 => exact hc3)
      (case s3 => exact Kd.C_below hC4 QB)
      (case s4 => exact hc4)
      rintro e w2 ⟨v0, v1, rfl, ho0, ho1, hb⟩
      refine ⟨_, rfl, ?_⟩
      have o0_ := Iv.Ob.of_Rint (q := fun _ => True) ho0 (fun _ _ => trivial)
      have o1_ := Iv.Ob.of_Rint (q := fun _ => True) ho1 (fun _ _ => trivial)
      obtain ⟨Bn1, en1, rfl⟩ := Iv.Ob.slice o0_
      obtain ⟨Bn2, en2, rfl⟩ := Iv.Ob.slice o1_
      exact hK.out _ _ ⟨rfl, B1, Bn1, Bn2, B5, B6, e1, en1, en2, e5, e6, gb, lo, hi, m27, m33, m34, m7, (by rw [ha.out]; exact putSel_upk 4 hb_ rfl rfl rfl), below_step QB hb, fun x_ y_ => have h_ := Q2 x_ y_; ⟨Kd.C_below h_.1 hb, h_.2⟩, fun _ _ => ⟨o0_.C, o0_.le, o1_.C, o1_.le⟩, fun h0_ => absurd ((hoff 5 (by kernel_rfl)).symm.trans h0_) (by decide), fun h0_ => absurd ((hoff 5 (by kernel_rfl)).symm.trans h0_) (by decide), QL, fun x_ y_ => blk_below (QZ x_ y_) hb, fun h0_ => absurd ((hoff 10 (by kernel_rfl)).symm.trans h0_) (by decide), Q6, Q7, Q8, Q11⟩
    refine steps_cons ?_ ?_
    · rintro b a_ w' ⟨_, B1, B3, B4, B5, B6, e1, e3, e4, e5, e6, gb, lo, hi, m27, m33, m34, m7, ha, QB, Q2, Q4, Q5, QG, QL, QZ, QW, Q6, Q7, Q8, Q11⟩ hb_ hon hoff
      refine ⟨_, rfl, fun K hK => ?_⟩
      have te99 : a_.tmps[99]? = some (.int .i64 a0) := by rw [ha]; exact putSel_on (e := (0, 99, .int .i64 a0)) 0 rfl rfl (hon 0 (by kernel_rfl)) (by simp only [Nat.ble_eq]; omega)
      have te101 : a_.tmps[101]? = some (.slice B1 x1.length e1) := by rw [ha]; exact putSel_on (e := (2, 101, .slice B1 x1.length e1)) 2 rfl rfl (hon 2 (by kernel_rfl)) (by simp only [Nat.ble_eq]; omega)
      have te103 : a_.tmps[103]? = some (.agg #[.slice B3 x3.length e3, .slice B4 x4.length e4]) := by rw [ha]; exact putSel_on (e := (4, 103, .agg #[.slice B3 x3.length e3, .slice B4 x4.length e4])) 4 rfl rfl (hon 4 (by kernel_rfl)) (by simp only [Nat.ble_eq]; omega)
      replace ha := Aside0.mk ha
      have f1 := Q2 (hon 2 (by kernel_rfl)) hb_
      have f3 := Q4 (hon 4 (by kernel_rfl)) hb_
      refine goes_ Tryz.func9 (by kernel_rfl) rfl #[.int .i64 a0, .slice B1 x1.length e1, .agg #[.slice B3 x3.length e3, .slice B4 x4.length e4]] (by rfl) rfl rfl (by first | (simp only [List.map_toArray, List.map_cons, List.map_nil, Act.eval, Array.getD_eq_getD_getElem?, Option.getD_some, te99, te101, te103]; done) | (simp only [List.map_toArray, List.map_cons, List.map_nil, Act.eval, Array.getD_eq_getD_getElem?, Option.getD_some, te99, te101, te103]; rfl)) ?_
      with_reducible refine (impl_WitnessFor.calls k5 a0 _ _ x1 _ _ x3 _ _ x4 y1 y2 y3 _ ?s1 ?s2 ?s3 ?s4 ?s5 ?s6 H5).mono ?_
      (case s1 => exact f1.1)
      (case s2 => exact f1.2)
      (case s3 => exact f3.1)
      (case s4 => exact f3.2.1)
      (case s5 => exact f3.2.2.1)
      (case s6 => exact f3.2.2.2)
      rintro e w2 ⟨v0, v1, rfl, ho0, ho1, hb⟩
      refine ⟨_, rfl, ?_⟩
      have o0_ := Iv.Ob.of_Rint (q := fun _ => True) ho0 (fun _ _ => trivial)
      replace ho1 := Iv.Ob.of_S ho1 (fun _ h_ => h_)
      obtain ⟨Bn2, en2, rfl⟩ := Iv.Ob.slice ho1
      obtain ⟨Bn1, en1, rfl⟩ := Iv.Ob.slice o0_
      exact hK.out _ _ ⟨rfl, B1, B3, B4, Bn1, Bn2, e1, e3, e4, en1, en2, gb, w'.heap.size, w2.heap.size, m27, m33, m34, m7, (by rw [ha.out]; exact putSel_upk 5 hb_ rfl rfl rfl), below_step QB hb, fun _ h0_ => absurd h0_ (by rw [up_self]; decide), fun _ h0_ => absurd h0_ (by rw [up_self]; decide), fun _ => ⟨o0_, ho1, QB.size, Nat.le_refl _⟩, fun _ x_ => Or.inl (blk_lt (QZ x_ (hoff 10 (by kernel_rfl)))), QL, fun x_ y_ => blk_below (QZ x_ y_) hb, fun h0_ => absurd ((hoff 10 (by kernel_rfl)).symm.trans h0_) (by decide), fun h0_ => absurd ((hoff 6 (by kernel_rfl)).symm.trans h0_) (by decide), fun h0_ => absurd ((hoff 7 (by kernel_rfl)).symm.trans h0_) (by decide), fun h0_ => absurd ((hoff 8 (by kernel_rfl)).symm.trans h0_) (by decide), fun h0_ => absurd ((hoff 11 (by kernel_rfl)).symm.trans h0_) (by decide)⟩
    refine steps_cons ?_ ?_
    · rintro b a_ w' ⟨_, B1, B3, B4, B5, B6, e1, e3, e4, e5, e6, gb, lo, hi, m27, m33, m34, m7, ha, QB, Q2, Q4, Q5, QG, QL, QZ, QW, Q6, Q7, Q8, Q11⟩ hb_ hon hoff
      refine ⟨_, rfl, fun K hK => ?_⟩
      have te104 : a_.tmps[104]? = some (.tuple #[.agg #[.slice B5 y1.length e5, .slice B6 y2.length e6], .bool y3]) := by rw [ha]; exact putSel_on (e := (5, 104, .tuple #[.agg #[.slice B5 y1.length e5, .slice B6 y2.length e6], .bool y3])) 5 rfl rfl (hon 5 (by kernel_rfl)) (by simp only [Nat.ble_eq]; omega)
      replace ha := Aside0.mk ha
      refine value_ (w1 := w') (v := .tuple #[.agg #[.slice B5 y1.length e5, .slice B6 y2.length e6], .bool y3]) (by rfl) rfl ?_ ?_
      · go_simp
        (try simp only [i64_w])
        try rfl
      exact hK.out _ _ ⟨rfl, B1, B3, B4, B5, B6, e1, e3, e4, e5, e6, gb, lo, hi, (.tuple #[.agg #[.slice B5 y1.length e5, .slice B6 y2.length e6], .bool y3]), m33, m34, m7, (by rw [ha.out]; exact putSel_upk 6 hb_ rfl rfl rfl), QB, Q2, Q4, Q5, QG, QL, QZ, QW, fun _ => rfl, fun h0_ => absurd ((hoff 7 (by kernel_rfl)).symm.trans h0_) (by decide), fun h0_ => absurd ((hoff 8 (by kernel_rfl)).symm.trans h0_) (by decide), fun h0_ => absurd ((hoff 11 (by kernel_rfl)).symm.trans h0_) (by decide)⟩
    refine steps_cons ?_ ?_
    · rintro b a_ w' ⟨_, B1, B3, B4, B5, B6, e1, e3, e4, e5, e6, gb, lo, hi, m27, m33, m34, m7, ha, QB, Q2, Q4, Q5, QG, QL, QZ, QW, Q6, Q7, Q8, Q11⟩ hb_ hon hoff
      refine ⟨_, rfl, fun K hK => ?_⟩
      have q5_ := Q6 (hon 6 (by kernel_rfl))
      subst q5_
      have te98 : a_.tmps[98]? = some (.tuple #[.agg #[.slice B5 y1.length e5, .slice B6 y2.length e6], .bool y3]) := by rw [ha]; exact putSel_on (e := (6, 98, .tuple #[.agg #[.slice B5 y1.length e5, .slice B6 y2.length e6], .bool y3])) 6 rfl rfl (hon 6 (by kernel_rfl)) (by simp only [Nat.ble_eq]; omega)
      replace ha := Aside0.mk ha
      refine value_ (w1 := w') (v := .agg #[.slice B5 y1.length e5, .slice B6 y2.length e6]) (by rfl) rfl ?_ ?_
      · go_simp
        (try simp only [i64_w])
        try rfl
      exact hK.out _ _ ⟨rfl, B1, B3, B4, B5, B6, e1, e3, e4, e5, e6, gb, lo, hi, _, (.agg #[.slice B5 y1.length e5, .slice B6 y2.length e6]), m34, m7, (by rw [ha.out]; exact putSel_upk 7 hb_ rfl rfl rfl), QB, Q2, Q4, Q5, QG, QL, QZ, QW, Q6, fun _ => rfl, Q8, Q11⟩
    refine steps_cons ?_ ?_
    · rintro b a_ w' ⟨_, B1, B3, B4, B5, B6, e1, e3, e4, e5, e6, gb, lo, hi, m27, m33, m34, m7, ha, QB, Q2, Q4, Q5, QG, QL, QZ, QW, Q6, Q7, Q8, Q11⟩ hb_ hon hoff
      refine ⟨_, rfl, fun K hK => ?_⟩
      have q5_ := Q6 (hon 6 (by kernel_rfl))
      subst q5_
      have te98 : a_.tmps[98]? = some (.tuple #[.agg #[.slice B5 y1.length e5, .slice B6 y2.length e6], .bool y3]) := by rw [ha]; exact putSel_on (e := (6, 98, .tuple #[.agg #[.slice B5 y1.length e5, .slice B6 y2.length e6], .bool y3])) 6 rfl rfl (hon 6 (by kernel_rfl)) (by simp only [Nat.ble_eq]; omega)
      replace ha := Aside0.mk ha
      refine value_ (w1 := w') (v := .bool y3) (by rfl) rfl ?_ ?_
      · go_simp
        (try simp only [i64_w])
        try rfl
      exact hK.out _ _ ⟨rfl, B1, B3, B4, B5, B6, e1, e3, e4, e5, e6, gb, lo, hi, _, m33, (.bool y3), m7, (by rw [ha.out]; exact putSel_upk 8 hb_ rfl rfl rfl), QB, Q2, Q4, Q5, QG, QL, QZ, QW, Q6, Q7, fun _ => rfl, fun h0_ => absurd ((hoff 11 (by kernel_rfl)).symm.trans h0_) (by decide)⟩
    refine steps_cons ?_ ?_
    · rintro b a_ w' ⟨_, B1, B3, B4, B5, B6, e1, e3, e4, e5, e6, gb, lo, hi, m27, m33, m34, m7, ha, QB, Q2, Q4, Q5, QG, QL, QZ, QW, Q6, Q7, Q8, Q11⟩ hb_ hon hoff
      refine ⟨_, rfl, fun K hK => ?_⟩
      replace ha := Aside0.mk ha
      have hal_ := below_alloc (Below.refl (World.heap w').size w') (.cells #[.slice none 0 0, .slice none 0 0] 30)
      have hu27 := Tryz.underlying30
      refine value_ (w1 := (w'.alloc (.cells #[.slice none 0 0, .slice none 0 0] 30))) (v := .pointer (some ⟨w'.heap.size, 0, none⟩)) (by rfl) rfl ?_ ?_
      · go_simp
        (try simp only [i64_w])
        try rfl
      exact hK.out _ _ ⟨rfl, B1, B3, B4, B5, B6, e1, e3, e4, e5, e6, w'.heap.size, lo, hi, m27, m33, m34, m7, (by rw [ha.out]; exact putSel_upk 9 hb_ rfl rfl rfl), below_alloc QB _, fun x_ y_ => have h_ := Q2 x_ y_; ⟨Kd.C_below h_.1 hal_, h_.2⟩, fun x_ y_ => have h_ := Q4 x_ y_; ⟨Kd.C_below h_.1 hal_, h_.2.1, Kd.C_below h_.2.2.1 hal_, h_.2.2.2⟩, fun x_ => have h_ := Q5 x_; ⟨h_.1.below hal_, h_.2.1.below hal_, h_.2.2.1, Nat.le_trans h_.2.2.2 hal_.size⟩, fun x_ _ => Or.inr (Q5 x_).2.2.2, fun _ => QB.size, fun _ _ => blk_new w' (.cells #[.slice none 0 0, .slice none 0 0] 30), fun h0_ => absurd ((hoff 10 (by kernel_rfl)).symm.trans h0_) (by decide), Q6, Q7, Q8, Q11⟩
    refine steps_cons ?_ ?_
    · rintro b a_ w' ⟨_, B1, B3, B4, B5, B6, e1, e3, e4, e5, e6, gb, lo, hi, m27, m33, m34, m7, ha, QB, Q2, Q4, Q5, QG, QL, QZ, QW, Q6, Q7, Q8, Q11⟩ hb_ hon hoff
      refine ⟨_, rfl, fun K hK => ?_⟩
      have q6_ := Q7 (hon 7 (by kernel_rfl))
      subst q6_
      have te105 : a_.tmps[105]? = some (.agg #[.slice B5 y1.length e5, .slice B6 y2.length e6]) := by rw [ha]; exact putSel_on (e := (7, 105, .agg #[.slice B5 y1.length e5, .slice B6 y2.length e6])) 7 rfl rfl (hon 7 (by kernel_rfl)) (by simp only [Nat.ble_eq]; omega)
      have te17 : a_.tmps[17]? = some (.pointer (some ⟨gb, 0, none⟩)) := by rw [ha]; exact putSel_on (e := (9, 17, .pointer (some ⟨gb, 0, none⟩))) 9 rfl rfl (hon 9 (by kernel_rfl)) (by simp only [Nat.ble_eq]; omega)
      replace ha := Aside0.mk ha
      have hu27 := Tryz.underlying30
      have z_ := QZ (hon 9 (by kernel_rfl)) hb_
      have g4 := Q5 (hon 5 (by kernel_rfl))
      have gg := QG (hon 5 (by kernel_rfl)) (hon 9 (by kernel_rfl))
      have gl := QL (hon 9 (by kernel_rfl))
      have hk0_ := Kept.setCell (p := ⟨gb, 1, none⟩) (Kept.setCell (p := ⟨gb, 0, none⟩) (Kept.refl w' (fun k => gb ≤ k ∧ k < gb + 1)) (Or.inl ⟨Nat.le_refl _, Nat.lt_succ_self _⟩) (.slice B5 y1.length e5)) (Or.inl ⟨Nat.le_refl _, Nat.lt_succ_self _⟩) (.slice B6 y2.length e6)
      have z0_ : w'.cell? ⟨gb, 0, none⟩ = some (.slice none 0 0) := (blk_cell z_ 0).trans rfl
      have z1_ : w'.cell? ⟨gb, 1, none⟩ = some (.slice none 0 0) := (blk_cell z_ 1).trans rfl
      have hfz0 := blk_frozen z_ 0
      have hfz1 := blk_frozen z_ 1
      refine skip_ (w1 := ((w'.setCell ⟨gb, 0, none⟩ (.slice B5 y1.length e5)).setCell ⟨gb, 1, none⟩ (.slice B6 y2.length e6))) (by rfl) rfl ?_ ?_
      · go_simp
        (try simp only [i64_w])
        try rfl
      refine hK.out _ _ ⟨rfl, B1, B3, B4, B5, B6, e1, e3, e4, e5, e6, gb, lo, hi, m27, _, m34, m7, (by rw [ha.out]; exact (putSel_same rfl).symm), (below_set (below_set QB gl) gl), (fun _ h0_ => absurd ((hon 5 (by kernel_rfl)).symm.trans h0_) (by decide)), (fun _ h0_ => absurd ((hon 5 (by kernel_rfl)).symm.trans h0_) (by decide)), (fun _ => ⟨g4.1.kept hk0_ (by omega), g4.2.1.kept hk0_ (by omega), g4.2.2.1, Nat.le_trans g4.2.2.2 hk0_.1⟩), fun _ _ => gg, QL, (fun _ h0_ => absurd h0_ (by rw [up_self]; decide)), (fun _ => blk_set (blk_set z_ 0 _) 1 _), Q6, Q7, Q8, fun h0_ => absurd ((hoff 11 (by kernel_rfl)).symm.trans h0_) (by decide)⟩
    refine steps_cons ?_ ?_
    · rintro b a_ w' ⟨_, B1, B3, B4, B5, B6, e1, e3, e4, e5, e6, gb, lo, hi, m27, m33, m34, m7, ha, QB, Q2, Q4, Q5, QG, QL, QZ, QW, Q6, Q7, Q8, Q11⟩ hb_ hon hoff
      refine ⟨_, rfl, fun K hK => ?_⟩
      have q7_ := Q8 (hon 8 (by kernel_rfl))
      subst q7_
      have te106 : a_.tmps[106]? = some (.bool y3) := by rw [ha]; exact putSel_on (e := (8, 106, .bool y3)) 8 rfl rfl (hon 8 (by kernel_rfl)) (by simp only [Nat.ble_eq]; omega)
      replace ha := Aside0.mk ha
      refine value_ (w1 := w') (v := .bool y3) (by rfl) rfl ?_ ?_
      · go_simp
        (try simp only [i64_w])
        try rfl
      exact hK.out _ _ ⟨rfl, B1, B3, B4, B5, B6, e1, e3, e4, e5, e6, gb, lo, hi, m27, m33, _, (.bool y3), (by rw [ha.out]; exact putSel_upk 10 hb_ rfl rfl rfl), QB, Q2, Q4, Q5, QG, QL, QZ, QW, Q6, Q7, Q8, fun _ => rfl⟩
    exact steps_nil
  rintro b a_ w' hall ⟨_, B1, B3, B4, B5, B6, e1, e3, e4, e5, e6, gb, lo, hi, m27, m33, m34, m7, ha, QB, Q2, Q4, Q5, QG, QL, QZ, QW, Q6, Q7, Q8, Q11⟩
  have hb0_ := hall 0 (by kernel_rfl)
  have hb1_ := hall 1 (by kernel_rfl)
  have hb2_ := hall 2 (by kernel_rfl)
  have hb3_ := hall 3 (by kernel_rfl)
  have hb4_ := hall 4 (by kernel_rfl)
  have hb5_ := hall 5 (by kernel_rfl)
  have hb6_ := hall 6 (by kernel_rfl)
  have hb7_ := hall 7 (by kernel_rfl)
  have hb8_ := hall 8 (by kernel_rfl)
  have hb9_ := hall 9 (by kernel_rfl)
  have hb10_ := hall 10 (by kernel_rfl)
  have hb11_ := hall 11 (by kernel_rfl)
  subst ha
  obtain rfl := (Q6 hb6_).symm
  obtain rfl := (Q7 hb7_).symm
  obtain rfl := (Q8 hb8_).symm
  obtain rfl := (Q11 hb11_).symm
  have g4 := Q5 hb5_
  have hf := h w' B1 B3 B4 B5 B6 e1 e3 e4 e5 e6 gb lo hi QB g4.1 g4.2.1 g4.2.2.1 g4.2.2.2 (QG hb5_ hb9_) (QL hb9_) (QW hb10_)
  simp only [putSel, hb0_, hb1_, hb2_, hb3_, hb4_, hb5_, hb6_, hb7_, hb8_, hb9_, hb11_, if_true] at hf ⊢
  exact hf
end Go.Proofs.YtcengijoicmldaaGreat.J
