/- Several small texts together: UBadIn, LBadIn, KBadIn. No condition but those they name. -/
import Derived.Test.YtmbfgfhncbmgpaaPr0
import Derived.Test.YtmbfgfhncbmgpaaPr1
import Derived.Test.YtmbfgfhncbmgpaaPr11
import Derived.Test.YtmbfgfhncbmgpaaMerge1
import Derived.Test.YtmbfgfhncbmgpaaEToDepSA
import Derived.Test.YtmbfgfhncbmgpaaPr2
import Derived.Test.YtmbfgfhncbmgpaaPr7
import Derived.Test.YtmbfgfhncbmgpaaPr8
import Derived.Test.YtmbfgfhncbmgpaaIv
/- The law FnExactBadIn: what both sides come to, over numbers and lists alone. No condition. -/
namespace Go.Proofs.Ytmbfgfhncbmgpaa.Ax
open Go.RowKit Go.Proofs.Ytmbfgfhncbmgpaa.Pr Go.Proofs.Ytmbfgfhncbmgpaa.Pl Go.Proofs.YtmbfgfhncbmgpaaW.PrintWords Go.Proofs.YtmbfgfhncbmgpaaW.PrintLast Go.Proofs.YtmbfgfhncbmgpaaW.PrintMore
set_option linter.unusedVariables false
set_option linter.unusedSimpArgs false
/-- A list of columns by its number, and those of the numbers within another one. -/
def lo6 (x : Nat) : List Int := ((List.range 6).filter fun i => x.testBit i).map Int.ofNat
def sub6 (n : Nat) : List (List Int) := ((List.range (n + 1)).filter fun x => x &&& n == x).map lo6
set_option maxRecDepth 100000 in
theorem tab_num : ∀ n : Nat, n < 64 → spec_l6Number.f 10 (lo6 n) = some (n : Int) := by decide +kernel
set_option maxRecDepth 100000 in
theorem tab_list : ∀ n : Nat, n < 64 → spec_l5List.f 10 (n : Int) = some (lo6 n) := by decide +kernel
set_option maxRecDepth 100000 in
theorem tab_bits : ∀ n : Nat, n < 64 → ∀ x : Nat, x < 64 → (decide (Go.bits .and .i64 (x : Int) (n : Int) = (x : Int)) = (x &&& n == x)) := by decide +kernel
set_option maxRecDepth 100000 in
theorem tab_subs : ∀ n : Nat, n < 64 → impl_lists.f 600 (lo6 n) = some (sub6 n) := by decide +kernel
theorem tab_all : ∀ b0 b1 b2 b3 b4 b5 : Bool, ∃ x, x < 64 ∧ (([0, 1, 2, 3, 4, 5] : List Int).filter fun i => if i = 0 then b0 else if i = 1 then b1 else if i = 2 then b2 else if i = 3 then b3 else if i = 4 then b4 else b5) = lo6 x := by decide +kernel
theorem tab_rise : ∀ x : Nat, x < 64 → (lo6 x).Pairwise (· < ·) := by decide +kernel
theorem tab_sub0 : ∀ n : Nat, n < 64 → ∀ x : Nat, x < 64 → (!(x &&& n == x) || (lo6 x).all fun e => (lo6 n).contains e) = true := by decide +kernel
theorem tab_sub (n : Nat) (hn : n < 64) (x : Nat) (hx : x < 64) (h : (x &&& n == x) = true) : ∀ e ∈ lo6 x, e ∈ lo6 n := by
  have := tab_sub0 n hn x hx
  rw [h] at this
  simpa using this
theorem p_lo6 {a : Int} {p : List Int} (h6 : a ≤ 6) (hp : GL a p) : ∃ x, x < 64 ∧ p = lo6 x := by
  have h : p = ([0, 1, 2, 3, 4, 5] : List Int).filter (fun i => decide (i ∈ p)) := by
    refine rising_uniq hp.1 (List.Pairwise.filter _ (by decide)) (fun x => ?_)
    simp only [List.mem_filter, decide_eq_true_eq]
    constructor
    · intro hx
      have := hp.2 x hx
      refine ⟨?_, hx⟩
      have h3 : x = 0 ∨ x = 1 ∨ x = 2 ∨ x = 3 ∨ x = 4 ∨ x = 5 := by omega
      simpa using h3
    · exact fun hx => hx.2
  obtain ⟨x, hx, e⟩ := tab_all (decide ((0 : Int) ∈ p)) (decide ((1 : Int) ∈ p)) (decide ((2 : Int) ∈ p)) (decide ((3 : Int) ∈ p)) (decide ((4 : Int) ∈ p)) (decide ((5 : Int) ∈ p))
  refine ⟨x, hx, h.trans (Eq.trans (List.filter_congr (fun i hi => ?_)) e)⟩
  simp only [List.mem_cons, List.not_mem_nil, or_false] at hi
  rcases hi with rfl | rfl | rfl | rfl | rfl | rfl <;> rfl
theorem Ev_if {α : Type} {c : Prop} [Decidable c] {g h : Nat → Option α} {r1 r2 : α} (h1 : Ev g r1) (h2 : Ev h r2) : Ev (fun k => if c then g k else h k) (if c then r1 else r2) := by
  by_cases hc : c
  · simp only [if_pos hc]
    exact h1
  · simp only [if_neg hc]
    exact h2
/-- Does a list break the form in a part? -/
def cutOf (l : List S32) (p s : List Int) : List Int := p.filter fun x => (clo l s).contains x
def bad (l : List S32) (p : List Int) : List (List Int) → List Int × List Int × Bool
  | [] => ([], [], false)
  | s :: ss => if ((cutOf l p s).length : Int) > (s.length : Int) then (if ((cutOf l p s).length : Int) < (p.length : Int) then (s, (cutOf l p s).filter fun x => !s.contains x, true) else bad l p ss) else bad l p ss
theorem bad_len (l : List S32) (p : List Int) : ∀ ss : List (List Int), (∀ s ∈ ss, s.length ≤ 6) → (bad l p ss).1.length ≤ 6 ∧ (bad l p ss).2.1.length ≤ p.length
  | [], _ => by simp [bad]
  | s :: ss, h => by
    have ih := bad_len l p ss (fun x hx => h x (by simp [hx]))
    have h1 := h s (by simp)
    have h2 : ((cutOf l p s).filter fun x => !s.contains x).length ≤ p.length := Nat.le_trans (List.length_filter_le _ _) (List.length_filter_le _ _)
    unfold bad
    split
    · split
      · exact ⟨h1, h2⟩
      · exact ih
    · exact ih
theorem badI_l0 {a : Int} (h1 : 1 ≤ a) (h6 : a ≤ 6) {l : List S32} (hl : GDs a l) {p : List Int} (hp : p.length ≤ 6) (X : List (List Int)) (hX : X.length < 9223372036854775807) : ∀ (ys : List (List Int)) (j : Nat), X.drop j = ys → (∀ s ∈ ys, GL a s) →
    Ev (fun k => impl_badIn.l0 k l p X (X.length : Int) (j : Int)) (bad l p ys)
  | [], j, h, _ => by
    have := drop_nil h
    refine ev_succ ?_
    simp only [impl_badIn.l0, if_neg (show ¬ ((j : Int) < (X.length : Int)) by omega)]
    exact ev_now rfl
  | s :: ys, j, h, hs => by
    obtain ⟨hj, h2, h3⟩ := drop_cons h
    have ih := badI_l0 h1 h6 hl hp X hX ys (j + 1) h3 (fun x hx => hs x (by simp [hx]))
    have hsl := GL_len (by omega) (hs s (by simp))
    have hcl : (cutOf l p s).length ≤ p.length := List.length_filter_le _ _
    refine ev_succ ?_
    simp only [impl_badIn.l0, if_pos (show (j : Int) < (X.length : Int) by omega), if_pos (show (0 : Int) ≤ (j : Int) by omega), rd_L1_drop h, wrap_succ (show j < 9223372036854775807 by omega)]
    refine Ev.bind (icl_ev h1 h6 hl (hs s (by simp))) ?_
    simp only [impl_both.f, if_pos (show p.length * 8 ≤ 140737488355328 by omega), Option.bind_some]
    unfold bad
    refine Ev_if ?_ ?_
    · refine Ev_if ?_ ?_
      · simp only [impl_without.f, if_pos (show ((p.filter fun x => (clo l s).contains x)).length * 8 ≤ 140737488355328 by unfold cutOf at hcl; omega), Option.bind_some]
        exact ev_now rfl
      · exact ih
    · exact ih
theorem badS_l0 {a : Int} (h1 : 1 ≤ a) (h6 : a ≤ 6) {l : List S32} (hl : GDs a l) {N : Nat} (hN : N < 64) (hp : GL a (lo6 N)) : ∀ (m j : Nat), j + m = N + 1 →
    Ev (fun k => spec_l6Bad.l0 k l (lo6 N) (N : Int) (j : Int)) (bad l (lo6 N) (((List.range' j m).filter fun x => x &&& N == x).map lo6))
  | 0, j, h => by
    refine ev_succ ?_
    simp only [spec_l6Bad.l0, if_neg (show ¬ ((j : Int) ≤ (N : Int)) by omega)]
    exact ev_now rfl
  | m + 1, j, h => by
    have ih := badS_l0 h1 h6 hl hN hp m (j + 1) (by omega)
    have hb := tab_bits N hN j (by omega)
    refine ev_succ ?_
    simp only [spec_l6Bad.l0, if_pos (show (j : Int) ≤ (N : Int) by omega), wrap_succ (show j < 9223372036854775807 by omega)]
    rw [List.range'_succ, List.filter_cons]
    cases e : (j &&& N == j) with
    | false =>
      rw [e] at hb
      simp only [if_neg (of_decide_eq_false hb), Bool.false_eq_true, if_false]
      exact ih
    | true =>
      rw [e] at hb
      have hs : GL a (lo6 j) := ⟨tab_rise j (by omega), fun x hx => hp.2 x (tab_sub N hN j (by omega) e x hx)⟩
      have hsl := GL_len (by omega) hs
      have hpl := GL_len (by omega) hp
      have hcl := GL_len (by omega) (clo_GL hl hs)
      have hct : (cutOf l (lo6 N) (lo6 j)).length ≤ (lo6 N).length := List.length_filter_le _ _
      simp only [if_pos (of_decide_eq_true hb), if_true, List.map_cons]
      refine Ev.bind (Ev.of (fun k => spec_l5List.mono _ k) (tab_list j (by omega))) ?_
      refine Ev.bind (scl_ev h1 h6 hl hs) ?_
      refine Ev.bind (l6Both_ev (lo6 N) (clo l (lo6 j)) (by omega) (by omega)) ?_
      unfold bad
      refine Ev_if ?_ ?_
      · refine Ev_if ?_ ?_
        · exact Ev.bind (l6Less_ev (cutOf l (lo6 N) (lo6 j)) (lo6 j) (by omega) (by omega)) (ev_now rfl)
        · exact ih
      · exact ih
end Go.Proofs.Ytmbfgfhncbmgpaa.Ax
namespace Go.Proofs.Ytmbfgfhncbmgpaa.Pu
open Go.RowKit Go.Proofs.Ytmbfgfhncbmgpaa.Pr Go.Proofs.Ytmbfgfhncbmgpaa.Pl Go.Proofs.Ytmbfgfhncbmgpaa.Ax Go.Proofs.YtmbfgfhncbmgpaaW.PrintWords Go.Proofs.YtmbfgfhncbmgpaaW.PrintLast Go.Proofs.YtmbfgfhncbmgpaaW.PrintMore
theorem BadIn_both (a : Int) (l : List S32) (p : List Int) (hO : OkDepS l) (hp : BdIntS p) : ∃ (y0 y1 : List Int) (b : Bool), Ev (fun k => spec_BadIn.f k a l p) (y0, y1, b) ∧ Ev (fun k => impl_BadIn.f k a l p) (y0, y1, b) ∧ BdIntS y0 ∧ BdIntS y1 := by
  have hp1 := hp.1
  have b0 : BdIntS [] := ⟨by simp, fun _ _ => trivial⟩
  simp only [spec_BadIn.f, impl_BadIn.f, impl_GoodDeps.f, Option.bind_some]
  cases e : gdV a l with
  | false =>
    refine ⟨[], [], false, ?_, ?_, b0, b0⟩
    · refine Ev.bind (l6Part_ev a l p hO (by omega)) ?_
      rw [e]
      exact ev_now rfl
    · rw [show (win a 1 6 && (decide (l.length ≤ 8) && l.all (okD a))) = false from e]
      exact ev_now rfl
  | true =>
    obtain ⟨⟨h1, h6⟩, hl⟩ := GDs_of e
    cases e2 : rs 0 (wrap64 (a - 1)) none p with
    | false =>
      refine ⟨[], [], false, ?_, ?_, b0, b0⟩
      · refine Ev.bind (l6Part_ev a l p hO (by omega)) ?_
        rw [e, e2]
        exact ev_now rfl
      · rw [show (win a 1 6 && (decide (l.length ≤ 8) && l.all (okD a))) = true from e]
        simp only [if_true]
        refine Ev.bind (areCols_ev a p (by omega)) ?_
        rw [e2]
        exact ev_now rfl
    | true =>
      have hpg := GL_of_rs h1 h6 e2
      obtain ⟨N, hN, rfl⟩ := p_lo6 h6 hpg
      have hpl := GL_len (by omega) hpg
      have hsub : ∀ s ∈ sub6 N, GL a s := fun s hs => by
        unfold sub6 at hs
        obtain ⟨x, hx, rfl⟩ := List.mem_map.1 hs
        obtain ⟨hx1, hx2⟩ := List.mem_filter.1 hx
        have := List.mem_range.1 hx1
        exact ⟨tab_rise x (by omega), fun y hy => hpg.2 y (tab_sub N hN x (by omega) hx2 y hy)⟩
      have hlen := bad_len l (lo6 N) (sub6 N) (fun s hs => by have := GL_len (by omega) (hsub s hs); omega)
      have sS := badS_l0 h1 h6 hl hN hpg (N + 1) 0 (by omega)
      have hXl : (sub6 N).length ≤ 64 := by
        unfold sub6
        rw [List.length_map]
        have := List.length_filter_le (fun x => x &&& N == x) (List.range (N + 1))
        rw [List.length_range] at this
        omega
      have sI := badI_l0 h1 h6 hl (show (lo6 N).length ≤ 6 by omega) (sub6 N) (by omega) (sub6 N) 0 rfl hsub
      rw [show (List.range' 0 (N + 1)) = List.range (N + 1) from List.range_eq_range'.symm] at sS
      have sS' : Ev (fun k => spec_l6Bad.l0 k l (lo6 N) (N : Int) 0) (bad l (lo6 N) (sub6 N)) := sS
      have sI' : Ev (fun k => impl_badIn.l0 k l (lo6 N) (sub6 N) ((sub6 N).length : Int) 0) (bad l (lo6 N) (sub6 N)) := sI
      refine ⟨(bad l (lo6 N) (sub6 N)).1, (bad l (lo6 N) (sub6 N)).2.1, (bad l (lo6 N) (sub6 N)).2.2, ?_, ?_, ⟨by omega, fun _ _ => trivial⟩, ⟨by omega, fun _ _ => trivial⟩⟩
      · refine Ev.bind (l6Part_ev a l _ hO (by omega)) ?_
        rw [e, e2]
        simp only [Bool.and_self, if_true, spec_l6Bad.f]
        refine Ev.bind (Ev.bind (Ev.of (fun k => spec_l6Number.mono _ k) (tab_num N hN)) sS') (ev_now rfl)
      · rw [show (win a 1 6 && (decide (l.length ≤ 8) && l.all (okD a))) = true from e]
        simp only [if_true]
        refine Ev.bind (areCols_ev a _ (by omega)) ?_
        rw [e2]
        simp only [if_true, impl_badIn.f]
        exact Ev.bind (Ev.bind (Ev.of (fun k => impl_lists.mono _ k) (tab_subs N hN)) sI') (ev_now rfl)
end Go.Proofs.Ytmbfgfhncbmgpaa.Pu

/- The walk of the law BadIn, given what its callees come to: it returns true and leaves what lay ahead of it. Written by lawk.py. Conditions: the equations of the callees. -/
namespace Go.Proofs.Ytmbfgfhncbmgpaa.L
open Go.RowKit Go.Proofs.Ytmbfgfhncbmgpaa Go.Proofs.Ytmbfgfhncbmgpaa.Pr Go.Proofs.YtmbfgfhncbmgpaaW.PrintWords Go.Proofs.YtmbfgfhncbmgpaaW.PrintLast Go.Proofs.YtmbfgfhncbmgpaaW.PrintMore
set_option linter.unusedVariables false
set_option linter.unusedSimpArgs false
set_option maxHeartbeats 4000000 in
set_option maxRecDepth 100000 in
theorem BadIn_len0 (a0 : Int) (A1 : Option Addr) (c1 : Nat) (l1 : (List S25)) (A2 : Option Addr) (c2 : Nat) (l2 : (List Int)) (w : World) (HR1 : Aside0 (Kd.C k25 w A1 l1.length l1)) (HC1 : Aside0 (l1.length ≤ c1)) (HR2 : Aside0 (Kd.C (Kd.int .i64) w A2 l2.length l2)) (HC2 : Aside0 (l2.length ≤ c2)) (g_ : decide (1048576 < (l2.length : Int)) = true) (g2_ : decide (1048576 < l2.length) = true) :
    Calls Try.prog 10 #[.int .i64 a0, .slice A1 l1.length c1, .slice A2 l2.length c2] w fun e w' => e = .returned (.bool true) ∧ Below w.heap.size w w' := by
  have HB := Aside0.mk (Below.refl w.heap.size w)
  go_enter Try.func10, Try.ntmps10
  go_wp2
  go_ret
  exact ⟨rfl, HB.out⟩
set_option maxHeartbeats 4000000 in
set_option maxRecDepth 100000 in
theorem BadIn_sz0 (a0 : Int) (A1 : Option Addr) (c1 : Nat) (l1 : (List S25)) (A2 : Option Addr) (c2 : Nat) (l2 : (List Int)) (s1 : Int) (k1 : Nat) (w : World) (HR1 : Aside0 (Kd.C k25 w A1 l1.length l1)) (HC1 : Aside0 (l1.length ≤ c1)) (HR2 : Aside0 (Kd.C (Kd.int .i64) w A2 l2.length l2)) (HC2 : Aside0 (l2.length ≤ c2)) (H1 : Aside0 (laws_szDepS.f k1 l1 1048576 = some s1)) (d0 : decide (1048576 < (l2.length : Int)) = false) (d1 : decide (1048576 < l2.length) = false) (d2 : decide (s1 < 0) = true) :
    Calls Try.prog 10 #[.int .i64 a0, .slice A1 l1.length c1, .slice A2 l2.length c2] w fun e w' => e = .returned (.bool true) ∧ Below w.heap.size w w' := by
  have HB := Aside0.mk (Below.refl w.heap.size w)
  go_enter Try.func10, Try.ntmps10
  go_wp2_with (first | (go_at_call 12; with_reducible refine (laws_szDepS.calls k1 _ _ l1 1048576 s1 _ ?s1_1 ?s1_2 H1.out).mono ?_; (case s1_1 => exact Kd.C_below HR1.out HB.out); (case s1_2 => exact HC1.out); rintro e w1 ⟨rfl, hb⟩; replace HB := Aside0.mk (below_step HB.out hb); clear hb))
  go_ret
  exact ⟨rfl, HB.out⟩
set_option maxHeartbeats 40000000 in
set_option maxRecDepth 100000 in
theorem BadIn (a0 : Int) (A1 : Option Addr) (c1 : Nat) (l1 : (List S25)) (A2 : Option Addr) (c2 : Nat) (l2 : (List Int)) (s1 : Int) (k1 : Nat) (x1_0 : (List S32)) (k2 : Nat) (x2_0 : (List Int)) (k3 : Nat) (y0_0 : (List Int)) (y0_1 : (List Int)) (y1 : Bool) (k4 : Nat) (k5 : Nat) (k6 : Nat) (k7 : Nat) (k8 : Nat) (M1 : Int) (M2 : Int) (M3 : Int) (k9 : Nat) (w : World) (HR1 : Aside0 (Kd.C k25 w A1 l1.length l1)) (HC1 : Aside0 (l1.length ≤ c1)) (HR2 : Aside0 (Kd.C (Kd.int .i64) w A2 l2.length l2)) (HC2 : Aside0 (l2.length ≤ c2)) (H1 : Aside0 (laws_szDepS.f k1 l1 1048576 = some s1)) (H2 : Aside0 (laws_toDepS.f k2 l1 = some x1_0)) (H3 : Aside0 (laws_toIntS.f k3 l2 = some x2_0)) (H4 : Aside0 (spec_BadIn.f k4 a0 x1_0 x2_0 = some (y0_0, y0_1, y1))) (H5 : Aside0 (impl_BadIn.f k5 a0 x1_0 x2_0 = some (y0_0, y0_1, y1))) (H6 : Aside0 (laws_eqDep.f k6 y0_0 y0_1 y0_0 y0_1 = some true)) (H7 : Aside0 (laws_eqDepS.f k7 x1_0 x1_0 = some true)) (H8 : Aside0 (laws_eqIntS.f k8 x2_0 x2_0 = some true)) (H9 : Aside0 (laws_heldDep.f k9 (Ax.mkDep_0 y0_0 y0_1 1) (Ax.mkDep_1 y0_0 y0_1 1) 1 = some M3)) (d0 : decide (1048576 < (l2.length : Int)) = false) (d1 : decide (1048576 < l2.length) = false) (d2 : decide (s1 < 0) = false) (d3 : decide (M1 < 0) = false) (d4 : decide (M2 < 0) = false) (d5 : decide (M3 < 0) = false) (HMM10 : Aside0 ((0 : Int) ≤ 1)) (HMM11 : Aside0 ((1 : Int) + (Ax.cntDepS x1_0 : Nat) = M1 ∧ M1 < 9223372036854775807)) (HMM20 : Aside0 ((0 : Int) ≤ M1)) (HMM21 : Aside0 ((M1 : Int) + (Ax.cntIntS x2_0 : Nat) = M2 ∧ M2 < 9223372036854775807)) (HMM30 : Aside0 ((0 : Int) ≤ 1)) (HMM31 : Aside0 ((1 : Int) + (Ax.cntDep y0_0 y0_1 : Nat) = M3 ∧ M3 < 9223372036854775807)) :
    Calls Try.prog 10 #[.int .i64 a0, .slice A1 l1.length c1, .slice A2 l2.length c2] w fun e w' => e = .returned (.bool true) ∧ Below w.heap.size w w' := by
  have HB := Aside0.mk (Below.refl w.heap.size w)
  go_enter Try.func10, Try.ntmps10
  go_wp2_with (first | (go_at_call 12; with_reducible refine (laws_szDepS.calls k1 _ _ l1 1048576 s1 _ ?s1_1 ?s1_2 H1.out).mono ?_; (case s1_1 => exact Kd.C_below HR1.out HB.out); (case s1_2 => exact HC1.out); rintro e w1 ⟨rfl, hb⟩; replace HB := Aside0.mk (below_step HB.out hb); clear hb))
  go_wp2_with (first | (go_at_call 15; with_reducible refine (laws_toDepSA.calls k2 _ _ l1 x1_0 _ ?s2_1 ?s2_2 H2.out).mono ?_; (case s2_1 => exact Kd.C_below HR1.out HB.out); (case s2_2 => exact HC1.out); rintro e w2 ⟨v2_0, rfl, ho0, hb⟩; have new_ : ∃ lo2 hi2 : Nat, Iv.Ob kA 32 w2 lo2 hi2 (fun k_ => True) v2_0 x1_0 ∧ w.heap.size ≤ lo2 := ⟨_, _, Iv.Ob.of_S ho0 (fun _ h_ => h_), (below_size HB.out)⟩; obtain ⟨lo2, hi2, o0_, d_w⟩ := new_; replace HB := Aside0.mk (below_step HB.out hb); clear hb ho0; obtain ⟨B2_0, e2_0, rfl⟩ := Iv.Ob.slice o0_; have O2_0 := Aside0.mk o0_; clear o0_; have DW_t2 := Aside0.mk d_w; clear d_w))
  go_wp2_with (first | (go_at_call 21; with_reducible refine (laws_toIntS.calls k3 _ _ l2 x2_0 _ ?s3_1 ?s3_2 H3.out).mono ?_; (case s3_1 => exact Kd.C_below HR2.out HB.out); (case s3_2 => exact HC2.out); rintro e w3 ⟨v3_0, rfl, ho0, hb⟩; have new_ : ∃ lo3 hi3 : Nat, Iv.Ob (Kd.int .i64) 3 w3 lo3 hi3 (fun k_ => True) v3_0 x2_0 ∧ w.heap.size ≤ lo3 ∧ hi2 ≤ lo3 := ⟨_, _, Iv.Ob.of_Rint ho0 (fun _ h_ => h_), (below_size HB.out), (Iv.Ob.size O2_0.out)⟩; obtain ⟨lo3, hi3, o0_, d_w, d_t2⟩ := new_; replace O2_0 := Aside0.mk (Iv.Ob.below O2_0.out hb); replace HB := Aside0.mk (below_step HB.out hb); clear hb ho0; obtain ⟨B3_0, e3_0, rfl⟩ := Iv.Ob.slice o0_; have O3_0 := Aside0.mk o0_; clear o0_; have DW_t3 := Aside0.mk d_w; clear d_w; have D_t2_t3 := Aside0.mk d_t2; clear d_t2))
  go_wp2_with (first | (go_at_call 42; with_reducible refine (spec_BadIn.calls k4 a0 _ _ x1_0 _ _ x2_0 y0_0 y0_1 y1 _ ?s4_1 ?s4_2 ?s4_3 ?s4_4 H4.out).mono ?_; (case s4_1 => exact kA_C (Iv.Ob.C O2_0.out)); (case s4_2 => exact (Iv.Ob.le O2_0.out)); (case s4_3 => exact Iv.Ob.C O3_0.out); (case s4_4 => exact (Iv.Ob.le O3_0.out)); rintro e w4 ⟨v4_0, v4_1, rfl, ho0, ho1, hb⟩; have new_ : ∃ lo4 hi4 : Nat, Iv.Ob (Kd.int .i64) 3 w4 lo4 hi4 (fun k_ => some k_ ≠ (v4_1 : Value).ownBlock) v4_0 y0_0 ∧ Iv.Ob (Kd.int .i64) 3 w4 lo4 hi4 (fun k_ => some k_ ≠ (v4_0 : Value).ownBlock) v4_1 y0_1 ∧ w.heap.size ≤ lo4 ∧ hi2 ≤ lo4 ∧ hi3 ≤ lo4 := ⟨_, _, Iv.Ob.of_Rint ho0 (fun _ h_ => h_), Iv.Ob.of_Rint ho1 (fun _ h_ => h_), (below_size HB.out), (Iv.Ob.size O2_0.out), (Iv.Ob.size O3_0.out)⟩; obtain ⟨lo4, hi4, o0_, o1_, d_w, d_t2, d_t3⟩ := new_; replace O2_0 := Aside0.mk (Iv.Ob.below O2_0.out hb); replace O3_0 := Aside0.mk (Iv.Ob.below O3_0.out hb); replace HB := Aside0.mk (below_step HB.out hb); clear hb ho0 ho1; obtain ⟨B4_0, e4_0, rfl⟩ := Iv.Ob.slice o0_; have O4_0 := Aside0.mk o0_; clear o0_; obtain ⟨B4_1, e4_1, rfl⟩ := Iv.Ob.slice o1_; have O4_1 := Aside0.mk o1_; clear o1_; have DW_w_ := Aside0.mk d_w; clear d_w; have D_t2_w_ := Aside0.mk d_t2; clear d_t2; have D_t3_w_ := Aside0.mk d_t3; clear d_t3; have E_t2_w0 : Aside0 (hi2 ≤ w4.heap.size) := Aside0.mk (Iv.Ob.size (w := w4) O2_0.out); have E_t3_w0 : Aside0 (hi3 ≤ w4.heap.size) := Aside0.mk (Iv.Ob.size (w := w4) O3_0.out); have E_w__w0 : Aside0 (hi4 ≤ w4.heap.size) := Aside0.mk (Iv.Ob.size (w := w4) O4_0.out); have bx1_ : World.cell? (World.alloc w4 (.cells #[.slice B4_0 (List.length y0_0) e4_0, .slice B4_1 (List.length y0_1) e4_1] 32)) ⟨w4.heap.size, 0, none⟩ = some (.slice B4_0 (List.length y0_0) e4_0) := Bx.box_new _ _ _ _ _ rfl; have bx2_ : World.cell? (World.alloc w4 (.cells #[.slice B4_0 (List.length y0_0) e4_0, .slice B4_1 (List.length y0_1) e4_1] 32)) ⟨w4.heap.size, 1, none⟩ = some (.slice B4_1 (List.length y0_1) e4_1) := Bx.box_new _ _ _ _ _ rfl; have hal_ := below_alloc (Below.refl (World.heap w4).size w4) (.cells #[.slice B4_0 (List.length y0_0) e4_0, .slice B4_1 (List.length y0_1) e4_1] 32); replace O2_0 := Aside0.mk (Iv.Ob.below O2_0.out hal_); replace O3_0 := Aside0.mk (Iv.Ob.below O3_0.out hal_); replace O4_0 := Aside0.mk (Iv.Ob.below O4_0.out hal_); replace O4_1 := Aside0.mk (Iv.Ob.below O4_1.out hal_); replace HB := Aside0.mk (below_alloc HB.out (.cells #[.slice B4_0 (List.length y0_0) e4_0, .slice B4_1 (List.length y0_1) e4_1] 32)); clear hal_; clear O2_0; clear O3_0))
  go_wp2_with (first | (go_at_call 15; with_reducible refine (laws_toDepSA.calls k2 _ _ l1 x1_0 _ ?s5_1 ?s5_2 H2.out).mono ?_; (case s5_1 => exact Kd.C_below HR1.out HB.out); (case s5_2 => exact HC1.out); rintro e w5 ⟨v5_0, rfl, ho0, hb⟩; have new_ : ∃ lo5 hi5 : Nat, Iv.Ob kA 32 w5 lo5 hi5 (fun k_ => True) v5_0 x1_0 ∧ w.heap.size ≤ lo5 ∧ w4.heap.size < lo5 ∧ hi4 ≤ lo5 := ⟨_, _, Iv.Ob.of_S ho0 (fun _ h_ => h_), (below_size HB.out), (Bx.box_lt bx1_), (Iv.Ob.size O4_0.out)⟩; obtain ⟨lo5, hi5, o0_, d_w, f_w0, d_w_⟩ := new_; replace O4_0 := Aside0.mk (Iv.Ob.below O4_0.out hb); replace O4_1 := Aside0.mk (Iv.Ob.below O4_1.out hb); replace bx1_ := Bx.box_later bx1_ hb; replace bx2_ := Bx.box_later bx2_ hb; replace HB := Aside0.mk (below_step HB.out hb); clear hb ho0; obtain ⟨B5_0, e5_0, rfl⟩ := Iv.Ob.slice o0_; have O5_0 := Aside0.mk o0_; clear o0_; have DW_x1 := Aside0.mk d_w; clear d_w; have D_w__x1 := Aside0.mk d_w_; clear d_w_; have F_w0_x1 := Aside0.mk f_w0; clear f_w0))
  go_wp2_with (first | (go_at_call 21; with_reducible refine (laws_toIntS.calls k3 _ _ l2 x2_0 _ ?s6_1 ?s6_2 H3.out).mono ?_; (case s6_1 => exact Kd.C_below HR2.out HB.out); (case s6_2 => exact HC2.out); rintro e w6 ⟨v6_0, rfl, ho0, hb⟩; have new_ : ∃ lo6 hi6 : Nat, Iv.Ob (Kd.int .i64) 3 w6 lo6 hi6 (fun k_ => True) v6_0 x2_0 ∧ w.heap.size ≤ lo6 ∧ w4.heap.size < lo6 ∧ hi4 ≤ lo6 ∧ hi5 ≤ lo6 := ⟨_, _, Iv.Ob.of_Rint ho0 (fun _ h_ => h_), (below_size HB.out), (Bx.box_lt bx1_), (Iv.Ob.size O4_0.out), (Iv.Ob.size O5_0.out)⟩; obtain ⟨lo6, hi6, o0_, d_w, f_w0, d_w_, d_x1⟩ := new_; replace O4_0 := Aside0.mk (Iv.Ob.below O4_0.out hb); replace O4_1 := Aside0.mk (Iv.Ob.below O4_1.out hb); replace O5_0 := Aside0.mk (Iv.Ob.below O5_0.out hb); replace bx1_ := Bx.box_later bx1_ hb; replace bx2_ := Bx.box_later bx2_ hb; replace HB := Aside0.mk (below_step HB.out hb); clear hb ho0; obtain ⟨B6_0, e6_0, rfl⟩ := Iv.Ob.slice o0_; have O6_0 := Aside0.mk o0_; clear o0_; have DW_x2 := Aside0.mk d_w; clear d_w; have D_w__x2 := Aside0.mk d_w_; clear d_w_; have D_x1_x2 := Aside0.mk d_x1; clear d_x1; have F_w0_x2 := Aside0.mk f_w0; clear f_w0))
  go_wp2_with (first | (go_at_call 43; with_reducible refine (impl_BadIn.calls k5 a0 _ _ x1_0 _ _ x2_0 y0_0 y0_1 y1 _ ?s7_1 ?s7_2 ?s7_3 ?s7_4 H5.out).mono ?_; (case s7_1 => exact kA_C (Iv.Ob.C O5_0.out)); (case s7_2 => exact (Iv.Ob.le O5_0.out)); (case s7_3 => exact Iv.Ob.C O6_0.out); (case s7_4 => exact (Iv.Ob.le O6_0.out)); rintro e w7 ⟨v7_0, v7_1, rfl, ho0, ho1, hb⟩; have new_ : ∃ lo7 hi7 : Nat, Iv.Ob (Kd.int .i64) 3 w7 lo7 hi7 (fun k_ => some k_ ≠ (v7_1 : Value).ownBlock) v7_0 y0_0 ∧ Iv.Ob (Kd.int .i64) 3 w7 lo7 hi7 (fun k_ => some k_ ≠ (v7_0 : Value).ownBlock) v7_1 y0_1 ∧ w.heap.size ≤ lo7 ∧ w4.heap.size < lo7 ∧ hi4 ≤ lo7 ∧ hi5 ≤ lo7 ∧ hi6 ≤ lo7 := ⟨_, _, Iv.Ob.of_Rint ho0 (fun _ h_ => h_), Iv.Ob.of_Rint ho1 (fun _ h_ => h_), (below_size HB.out), (Bx.box_lt bx1_), (Iv.Ob.size O4_0.out), (Iv.Ob.size O5_0.out), (Iv.Ob.size O6_0.out)⟩; obtain ⟨lo7, hi7, o0_, o1_, d_w, f_w0, d_w_, d_x1, d_x2⟩ := new_; replace O4_0 := Aside0.mk (Iv.Ob.below O4_0.out hb); replace O4_1 := Aside0.mk (Iv.Ob.below O4_1.out hb); replace O5_0 := Aside0.mk (Iv.Ob.below O5_0.out hb); replace O6_0 := Aside0.mk (Iv.Ob.below O6_0.out hb); replace bx1_ := Bx.box_later bx1_ hb; replace bx2_ := Bx.box_later bx2_ hb; replace HB := Aside0.mk (below_step HB.out hb); clear hb ho0 ho1; obtain ⟨B7_0, e7_0, rfl⟩ := Iv.Ob.slice o0_; have O7_0 := Aside0.mk o0_; clear o0_; obtain ⟨B7_1, e7_1, rfl⟩ := Iv.Ob.slice o1_; have O7_1 := Aside0.mk o1_; clear o1_; have DW_g_ := Aside0.mk d_w; clear d_w; have D_w__g_ := Aside0.mk d_w_; clear d_w_; have D_x1_g_ := Aside0.mk d_x1; clear d_x1; have D_x2_g_ := Aside0.mk d_x2; clear d_x2; have F_w0_g_ := Aside0.mk f_w0; clear f_w0; have E_w__g0 : Aside0 (hi4 ≤ w7.heap.size) := Aside0.mk (Iv.Ob.size (w := w7) O4_0.out); have E_x1_g0 : Aside0 (hi5 ≤ w7.heap.size) := Aside0.mk (Iv.Ob.size (w := w7) O5_0.out); have E_x2_g0 : Aside0 (hi6 ≤ w7.heap.size) := Aside0.mk (Iv.Ob.size (w := w7) O6_0.out); have E_g__g0 : Aside0 (hi7 ≤ w7.heap.size) := Aside0.mk (Iv.Ob.size (w := w7) O7_0.out); have bx3_ : World.cell? (World.alloc w7 (.cells #[.slice B7_0 (List.length y0_0) e7_0, .slice B7_1 (List.length y0_1) e7_1] 32)) ⟨w7.heap.size, 0, none⟩ = some (.slice B7_0 (List.length y0_0) e7_0) := Bx.box_new _ _ _ _ _ rfl; have bx4_ : World.cell? (World.alloc w7 (.cells #[.slice B7_0 (List.length y0_0) e7_0, .slice B7_1 (List.length y0_1) e7_1] 32)) ⟨w7.heap.size, 1, none⟩ = some (.slice B7_1 (List.length y0_1) e7_1) := Bx.box_new _ _ _ _ _ rfl; have hal_ := below_alloc (Below.refl (World.heap w7).size w7) (.cells #[.slice B7_0 (List.length y0_0) e7_0, .slice B7_1 (List.length y0_1) e7_1] 32); replace bx1_ := Bx.box_later bx1_ hal_; replace bx2_ := Bx.box_later bx2_ hal_; replace O4_0 := Aside0.mk (Iv.Ob.below O4_0.out hal_); replace O4_1 := Aside0.mk (Iv.Ob.below O4_1.out hal_); replace O5_0 := Aside0.mk (Iv.Ob.below O5_0.out hal_); replace O6_0 := Aside0.mk (Iv.Ob.below O6_0.out hal_); replace O7_0 := Aside0.mk (Iv.Ob.below O7_0.out hal_); replace O7_1 := Aside0.mk (Iv.Ob.below O7_1.out hal_); replace HB := Aside0.mk (below_alloc HB.out (.cells #[.slice B7_0 (List.length y0_0) e7_0, .slice B7_1 (List.length y0_1) e7_1] 32)); clear hal_))
  go_wp2_with (first | (go_at_call 19; with_reducible refine (laws_eqDep.calls k6 _ _ y0_0 _ _ y0_1 _ _ y0_0 _ _ y0_1 true _ ?s8_1 ?s8_2 ?s8_3 ?s8_4 ?s8_5 ?s8_6 ?s8_7 ?s8_8 H6.out).mono ?_; (case s8_1 => exact Iv.Ob.C O7_0.out); (case s8_2 => exact (Iv.Ob.le O7_0.out)); (case s8_3 => exact Iv.Ob.C O7_1.out); (case s8_4 => exact (Iv.Ob.le O7_1.out)); (case s8_5 => exact Iv.Ob.C O4_0.out); (case s8_6 => exact (Iv.Ob.le O4_0.out)); (case s8_7 => exact Iv.Ob.C O4_1.out); (case s8_8 => exact (Iv.Ob.le O4_1.out)); rintro e w8 ⟨rfl, hb⟩; replace O4_0 := Aside0.mk (Iv.Ob.below O4_0.out hb); replace O4_1 := Aside0.mk (Iv.Ob.below O4_1.out hb); replace O5_0 := Aside0.mk (Iv.Ob.below O5_0.out hb); replace O6_0 := Aside0.mk (Iv.Ob.below O6_0.out hb); replace O7_0 := Aside0.mk (Iv.Ob.below O7_0.out hb); replace O7_1 := Aside0.mk (Iv.Ob.below O7_1.out hb); replace bx1_ := Bx.box_later bx1_ hb; replace bx2_ := Bx.box_later bx2_ hb; replace bx3_ := Bx.box_later bx3_ hb; replace bx4_ := Bx.box_later bx4_ hb; replace HB := Aside0.mk (below_step HB.out hb); clear hb))
  go_wp2_with (first | (go_at_call 15; with_reducible refine (laws_toDepSA.calls k2 _ _ l1 x1_0 _ ?s9_1 ?s9_2 H2.out).mono ?_; (case s9_1 => exact Kd.C_below HR1.out HB.out); (case s9_2 => exact HC1.out); rintro e w9 ⟨v9_0, rfl, ho0, hb⟩; have new_ : ∃ lo9 hi9 : Nat, Iv.Ob kA 32 w9 lo9 hi9 (fun k_ => True) v9_0 x1_0 ∧ w.heap.size ≤ lo9 ∧ w4.heap.size < lo9 ∧ w7.heap.size < lo9 ∧ hi4 ≤ lo9 ∧ hi5 ≤ lo9 ∧ hi6 ≤ lo9 ∧ hi7 ≤ lo9 := ⟨_, _, Iv.Ob.of_S ho0 (fun _ h_ => h_), (below_size HB.out), (Bx.box_lt bx1_), (Bx.box_lt bx3_), (Iv.Ob.size O4_0.out), (Iv.Ob.size O5_0.out), (Iv.Ob.size O6_0.out), (Iv.Ob.size O7_0.out)⟩; obtain ⟨lo9, hi9, o0_, d_w, f_w0, f_g0, d_w_, d_x1, d_x2, d_g_⟩ := new_; replace O4_0 := Aside0.mk (Iv.Ob.below O4_0.out hb); replace O4_1 := Aside0.mk (Iv.Ob.below O4_1.out hb); replace O5_0 := Aside0.mk (Iv.Ob.below O5_0.out hb); replace O6_0 := Aside0.mk (Iv.Ob.below O6_0.out hb); replace O7_0 := Aside0.mk (Iv.Ob.below O7_0.out hb); replace O7_1 := Aside0.mk (Iv.Ob.below O7_1.out hb); replace bx1_ := Bx.box_later bx1_ hb; replace bx2_ := Bx.box_later bx2_ hb; replace bx3_ := Bx.box_later bx3_ hb; replace bx4_ := Bx.box_later bx4_ hb; replace HB := Aside0.mk (below_step HB.out hb); clear hb ho0; obtain ⟨B9_0, e9_0, rfl⟩ := Iv.Ob.slice o0_; have O9_0 := Aside0.mk o0_; clear o0_; have DW_t9 := Aside0.mk d_w; clear d_w; have D_w__t9 := Aside0.mk d_w_; clear d_w_; have D_x1_t9 := Aside0.mk d_x1; clear d_x1; have D_x2_t9 := Aside0.mk d_x2; clear d_x2; have D_g__t9 := Aside0.mk d_g_; clear d_g_; have F_w0_t9 := Aside0.mk f_w0; clear f_w0; have F_g0_t9 := Aside0.mk f_g0; clear f_g0))
  go_wp2_with (first | (go_at_call 18; with_reducible refine (laws_eqDepS.calls k7 _ _ x1_0 _ _ x1_0 true _ ?s10_1 ?s10_2 ?s10_3 ?s10_4 H7.out).mono ?_; (case s10_1 => exact kA_C (Iv.Ob.C O5_0.out)); (case s10_2 => exact (Iv.Ob.le O5_0.out)); (case s10_3 => exact kA_C (Iv.Ob.C O9_0.out)); (case s10_4 => exact (Iv.Ob.le O9_0.out)); rintro e w10 ⟨rfl, hb⟩; replace O4_0 := Aside0.mk (Iv.Ob.below O4_0.out hb); replace O4_1 := Aside0.mk (Iv.Ob.below O4_1.out hb); replace O5_0 := Aside0.mk (Iv.Ob.below O5_0.out hb); replace O6_0 := Aside0.mk (Iv.Ob.below O6_0.out hb); replace O7_0 := Aside0.mk (Iv.Ob.below O7_0.out hb); replace O7_1 := Aside0.mk (Iv.Ob.below O7_1.out hb); replace O9_0 := Aside0.mk (Iv.Ob.below O9_0.out hb); replace bx1_ := Bx.box_later bx1_ hb; replace bx2_ := Bx.box_later bx2_ hb; replace bx3_ := Bx.box_later bx3_ hb; replace bx4_ := Bx.box_later bx4_ hb; replace HB := Aside0.mk (below_step HB.out hb); clear hb; clear O9_0))
  go_wp2_with (first | (go_at_call 21; with_reducible refine (laws_toIntS.calls k3 _ _ l2 x2_0 _ ?s11_1 ?s11_2 H3.out).mono ?_; (case s11_1 => exact Kd.C_below HR2.out HB.out); (case s11_2 => exact HC2.out); rintro e w11 ⟨v11_0, rfl, ho0, hb⟩; have new_ : ∃ lo11 hi11 : Nat, Iv.Ob (Kd.int .i64) 3 w11 lo11 hi11 (fun k_ => True) v11_0 x2_0 ∧ w.heap.size ≤ lo11 ∧ w4.heap.size < lo11 ∧ w7.heap.size < lo11 ∧ hi4 ≤ lo11 ∧ hi5 ≤ lo11 ∧ hi6 ≤ lo11 ∧ hi7 ≤ lo11 := ⟨_, _, Iv.Ob.of_Rint ho0 (fun _ h_ => h_), (below_size HB.out), (Bx.box_lt bx1_), (Bx.box_lt bx3_), (Iv.Ob.size O4_0.out), (Iv.Ob.size O5_0.out), (Iv.Ob.size O6_0.out), (Iv.Ob.size O7_0.out)⟩; obtain ⟨lo11, hi11, o0_, d_w, f_w0, f_g0, d_w_, d_x1, d_x2, d_g_⟩ := new_; replace O4_0 := Aside0.mk (Iv.Ob.below O4_0.out hb); replace O4_1 := Aside0.mk (Iv.Ob.below O4_1.out hb); replace O5_0 := Aside0.mk (Iv.Ob.below O5_0.out hb); replace O6_0 := Aside0.mk (Iv.Ob.below O6_0.out hb); replace O7_0 := Aside0.mk (Iv.Ob.below O7_0.out hb); replace O7_1 := Aside0.mk (Iv.Ob.below O7_1.out hb); replace bx1_ := Bx.box_later bx1_ hb; replace bx2_ := Bx.box_later bx2_ hb; replace bx3_ := Bx.box_later bx3_ hb; replace bx4_ := Bx.box_later bx4_ hb; replace HB := Aside0.mk (below_step HB.out hb); clear hb ho0; obtain ⟨B11_0, e11_0, rfl⟩ := Iv.Ob.slice o0_; have O11_0 := Aside0.mk o0_; clear o0_; have DW_t11 := Aside0.mk d_w; clear d_w; have D_w__t11 := Aside0.mk d_w_; clear d_w_; have D_x1_t11 := Aside0.mk d_x1; clear d_x1; have D_x2_t11 := Aside0.mk d_x2; clear d_x2; have D_g__t11 := Aside0.mk d_g_; clear d_g_; have F_w0_t11 := Aside0.mk f_w0; clear f_w0; have F_g0_t11 := Aside0.mk f_g0; clear f_g0))
  go_wp2_with (first | (go_at_call 23; with_reducible refine (laws_eqIntS.calls k8 _ _ x2_0 _ _ x2_0 true _ ?s12_1 ?s12_2 ?s12_3 ?s12_4 H8.out).mono ?_; (case s12_1 => exact Iv.Ob.C O6_0.out); (case s12_2 => exact (Iv.Ob.le O6_0.out)); (case s12_3 => exact Iv.Ob.C O11_0.out); (case s12_4 => exact (Iv.Ob.le O11_0.out)); rintro e w12 ⟨rfl, hb⟩; obtain ⟨nd_, hd_⟩ := hb; have hb := show Below (World.heap w11).size w11 w12 from hd_ ▸ pw_below_drewN (Below.refl _ _) nd_; clear hd_; replace O4_0 := Aside0.mk (Iv.Ob.below O4_0.out hb); replace O4_1 := Aside0.mk (Iv.Ob.below O4_1.out hb); replace O5_0 := Aside0.mk (Iv.Ob.below O5_0.out hb); replace O6_0 := Aside0.mk (Iv.Ob.below O6_0.out hb); replace O7_0 := Aside0.mk (Iv.Ob.below O7_0.out hb); replace O7_1 := Aside0.mk (Iv.Ob.below O7_1.out hb); replace O11_0 := Aside0.mk (Iv.Ob.below O11_0.out hb); replace bx1_ := Bx.box_later bx1_ hb; replace bx2_ := Bx.box_later bx2_ hb; replace bx3_ := Bx.box_later bx3_ hb; replace bx4_ := Bx.box_later bx4_ hb; replace HB := Aside0.mk (below_step HB.out hb); clear hb; clear O11_0))
  go_wp2_with (first | (go_at_call 31; with_reducible refine (Mk.markDepS w _ lo5 hi5 1 M1 _ x1_0 HB.out DW_x1.out O5_0.out HMM10.out HMM11.out).mono ?_; rintro e w13 ⟨rfl, mk0, hb, hk⟩; replace O4_0 := Aside0.mk (Iv.Ob.kept O4_0.out hk (by have h1_ := D_w__x1.out; omega)); replace O4_1 := Aside0.mk (Iv.Ob.kept O4_1.out hk (by have h1_ := D_w__x1.out; omega)); replace O6_0 := Aside0.mk (Iv.Ob.kept O6_0.out hk (by have h1_ := D_x1_x2.out; omega)); replace O7_0 := Aside0.mk (Iv.Ob.kept O7_0.out hk (by have h1_ := D_x1_g_.out; omega)); replace O7_1 := Aside0.mk (Iv.Ob.kept O7_1.out hk (by have h1_ := D_x1_g_.out; omega)); replace bx1_ := Bx.box_kept bx1_ hk (.inl (by have := F_w0_x1.out; simpa using this)); replace bx2_ := Bx.box_kept bx2_ hk (.inl (by have := F_w0_x1.out; simpa using this)); replace bx3_ := Bx.box_kept bx3_ hk (.inr (by have := E_x1_g0.out; simpa using this)); replace bx4_ := Bx.box_kept bx4_ hk (.inr (by have := E_x1_g0.out; simpa using this)); replace HB := Aside0.mk hb; clear hb hk; clear mk0; clear O5_0))
  go_wp2_with (first | (go_at_call 24; with_reducible refine (Mk.markIntS w _ lo6 hi6 M1 M2 _ x2_0 HB.out DW_x2.out O6_0.out HMM20.out HMM21.out).mono ?_; rintro e w14 ⟨rfl, mk0, hb, hk⟩; replace O4_0 := Aside0.mk (Iv.Ob.kept O4_0.out hk (by have h1_ := D_w__x2.out; omega)); replace O4_1 := Aside0.mk (Iv.Ob.kept O4_1.out hk (by have h1_ := D_w__x2.out; omega)); replace O7_0 := Aside0.mk (Iv.Ob.kept O7_0.out hk (by have h1_ := D_x2_g_.out; omega)); replace O7_1 := Aside0.mk (Iv.Ob.kept O7_1.out hk (by have h1_ := D_x2_g_.out; omega)); replace bx1_ := Bx.box_kept bx1_ hk (.inl (by have := F_w0_x2.out; simpa using this)); replace bx2_ := Bx.box_kept bx2_ hk (.inl (by have := F_w0_x2.out; simpa using this)); replace bx3_ := Bx.box_kept bx3_ hk (.inr (by have := E_x2_g0.out; simpa using this)); replace bx4_ := Bx.box_kept bx4_ hk (.inr (by have := E_x2_g0.out; simpa using this)); replace HB := Aside0.mk hb; clear hb hk; clear mk0; clear O6_0))
  go_wp2_with (first | (go_at_call 19; with_reducible refine (laws_eqDep.calls k6 _ _ y0_0 _ _ y0_1 _ _ y0_0 _ _ y0_1 true _ ?s15_1 ?s15_2 ?s15_3 ?s15_4 ?s15_5 ?s15_6 ?s15_7 ?s15_8 H6.out).mono ?_; (case s15_1 => exact Iv.Ob.C O7_0.out); (case s15_2 => exact (Iv.Ob.le O7_0.out)); (case s15_3 => exact Iv.Ob.C O7_1.out); (case s15_4 => exact (Iv.Ob.le O7_1.out)); (case s15_5 => exact Iv.Ob.C O4_0.out); (case s15_6 => exact (Iv.Ob.le O4_0.out)); (case s15_7 => exact Iv.Ob.C O4_1.out); (case s15_8 => exact (Iv.Ob.le O4_1.out)); rintro e w15 ⟨rfl, hb⟩; replace O4_0 := Aside0.mk (Iv.Ob.below O4_0.out hb); replace O4_1 := Aside0.mk (Iv.Ob.below O4_1.out hb); replace O7_0 := Aside0.mk (Iv.Ob.below O7_0.out hb); replace O7_1 := Aside0.mk (Iv.Ob.below O7_1.out hb); replace bx1_ := Bx.box_later bx1_ hb; replace bx2_ := Bx.box_later bx2_ hb; replace bx3_ := Bx.box_later bx3_ hb; replace bx4_ := Bx.box_later bx4_ hb; replace HB := Aside0.mk (below_step HB.out hb); clear hb))
  go_wp2_with (first | (go_at_call 25; with_reducible refine (Mk.markDep w _ lo7 hi7 1 M3 _ _ y0_0 y0_1 HB.out DW_g_.out O7_0.out O7_1.out HMM30.out HMM31.out).mono ?_; rintro e w16 ⟨rfl, mk0, mk1, hb, hk⟩; replace O4_0 := Aside0.mk (Iv.Ob.kept O4_0.out hk (by have h1_ := D_w__g_.out; omega)); replace O4_1 := Aside0.mk (Iv.Ob.kept O4_1.out hk (by have h1_ := D_w__g_.out; omega)); replace bx1_ := Bx.box_kept bx1_ hk (.inl (by have := F_w0_g_.out; simpa using this)); replace bx2_ := Bx.box_kept bx2_ hk (.inl (by have := F_w0_g_.out; simpa using this)); replace bx3_ := Bx.box_kept bx3_ hk (.inr (by have := E_g__g0.out; simpa using this)); replace bx4_ := Bx.box_kept bx4_ hk (.inr (by have := E_g__g0.out; simpa using this)); replace HB := Aside0.mk hb; clear hb hk; replace O7_0 := Aside0.mk mk0; replace O7_1 := Aside0.mk mk1; clear mk0; clear mk1))
  go_wp2_with (first | (go_at_call 44; with_reducible refine Bx.calls_at ?e17_ ((laws_heldDep.calls k9 B7_0 e7_0 (Ax.mkDep_0 y0_0 y0_1 1) B7_1 e7_1 (Ax.mkDep_1 y0_0 y0_1 1) 1 M3 _ ?s17_1 ?s17_2 ?s17_3 ?s17_4 H9.out).mono ?_); (case e17_ => simp only [Ax.mkIntS_length, Ax.mkOf_length]); (case s17_1 => exact Iv.Ob.C O7_0.out); (case s17_2 => exact (Iv.Ob.le O7_0.out)); (case s17_3 => exact Iv.Ob.C O7_1.out); (case s17_4 => exact (Iv.Ob.le O7_1.out)); rintro e w17 ⟨rfl, hb⟩; replace O4_0 := Aside0.mk (Iv.Ob.below O4_0.out hb); replace O4_1 := Aside0.mk (Iv.Ob.below O4_1.out hb); replace O7_0 := Aside0.mk (Iv.Ob.below O7_0.out hb); replace O7_1 := Aside0.mk (Iv.Ob.below O7_1.out hb); replace bx1_ := Bx.box_later bx1_ hb; replace bx2_ := Bx.box_later bx2_ hb; replace bx3_ := Bx.box_later bx3_ hb; replace bx4_ := Bx.box_later bx4_ hb; replace HB := Aside0.mk (below_step HB.out hb); clear hb))
  go_wp2_with (first | (go_at_call 15; with_reducible refine (laws_toDepSA.calls k2 _ _ l1 x1_0 _ ?s18_1 ?s18_2 H2.out).mono ?_; (case s18_1 => exact Kd.C_below HR1.out HB.out); (case s18_2 => exact HC1.out); rintro e w18 ⟨v18_0, rfl, ho0, hb⟩; have new_ : ∃ lo18 hi18 : Nat, Iv.Ob kA 32 w18 lo18 hi18 (fun k_ => True) v18_0 x1_0 ∧ w.heap.size ≤ lo18 ∧ w4.heap.size < lo18 ∧ w7.heap.size < lo18 ∧ hi4 ≤ lo18 ∧ hi7 ≤ lo18 := ⟨_, _, Iv.Ob.of_S ho0 (fun _ h_ => h_), (below_size HB.out), (Bx.box_lt bx1_), (Bx.box_lt bx3_), (Iv.Ob.size O4_0.out), (Iv.Ob.size O7_0.out)⟩; obtain ⟨lo18, hi18, o0_, d_w, f_w0, f_g0, d_w_, d_g_⟩ := new_; replace O4_0 := Aside0.mk (Iv.Ob.below O4_0.out hb); replace O4_1 := Aside0.mk (Iv.Ob.below O4_1.out hb); replace O7_0 := Aside0.mk (Iv.Ob.below O7_0.out hb); replace O7_1 := Aside0.mk (Iv.Ob.below O7_1.out hb); replace bx1_ := Bx.box_later bx1_ hb; replace bx2_ := Bx.box_later bx2_ hb; replace bx3_ := Bx.box_later bx3_ hb; replace bx4_ := Bx.box_later bx4_ hb; replace HB := Aside0.mk (below_step HB.out hb); clear hb ho0; obtain ⟨B18_0, e18_0, rfl⟩ := Iv.Ob.slice o0_; have O18_0 := Aside0.mk o0_; clear o0_; have DW_t18 := Aside0.mk d_w; clear d_w; have D_w__t18 := Aside0.mk d_w_; clear d_w_; have D_g__t18 := Aside0.mk d_g_; clear d_g_; have F_w0_t18 := Aside0.mk f_w0; clear f_w0; have F_g0_t18 := Aside0.mk f_g0; clear f_g0))
  go_wp2_with (first | (go_at_call 21; with_reducible refine (laws_toIntS.calls k3 _ _ l2 x2_0 _ ?s19_1 ?s19_2 H3.out).mono ?_; (case s19_1 => exact Kd.C_below HR2.out HB.out); (case s19_2 => exact HC2.out); rintro e w19 ⟨v19_0, rfl, ho0, hb⟩; have new_ : ∃ lo19 hi19 : Nat, Iv.Ob (Kd.int .i64) 3 w19 lo19 hi19 (fun k_ => True) v19_0 x2_0 ∧ w.heap.size ≤ lo19 ∧ w4.heap.size < lo19 ∧ w7.heap.size < lo19 ∧ hi4 ≤ lo19 ∧ hi7 ≤ lo19 ∧ hi18 ≤ lo19 := ⟨_, _, Iv.Ob.of_Rint ho0 (fun _ h_ => h_), (below_size HB.out), (Bx.box_lt bx1_), (Bx.box_lt bx3_), (Iv.Ob.size O4_0.out), (Iv.Ob.size O7_0.out), (Iv.Ob.size O18_0.out)⟩; obtain ⟨lo19, hi19, o0_, d_w, f_w0, f_g0, d_w_, d_g_, d_t18⟩ := new_; replace O4_0 := Aside0.mk (Iv.Ob.below O4_0.out hb); replace O4_1 := Aside0.mk (Iv.Ob.below O4_1.out hb); replace O7_0 := Aside0.mk (Iv.Ob.below O7_0.out hb); replace O7_1 := Aside0.mk (Iv.Ob.below O7_1.out hb); replace O18_0 := Aside0.mk (Iv.Ob.below O18_0.out hb); replace bx1_ := Bx.box_later bx1_ hb; replace bx2_ := Bx.box_later bx2_ hb; replace bx3_ := Bx.box_later bx3_ hb; replace bx4_ := Bx.box_later bx4_ hb; replace HB := Aside0.mk (below_step HB.out hb); clear hb ho0; obtain ⟨B19_0, e19_0, rfl⟩ := Iv.Ob.slice o0_; have O19_0 := Aside0.mk o0_; clear o0_; have DW_t19 := Aside0.mk d_w; clear d_w; have D_w__t19 := Aside0.mk d_w_; clear d_w_; have D_g__t19 := Aside0.mk d_g_; clear d_g_; have D_t18_t19 := Aside0.mk d_t18; clear d_t18; have F_w0_t19 := Aside0.mk f_w0; clear f_w0; have F_g0_t19 := Aside0.mk f_g0; clear f_g0))
  go_wp2_with (first | (go_at_call 43; with_reducible refine (impl_BadIn.calls k5 a0 _ _ x1_0 _ _ x2_0 y0_0 y0_1 y1 _ ?s20_1 ?s20_2 ?s20_3 ?s20_4 H5.out).mono ?_; (case s20_1 => exact kA_C (Iv.Ob.C O18_0.out)); (case s20_2 => exact (Iv.Ob.le O18_0.out)); (case s20_3 => exact Iv.Ob.C O19_0.out); (case s20_4 => exact (Iv.Ob.le O19_0.out)); rintro e w20 ⟨v20_0, v20_1, rfl, ho0, ho1, hb⟩; have new_ : ∃ lo20 hi20 : Nat, Iv.Ob (Kd.int .i64) 3 w20 lo20 hi20 (fun k_ => some k_ ≠ (v20_1 : Value).ownBlock) v20_0 y0_0 ∧ Iv.Ob (Kd.int .i64) 3 w20 lo20 hi20 (fun k_ => some k_ ≠ (v20_0 : Value).ownBlock) v20_1 y0_1 ∧ w.heap.size ≤ lo20 ∧ w4.heap.size < lo20 ∧ w7.heap.size < lo20 ∧ hi4 ≤ lo20 ∧ hi7 ≤ lo20 ∧ hi18 ≤ lo20 ∧ hi19 ≤ lo20 := ⟨_, _, Iv.Ob.of_Rint ho0 (fun _ h_ => h_), Iv.Ob.of_Rint ho1 (fun _ h_ => h_), (below_size HB.out), (Bx.box_lt bx1_), (Bx.box_lt bx3_), (Iv.Ob.size O4_0.out), (Iv.Ob.size O7_0.out), (Iv.Ob.size O18_0.out), (Iv.Ob.size O19_0.out)⟩; obtain ⟨lo20, hi20, o0_, o1_, d_w, f_w0, f_g0, d_w_, d_g_, d_t18, d_t19⟩ := new_; replace O4_0 := Aside0.mk (Iv.Ob.below O4_0.out hb); replace O4_1 := Aside0.mk (Iv.Ob.below O4_1.out hb); replace O7_0 := Aside0.mk (Iv.Ob.below O7_0.out hb); replace O7_1 := Aside0.mk (Iv.Ob.below O7_1.out hb); replace O18_0 := Aside0.mk (Iv.Ob.below O18_0.out hb); replace O19_0 := Aside0.mk (Iv.Ob.below O19_0.out hb); replace bx1_ := Bx.box_later bx1_ hb; replace bx2_ := Bx.box_later bx2_ hb; replace bx3_ := Bx.box_later bx3_ hb; replace bx4_ := Bx.box_later bx4_ hb; replace HB := Aside0.mk (below_step HB.out hb); clear hb ho0 ho1; obtain ⟨B20_0, e20_0, rfl⟩ := Iv.Ob.slice o0_; have O20_0 := Aside0.mk o0_; clear o0_; obtain ⟨B20_1, e20_1, rfl⟩ := Iv.Ob.slice o1_; have O20_1 := Aside0.mk o1_; clear o1_; have DW_h_ := Aside0.mk d_w; clear d_w; have D_w__h_ := Aside0.mk d_w_; clear d_w_; have D_g__h_ := Aside0.mk d_g_; clear d_g_; have D_t18_h_ := Aside0.mk d_t18; clear d_t18; have D_t19_h_ := Aside0.mk d_t19; clear d_t19; have F_w0_h_ := Aside0.mk f_w0; clear f_w0; have F_g0_h_ := Aside0.mk f_g0; clear f_g0; have E_w__h0 : Aside0 (hi4 ≤ w20.heap.size) := Aside0.mk (Iv.Ob.size (w := w20) O4_0.out); have E_g__h0 : Aside0 (hi7 ≤ w20.heap.size) := Aside0.mk (Iv.Ob.size (w := w20) O7_0.out); have E_t18_h0 : Aside0 (hi18 ≤ w20.heap.size) := Aside0.mk (Iv.Ob.size (w := w20) O18_0.out); have E_t19_h0 : Aside0 (hi19 ≤ w20.heap.size) := Aside0.mk (Iv.Ob.size (w := w20) O19_0.out); have E_h__h0 : Aside0 (hi20 ≤ w20.heap.size) := Aside0.mk (Iv.Ob.size (w := w20) O20_0.out); have bx5_ : World.cell? (World.alloc w20 (.cells #[.slice B20_0 (List.length y0_0) e20_0, .slice B20_1 (List.length y0_1) e20_1] 32)) ⟨w20.heap.size, 0, none⟩ = some (.slice B20_0 (List.length y0_0) e20_0) := Bx.box_new _ _ _ _ _ rfl; have bx6_ : World.cell? (World.alloc w20 (.cells #[.slice B20_0 (List.length y0_0) e20_0, .slice B20_1 (List.length y0_1) e20_1] 32)) ⟨w20.heap.size, 1, none⟩ = some (.slice B20_1 (List.length y0_1) e20_1) := Bx.box_new _ _ _ _ _ rfl; have hal_ := below_alloc (Below.refl (World.heap w20).size w20) (.cells #[.slice B20_0 (List.length y0_0) e20_0, .slice B20_1 (List.length y0_1) e20_1] 32); replace bx1_ := Bx.box_later bx1_ hal_; replace bx2_ := Bx.box_later bx2_ hal_; replace bx3_ := Bx.box_later bx3_ hal_; replace bx4_ := Bx.box_later bx4_ hal_; replace O4_0 := Aside0.mk (Iv.Ob.below O4_0.out hal_); replace O4_1 := Aside0.mk (Iv.Ob.below O4_1.out hal_); replace O7_0 := Aside0.mk (Iv.Ob.below O7_0.out hal_); replace O7_1 := Aside0.mk (Iv.Ob.below O7_1.out hal_); replace O18_0 := Aside0.mk (Iv.Ob.below O18_0.out hal_); replace O19_0 := Aside0.mk (Iv.Ob.below O19_0.out hal_); replace O20_0 := Aside0.mk (Iv.Ob.below O20_0.out hal_); replace O20_1 := Aside0.mk (Iv.Ob.below O20_1.out hal_); replace HB := Aside0.mk (below_alloc HB.out (.cells #[.slice B20_0 (List.length y0_0) e20_0, .slice B20_1 (List.length y0_1) e20_1] 32)); clear hal_; clear O18_0; clear O19_0))
  go_wp2_with (first | (go_at_call 19; with_reducible refine (laws_eqDep.calls k6 _ _ y0_0 _ _ y0_1 _ _ y0_0 _ _ y0_1 true _ ?s21_1 ?s21_2 ?s21_3 ?s21_4 ?s21_5 ?s21_6 ?s21_7 ?s21_8 H6.out).mono ?_; (case s21_1 => exact Iv.Ob.C O20_0.out); (case s21_2 => exact (Iv.Ob.le O20_0.out)); (case s21_3 => exact Iv.Ob.C O20_1.out); (case s21_4 => exact (Iv.Ob.le O20_1.out)); (case s21_5 => exact Iv.Ob.C O4_0.out); (case s21_6 => exact (Iv.Ob.le O4_0.out)); (case s21_7 => exact Iv.Ob.C O4_1.out); (case s21_8 => exact (Iv.Ob.le O4_1.out)); rintro e w21 ⟨rfl, hb⟩; replace O4_0 := Aside0.mk (Iv.Ob.below O4_0.out hb); replace O4_1 := Aside0.mk (Iv.Ob.below O4_1.out hb); replace O7_0 := Aside0.mk (Iv.Ob.below O7_0.out hb); replace O7_1 := Aside0.mk (Iv.Ob.below O7_1.out hb); replace O20_0 := Aside0.mk (Iv.Ob.below O20_0.out hb); replace O20_1 := Aside0.mk (Iv.Ob.below O20_1.out hb); replace bx1_ := Bx.box_later bx1_ hb; replace bx2_ := Bx.box_later bx2_ hb; replace bx3_ := Bx.box_later bx3_ hb; replace bx4_ := Bx.box_later bx4_ hb; replace bx5_ := Bx.box_later bx5_ hb; replace bx6_ := Bx.box_later bx6_ hb; replace HB := Aside0.mk (below_step HB.out hb); clear hb; clear O20_0; clear O20_1))
  go_wp2_with (first | (go_at_call 44; with_reducible refine Bx.calls_at ?e22_ ((laws_heldDep.calls k9 B7_0 e7_0 (Ax.mkDep_0 y0_0 y0_1 1) B7_1 e7_1 (Ax.mkDep_1 y0_0 y0_1 1) 1 M3 _ ?s22_1 ?s22_2 ?s22_3 ?s22_4 H9.out).mono ?_); (case e22_ => simp only [Ax.mkIntS_length, Ax.mkOf_length]); (case s22_1 => exact Iv.Ob.C O7_0.out); (case s22_2 => exact (Iv.Ob.le O7_0.out)); (case s22_3 => exact Iv.Ob.C O7_1.out); (case s22_4 => exact (Iv.Ob.le O7_1.out)); rintro e w22 ⟨rfl, hb⟩; replace O4_0 := Aside0.mk (Iv.Ob.below O4_0.out hb); replace O4_1 := Aside0.mk (Iv.Ob.below O4_1.out hb); replace O7_0 := Aside0.mk (Iv.Ob.below O7_0.out hb); replace O7_1 := Aside0.mk (Iv.Ob.below O7_1.out hb); replace bx1_ := Bx.box_later bx1_ hb; replace bx2_ := Bx.box_later bx2_ hb; replace bx3_ := Bx.box_later bx3_ hb; replace bx4_ := Bx.box_later bx4_ hb; replace bx5_ := Bx.box_later bx5_ hb; replace bx6_ := Bx.box_later bx6_ hb; replace HB := Aside0.mk (below_step HB.out hb); clear hb))
  go_ret
  exact ⟨rfl, HB.out⟩
end Go.Proofs.Ytmbfgfhncbmgpaa.L

/- The walk of the law FnExactBadIn (LBadIn), what its callees come to, and its pure statement (UBadIn) together. Written by lawkk.py. No condition. -/
namespace Go.Proofs.Ytmbfgfhncbmgpaa.K
open Go.RowKit Go.Proofs.Ytmbfgfhncbmgpaa Go.Proofs.Ytmbfgfhncbmgpaa.Ops Go.Proofs.Ytmbfgfhncbmgpaa.Ax Go.Proofs.Ytmbfgfhncbmgpaa.Pr Go.Proofs.Ytmbfgfhncbmgpaa.Pl Go.Proofs.YtmbfgfhncbmgpaaW.PrintWords
set_option linter.unusedVariables false
set_option maxRecDepth 100000 in
theorem BadIn (a0 : Int) (A1 : Option Addr) (c1 : Nat) (y1 : (List S25)) (A2 : Option Addr) (c2 : Nat) (y2 : (List Int)) (w : World) (h0 : Fii64 a0) (hl1 : y1.length ≤ c1) (hr1 : Kd.C k25 w A1 y1.length y1) (h1 : FL25 y1) (hl2 : y2.length ≤ c2) (hr2 : Kd.C (Kd.int .i64) w A2 y2.length y2) (h2 : FLii64 y2) :
    Calls Try.prog 10 #[.int .i64 a0, .slice A1 y1.length c1, .slice A2 y2.length c2] w fun e w' => e = .returned (.bool true) ∧ Below w.heap.size w w' := by
  by_cases g0 : (y2.length : Int) > 1048576
  · exact L.BadIn_len0 a0 A1 c1 y1 A2 c2 y2 w (Aside0.mk hr1) (Aside0.mk hl1) (Aside0.mk hr2) (Aside0.mk hl2) (decide_eq_true (by omega)) (decide_eq_true (by omega)) 
  have hB2 : BdIntS y2 := ⟨by omega, fun _ _ => trivial⟩
  obtain ⟨s1, v0, le0, b0⟩ := szDepS_ev y1 1048576 h1 (by omega) (by omega)
  obtain ⟨k1, e1⟩ := Ev.rounds v0
  by_cases hr0_ : s1 < 0
  · exact L.BadIn_sz0 a0 A1 c1 y1 A2 c2 y2 s1 k1 w (Aside0.mk hr1) (Aside0.mk hl1) (Aside0.mk hr2) (Aside0.mk hl2) (Aside0.mk e1) (decide_eq_false (by omega)) (decide_eq_false (by omega)) (decide_eq_true (by omega))
  have hB1 := b0 (by omega)
  obtain ⟨Y0_0, Y0_1, Y1, es, ei, hY0_0, hY0_1⟩ := Pu.BadIn_both a0 (y1.map cvDep) y2 (ok_DepS hB1) hB2
  have cb0 : Ax.cntDepS ((y1.map cvDep)) ≤ 1125899906842624 := Nat.le_trans (Ax.cntDepS_bd hB1) (by decide)
  have cb1 : Ax.cntIntS y2 ≤ 1125899906842624 := Nat.le_trans (Ax.cntIntS_bd hB2) (by decide)
  have cb2 : Ax.cntDep Y0_0 Y0_1 ≤ 1125899906842624 := Nat.le_trans (Ax.cntDep_bd hY0_0 hY0_1) (by decide)
  obtain ⟨k2, e2⟩ := Ev.rounds (toDepS_ev y1 hB1)
  obtain ⟨k3, e3⟩ := Ev.rounds (toIntS_ev y2 hB2)
  obtain ⟨k4, e4⟩ := Ev.rounds (es)
  obtain ⟨k5, e5⟩ := Ev.rounds (ei)
  obtain ⟨k6, e6⟩ := Ev.rounds (eqDep_ev ⟨Y0_0, Y0_1⟩ ⟨ok_IntS hY0_0, ok_IntS hY0_1⟩)
  obtain ⟨k7, e7⟩ := Ev.rounds (eqDepS_ev _ (ok_DepS hB1))
  obtain ⟨k8, e8⟩ := Ev.rounds (eqIntS_ev _ (ok_IntS hB2))
  obtain ⟨k9, e9⟩ := Ev.rounds (Ax.heldDep_ev' Y0_0 Y0_1 1 (by omega) (by omega))
  exact L.BadIn a0 A1 c1 y1 A2 c2 y2 s1 k1 (y1.map cvDep) k2 y2 k3 Y0_0 Y0_1 Y1 k4 k5 k6 k7 k8 ((1 : Int) + (Ax.cntDepS ((y1.map cvDep)) : Nat)) (((1 : Int) + (Ax.cntDepS ((y1.map cvDep)) : Nat)) + (Ax.cntIntS y2 : Nat)) ((1 : Int) + (Ax.cntDep Y0_0 Y0_1 : Nat)) k9 w (Aside0.mk hr1) (Aside0.mk hl1) (Aside0.mk hr2) (Aside0.mk hl2) (Aside0.mk e1) (Aside0.mk e2) (Aside0.mk e3) (Aside0.mk e4) (Aside0.mk e5) (Aside0.mk e6) (Aside0.mk e7) (Aside0.mk e8) (Aside0.mk e9) (decide_eq_false (by omega)) (decide_eq_false (by omega)) (decide_eq_false (by omega)) (decide_eq_false (by omega)) (decide_eq_false (by omega)) (decide_eq_false (by omega)) (Aside0.mk (by omega)) (Aside0.mk ⟨rfl, by omega⟩) (Aside0.mk (by omega)) (Aside0.mk ⟨rfl, by omega⟩) (Aside0.mk (by omega)) (Aside0.mk ⟨rfl, by omega⟩)
end Go.Proofs.Ytmbfgfhncbmgpaa.K
