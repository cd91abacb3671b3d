/- The law FnExactSerialOf over numbers and lists alone. No condition. -/
import Derived.Test.YtilkklbocjhdoaaPr0
import Derived.Test.YtilkklbocjhdoaaPr7
import Derived.Test.YtilkklbocjhdoaaPr8
import Derived.Test.YtilkklbocjhdoaaPr9
import Derived.Test.YtilkklbocjhdoaaOps
import Derived.Test.YtilkklbocjhdoaaA7c
import Derived.Test.YtilkklbocjhdoaaAm
import Derived.Test.YtilkklbocjhdoaaAh
namespace Go.Proofs.Ytilkklbocjhdoaa.Pu
open Go.RowKit Go.Proofs.Ytilkklbocjhdoaa.Pr Go.Proofs.Ytilkklbocjhdoaa.Pl Go.Proofs.Ytilkklbocjhdoaa.Ax Go.Proofs.Ytilkklbocjhdoaa.Ops Go.Proofs.YtilkklbocjhdoaaW.PrintWords Go.Proofs.YtilkklbocjhdoaaW.PrintLast Go.Proofs.YtilkklbocjhdoaaW.PrintMore
set_option linter.unusedVariables false
set_option linter.unusedSimpArgs false
/-- Nobody who has still to go clashes with this one before it. -/
def rest (c out : List Int) (who : Int) : Nat → Bool
  | 0 => true
  | d + 1 => (out.contains (3 - (d : Int)) || rd c (4 * (3 - (d : Int)) + who) == 0) && rest c out who d
def fr (c out : List Int) (who : Int) : Bool := !out.contains who && rest c out who 4
def pick (c out : List Int) : Int := if fr c out 0 = true then 0 else if fr c out 1 = true then 1 else if fr c out 2 = true then 2 else if fr c out 3 = true then 3 else -1
def ser (c : List Int) : Nat → List Int → List Int
  | 0, out => out
  | d + 1, out => if pick c out < 0 then [] else ser c d (out ++ [pick c out])
theorem rest_len (c out : List Int) : ∀ d, (ser c d out).length ≤ out.length + d
  | 0 => by simp [ser]
  | d + 1 => by
    rw [ser]
    split
    · simp
    · have := rest_len c (out ++ [pick c out]) d
      simp at this
      omega
theorem sSer_l2 (c out : List Int) (hc : c.length = 16) (ho : out.length < 4) (nx who : Int) (h0 : 0 ≤ who) (h3 : who ≤ 3) (r : List Int) : ∀ (d : Nat) (f : Bool), d ≤ 4 →
    Ev (fun k => spec_l7Serial.l1 k c out (if (f && rest c out who d) = true then who else nx) (who + 1)) r → Ev (fun k => spec_l7Serial.l2 k c out nx who f (4 - (d : Int))) r
  | 0, f, hd, h => by
    refine ev_succ ?_
    simp only [spec_l7Serial.l2]
    simp only [if_neg (show ¬ (4 - ((0 : Nat) : Int) < 4) by omega), wrap_in (show -9223372036854775808 ≤ who + 1 by omega) (show who + 1 < 9223372036854775808 by omega)]
    cases f
    · simpa [rest] using h
    · simpa [rest] using h
  | d + 1, f, hd, h => by
    have e1 : 4 - ((d + 1 : Nat) : Int) = 3 - (d : Int) := by omega
    have e2 : wrap64 (3 - (d : Int) + 1) = 4 - (d : Int) := by rw [wrap_in (by omega) (by omega)]; omega
    have e3 : wrap64 (wrap64 (4 * (3 - (d : Int))) + who) = 4 * (3 - (d : Int)) + who := by rw [wrap_in (x := 4 * (3 - (d : Int))) (by omega) (by omega), wrap_in (by omega) (by omega)]
    refine ev_succ ?_
    simp only [spec_l7Serial.l2, e1, e2, e3]
    simp only [if_pos (show 3 - (d : Int) < 4 by omega)]
    cases f
    · simp only [Bool.false_eq_true, if_false]
      exact sSer_l2 c out hc ho nx who h0 h3 r d false (by omega) (by simpa using h)
    · simp only [if_true]
      refine Ev.bind (l1Has_ev out _ (by omega)) ?_
      cases e : out.contains (3 - (d : Int))
      · simp only [Bool.false_eq_true, if_false, if_pos (show 0 ≤ 4 * (3 - (d : Int)) + who by omega), if_pos (show 4 * (3 - (d : Int)) + who < (c.length : Int) by omega)]
        refine sSer_l2 c out hc ho nx who h0 h3 r d _ (by omega) ?_
        simp only [rest, e, Bool.true_and, Bool.false_or, Bool.true_or] at h ⊢
        exact h
      · simp only [if_true]
        refine sSer_l2 c out hc ho nx who h0 h3 r d true (by omega) ?_
        simp only [rest, e, Bool.true_and, Bool.false_or, Bool.true_or] at h ⊢
        exact h
theorem sSer_step (c out : List Int) (hc : c.length = 16) (ho : out.length < 4) (nx who : Int) (h0 : 0 ≤ who) (h3 : who ≤ 3) (r : List Int)
    (h : Ev (fun k => spec_l7Serial.l1 k c out (if nx < 0 then (if fr c out who = true then who else nx) else nx) (who + 1)) r) : Ev (fun k => spec_l7Serial.l1 k c out nx who) r := by
  refine ev_succ ?_
  simp only [spec_l7Serial.l1]
  simp only [if_pos (show who < 4 by omega)]
  by_cases hn : nx < 0
  · simp only [if_pos hn] at h ⊢
    refine Ev.bind (l1Has_ev out _ (by omega)) (ev_succ ?_)
    simp only [spec_l7Serial.j2]
    exact sSer_l2 c out hc ho nx who h0 h3 r 4 _ (by omega) h
  · simp only [if_neg hn] at h ⊢
    refine ev_succ ?_
    simp only [spec_l7Serial.j2]
    exact sSer_l2 c out hc ho nx who h0 h3 r 4 false (by omega) (by simpa using h)
theorem pick_eq (c out : List Int) : (let n0 : Int := if (-1 : Int) < 0 then (if fr c out 0 = true then 0 else -1) else -1; let n1 : Int := if n0 < 0 then (if fr c out 1 = true then 1 else n0) else n0; let n2 : Int := if n1 < 0 then (if fr c out 2 = true then 2 else n1) else n1; if n2 < 0 then (if fr c out 3 = true then (3 : Int) else n2) else n2) = pick c out := by
  unfold pick
  cases fr c out 0 <;> cases fr c out 1 <;> cases fr c out 2 <;> cases fr c out 3 <;> decide
theorem pick_eq' (c out : List Int) : (if fr c out 0 = true then (0 : Int) else if fr c out 1 = true then 1 else if fr c out 2 = true then 2 else if fr c out 3 = true then 3 else -1) = pick c out := rfl
theorem sSer_l0 (c : List Int) (hc : c.length = 16) : ∀ (d : Nat) (out : List Int), out.length + d = 4 → Ev (fun k => spec_l7Serial.l0 k c out) (ser c d out)
  | 0, out, hd => by
    refine ev_succ ?_
    simp only [spec_l7Serial.l0]
    simp only [if_neg (show ¬ ((out.length : Int) < 4) by omega)]
    exact ev_now rfl
  | d + 1, out, hd => by
    refine ev_succ ?_
    simp only [spec_l7Serial.l0]
    simp only [if_pos (show (out.length : Int) < 4 by omega)]
    have ho : out.length < 4 := by omega
    refine sSer_step c out hc ho _ 0 (by omega) (by omega) _ (sSer_step c out hc ho _ 1 (by omega) (by omega) _ (sSer_step c out hc ho _ 2 (by omega) (by omega) _ (sSer_step c out hc ho _ 3 (by omega) (by omega) _ ?_)))
    have hp := pick_eq c out
    simp only [] at hp
    show Ev (fun k => spec_l7Serial.l1 k c out _ 4) _
    rw [hp]
    refine ev_succ ?_
    simp only [spec_l7Serial.l1]
    simp only [if_neg (show ¬ ((4 : Int) < 4) by omega), ser]
    by_cases hn : pick c out < 0
    · simp only [if_pos hn]
      exact ev_now rfl
    · simp only [if_neg hn, if_pos (show out.length < 17592186044416 by omega)]
      exact sSer_l0 c hc d (out ++ [pick c out]) (by simp; omega)
theorem iSer_l2 (c out : List Int) (hc : c.length = 16) (ho : out.length < 4) (nx who : Int) (h0 : 0 ≤ who) (h3 : who ≤ 3) (r : List Int × Bool) : ∀ (d : Nat) (f : Bool), d ≤ 4 →
    Ev (fun k => impl_serial.l1 k c out (if (f && rest c out who d) = true then who else nx) (who - 1)) r → Ev (fun k => impl_serial.l2 k c out nx who f (4 - (d : Int))) r
  | 0, f, hd, h => by
    refine ev_succ ?_
    simp only [impl_serial.l2]
    simp only [if_neg (show ¬ (4 - ((0 : Nat) : Int) < 4) by omega), wrap_in (show -9223372036854775808 ≤ who - 1 by omega) (show who - 1 < 9223372036854775808 by omega)]
    cases f
    · simpa [rest] using h
    · simpa [rest] using h
  | d + 1, f, hd, h => by
    have e1 : 4 - ((d + 1 : Nat) : Int) = 3 - (d : Int) := by omega
    have e2 : wrap64 (3 - (d : Int) + 1) = 4 - (d : Int) := by rw [wrap_in (by omega) (by omega)]; omega
    have e3 : wrap64 (wrap64 (4 * (3 - (d : Int))) + who) = 4 * (3 - (d : Int)) + who := by rw [wrap_in (x := 4 * (3 - (d : Int))) (by omega) (by omega), wrap_in (by omega) (by omega)]
    refine ev_succ ?_
    simp only [impl_serial.l2, e1, e2, e3]
    simp only [if_pos (show 3 - (d : Int) < 4 by omega)]
    cases f
    · simp only [Bool.false_eq_true, if_false]
      exact iSer_l2 c out hc ho nx who h0 h3 r d false (by omega) (by simpa using h)
    · simp only [if_true]
      refine Ev.bind (contains_ev out _ (by omega)) ?_
      cases e : out.contains (3 - (d : Int))
      · simp only [Bool.false_eq_true, if_false, if_pos (show 0 ≤ 4 * (3 - (d : Int)) + who by omega), if_pos (show 4 * (3 - (d : Int)) + who < (c.length : Int) by omega)]
        refine iSer_l2 c out hc ho nx who h0 h3 r d _ (by omega) ?_
        simp only [rest, e, Bool.true_and, Bool.false_or, Bool.true_or] at h ⊢
        exact h
      · simp only [if_true]
        refine iSer_l2 c out hc ho nx who h0 h3 r d true (by omega) ?_
        simp only [rest, e, Bool.true_and, Bool.false_or, Bool.true_or] at h ⊢
        exact h
theorem iSer_step (c out : List Int) (hc : c.length = 16) (ho : out.length < 4) (nx who : Int) (h0 : 0 ≤ who) (h3 : who ≤ 3) (r : List Int × Bool)
    (h : Ev (fun k => impl_serial.l1 k c out (if fr c out who = true then who else nx) (who - 1)) r) : Ev (fun k => impl_serial.l1 k c out nx who) r := by
  refine ev_succ ?_
  simp only [impl_serial.l1]
  simp only [if_pos (show who ≥ 0 by omega)]
  refine Ev.bind (contains_ev out _ (by omega)) ?_
  exact iSer_l2 c out hc ho nx who h0 h3 r 4 _ (by omega) h
theorem iSer_l0 (c : List Int) (hc : c.length = 16) : ∀ (d : Nat) (out : List Int), out.length + d = 4 → Ev (fun k => impl_serial.l0 k c out) (ser c d out, decide (((ser c d out).length : Int) > 0))
  | 0, out, hd => by
    refine ev_succ ?_
    simp only [impl_serial.l0]
    simp only [if_neg (show ¬ ((out.length : Int) < 4) by omega)]
    refine ev_now ?_
    rw [ser, decide_eq_true (show (out.length : Int) > 0 by omega)]
  | d + 1, out, hd => by
    refine ev_succ ?_
    simp only [impl_serial.l0]
    simp only [if_pos (show (out.length : Int) < 4 by omega)]
    have ho : out.length < 4 := by omega
    refine iSer_step c out hc ho _ 3 (by omega) (by omega) _ (iSer_step c out hc ho _ 2 (by omega) (by omega) _ (iSer_step c out hc ho _ 1 (by omega) (by omega) _ (iSer_step c out hc ho _ 0 (by omega) (by omega) _ ?_)))
    show Ev (fun k => impl_serial.l1 k c out (pick c out) (-1)) _
    refine ev_succ ?_
    simp only [impl_serial.l1]
    simp only [if_neg (show ¬ ((-1 : Int) ≥ 0) by omega), ser]
    by_cases hn : pick c out < 0
    · simp only [if_pos hn]
      exact ev_now rfl
    · simp only [if_neg hn, if_pos (show out.length < 17592186044416 by omega)]
      exact iSer_l0 c hc d (out ++ [pick c out]) (by simp; omega)
theorem SerialOf_both (l : List S47) (hb : l.length < 9223372036854775807) : ∃ out ok, Ev (fun k => spec_SerialOf.f k l) (out, ok) ∧ Ev (fun k => impl_SerialOf.f k l) (out, ok) ∧ out.length ≤ 16 := by
  simp only [spec_SerialOf.f, impl_SerialOf.f, impl_serial.f, spec_l7Serial.f]
  cases e : gp l
  · exact ⟨[], false, Ev.bind (sGoodPlay_ev l hb) (by simp only [e, Bool.false_eq_true, if_false]; exact ev_now rfl), Ev.bind (iGoodPlay_ev l) (by simp only [e, Bool.false_eq_true, if_false]; exact ev_now rfl), by simp⟩
  · obtain ⟨c, h1, h2, h3⟩ := conflicts_ev e
    have hl := rest_len c [] 4
    refine ⟨ser c 4 [], decide (((ser c 4 []).length : Int) > 0), Ev.bind (sGoodPlay_ev l hb) ?_, Ev.bind (iGoodPlay_ev l) ?_, by simp at hl; omega⟩
    · simp only [e, if_true]
      exact Ev.bind h2 (Ev.bind (sSer_l0 c h1 4 [] rfl) (ev_now rfl))
    · simp only [e, if_true]
      exact Ev.bind (Ev.bind h3 (iSer_l0 c h1 4 [] rfl)) (ev_now rfl)
theorem SerialOf (y0 : (List S50)) (h0 : FL50 y0) : ∃ k, laws_FnExactSerialOf.f k y0 = some true := by
  refine Ev.rounds ?_
  simp only [laws_FnExactSerialOf.f]
  obtain ⟨r, e1, _, b⟩ := szActS_ev y0 1048576 h0 (by omega) (by omega)
  refine Ev.bind e1 ?_
  by_cases hr : r < 0
  · simp only [if_pos hr]
    exact ev_now rfl
  · simp only [if_neg hr]
    have hB := b (by omega)
    have hc := toActS_ev y0 hB
    have hl := hB.1
    obtain ⟨out, ok, es, ei, hlo⟩ := SerialOf_both (y0.map cvAct) (by simp; omega)
    have ho : OkIntS out := ⟨by omega, fun _ _ => trivial⟩
    refine Ev.bind hc (Ev.bind es (Ev.bind hc (Ev.bind ei (Ev.bind (eqIntS_ev out ho) ?_))))
    simp only [if_true, bne_self_eq_false]
    refine ev_succ ?_
    simp only [laws_FnExactSerialOf.j0, Bool.false_eq_true, if_false]
    refine Ev.bind hc (Ev.bind (eqActS_ev _ (ok_ActS hB)) ?_)
    simp only [if_true]
    refine Ev.bind (markActS_ev _ 1 (by omega) (by simp; omega)) ?_
    simp only [if_neg (show ¬ (1 + 3 * ((y0.map cvAct).length : Int) < 0) by omega)]
    refine Ev.bind (eqIntS_ev out ho) ?_
    simp only [if_true, bne_self_eq_false]
    refine ev_succ ?_
    simp only [laws_FnExactSerialOf.j1, Bool.false_eq_true, if_false]
    refine Ev.bind (markIntS_ev out 1 (by omega) (by omega)) (Ev.bind (heldIntS_ev _ 1 (by omega) (by omega)) ?_)
    simp only [if_neg (show ¬ (1 + (out.length : Int) < 0) by omega), if_true]
    refine Ev.bind hc (Ev.bind ei (Ev.bind (eqIntS_ev out ho) ?_))
    simp only [if_true, bne_self_eq_false]
    refine ev_succ ?_
    simp only [laws_FnExactSerialOf.j2, Bool.false_eq_true, if_false]
    refine Ev.bind (heldIntS_ev _ 1 (by omega) (by omega)) ?_
    simp only [if_neg (show ¬ (1 + (out.length : Int) < 0) by omega), if_true]
    exact ev_now rfl
end Go.Proofs.Ytilkklbocjhdoaa.Pu
