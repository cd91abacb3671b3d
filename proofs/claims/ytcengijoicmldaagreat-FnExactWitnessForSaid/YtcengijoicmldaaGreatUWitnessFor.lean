/- The law FnExactWitnessFor over numbers and lists alone. No condition. -/
import Derived.Test.YtcengijoicmldaaGreatPr0
import Derived.Test.YtcengijoicmldaaGreatPr1
import Derived.Test.YtcengijoicmldaaGreatPr6
import Derived.Test.YtcengijoicmldaaGreatPr9
import Derived.Test.YtcengijoicmldaaGreatMx5
import Derived.Test.YtcengijoicmldaaGreatMx1
import Derived.Test.YtcengijoicmldaaGreatMerge0
import Derived.Test.YtcengijoicmldaaGreatMx10
namespace Go.Proofs.YtcengijoicmldaaGreat.Pu
open Go.RowKit Go.Proofs.YtcengijoicmldaaGreat.Pr Go.Proofs.YtcengijoicmldaaGreat.Pl Go.Proofs.YtcengijoicmldaaGreat.Ax Go.Proofs.YtcengijoicmldaaGreat.Ops Go.Proofs.YtcengijoicmldaaGreatW.PrintWords Go.Proofs.YtcengijoicmldaaGreatW.PrintLast Go.Proofs.YtcengijoicmldaaGreatW.PrintMore
set_option linter.unusedVariables false
set_option linter.unusedSimpArgs false
def colsW (n : Nat) : List Int := (List.range n).map Int.ofNat
theorem colsW_succ (n : Nat) : colsW (n + 1) = colsW n ++ [(n : Int)] := by simp [colsW, List.range_succ]
theorem colsW_len (n : Nat) : (colsW n).length = n := by simp [colsW]
def gW (c : List Int) (x : Int) : Int := if c.contains x = true then 0 else 1
def oW (c : List Int) (n : Nat) : List Int := (colsW n).map (gW c)
theorem oW_succ (c : List Int) (n : Nat) : oW c (n + 1) = oW c n ++ [gW c (n : Int)] := by simp [oW, colsW_succ]
theorem oW_len (c : List Int) (n : Nat) : (oW c n).length = n := by simp [oW, colsW_len]
theorem allCols_l0 (n : Nat) (hn : n ≤ 6) : ∀ (m j : Nat), j + m = n → Ev (fun k => impl_allColumns.l0 k (colsW j) (n : Int) (j : Int)) (colsW n)
  | 0, j, h => by
    refine ev_succ ?_
    simp only [impl_allColumns.l0, if_neg (show ¬ ((j : Int) < (n : Int)) by omega)]
    exact ev_now (by rw [show j = n by omega])
  | m + 1, j, h => by
    refine ev_succ ?_
    simp only [impl_allColumns.l0, if_pos (show (j : Int) < (n : Int) by omega), if_pos (show (colsW j).length < 17592186044416 by rw [colsW_len]; omega), wrap_succ (show j < 9223372036854775807 by omega)]
    have := allCols_l0 n hn m (j + 1) (by omega)
    rwa [colsW_succ] at this
theorem allCols_ev (n : Nat) (hn : n ≤ 6) : Ev (fun k => impl_allColumns.f k (n : Int)) (colsW n) := by
  simp only [impl_allColumns.f]
  exact allCols_l0 n hn n 0 (by omega)
theorem iW_l0 (c : List Int) (hc : c.length ≤ 9223372036854775807) (n : Nat) (hn : n ≤ 6) {r : List Int × List (List Int) × Bool} (hfin : Ev (fun k => impl_related.f (colsW n) [List.replicate n 0, oW c n]) r) :
    ∀ (m j : Nat), j + m = n → Ev (fun k => impl_WitnessFor.l0 k (n : Int) c (oW c j ++ List.replicate m 0) (n : Int) (j : Int)) r
  | 0, j, h => by
    refine ev_succ ?_
    simp only [impl_WitnessFor.l0, if_neg (show ¬ ((j : Int) < (n : Int)) by omega)]
    refine Ev.bind (allCols_ev n hn) ?_
    simp only [if_pos (show (0 : Int) ≤ (n : Int) by omega), Int.toNat_natCast, if_pos (show n ≤ 35184372088832 by omega)]
    obtain rfl : j = n := by omega
    rw [List.replicate_zero, List.append_nil]
    exact Ev.bind hfin (ev_now rfl)
  | m + 1, j, h => by
    refine ev_succ ?_
    simp only [impl_WitnessFor.l0, if_pos (show (j : Int) < (n : Int) by omega)]
    refine Ev.bind (contains_ev c (j : Int) hc) ?_
    have ih := iW_l0 c hc n hn hfin m (j + 1) (by omega)
    rw [oW_succ] at ih
    cases e : c.contains (j : Int)
    · simp only [Bool.false_eq_true, if_false, if_pos (show (0 : Int) ≤ (j : Int) by omega), List.length_append, oW_len, List.length_replicate, if_pos (show (j : Int) < ((j + (m + 1) : Nat) : Int) by omega), Int.toNat_natCast, wrap_succ (show j < 9223372036854775807 by omega)]
      have hs : (oW c j ++ List.replicate (m + 1) 0).set j 1 = oW c j ++ [gW c (j : Int)] ++ List.replicate m 0 := by
        rw [List.set_append_right _ _ (by rw [oW_len]; omega), oW_len, Nat.sub_self, List.replicate_succ, List.set_cons_zero, show gW c (j : Int) = 1 by unfold gW; rw [e]; rfl]
        simp
      rw [hs]
      exact ih
    · simp only [if_true, wrap_succ (show j < 9223372036854775807 by omega)]
      have hs : oW c j ++ List.replicate (m + 1) 0 = oW c j ++ [gW c (j : Int)] ++ List.replicate m 0 := by rw [show gW c (j : Int) = 0 by unfold gW; rw [e]; rfl]; simp [List.replicate_succ]
      rw [hs]
      exact ih
theorem sW_l0 (c : List Int) (hc : c.length ≤ 9223372036854775807) (n : Nat) (hn : n ≤ 6) {r : List Int × List (List Int) × Bool} (hfin : Ev (fun k => spec_l3Tell.f k (colsW n) [List.replicate n 0, oW c n]) r) :
    ∀ (m j : Nat), j + m = n → Ev (fun k => spec_WitnessFor.l0 k (n : Int) c (colsW j) (oW c j) (j : Int)) r
  | 0, j, h => by
    refine ev_succ ?_
    obtain rfl : j = n := by omega
    simp only [spec_WitnessFor.l0, if_neg (show ¬ ((j : Int) < (j : Int)) by omega), if_pos (show (0 : Int) ≤ (j : Int) by omega), Int.toNat_natCast, if_pos (show j ≤ 35184372088832 by omega)]
    exact Ev.bind hfin (ev_now rfl)
  | m + 1, j, h => by
    refine ev_succ ?_
    simp only [spec_WitnessFor.l0, if_pos (show (j : Int) < (n : Int) by omega), colsW_len, oW_len, if_pos (show j < 17592186044416 by omega), Option.bind_some, wrap_succ (show j < 9223372036854775807 by omega)]
    refine Ev.bind (l1Has_ev c (j : Int) hc) ?_
    have ih := sW_l0 c hc n hn hfin m (j + 1) (by omega)
    rw [oW_succ, colsW_succ] at ih
    cases e : c.contains (j : Int)
    · simp only [Bool.false_eq_true, if_false]
      rw [gW, e] at ih
      simpa using ih
    · simp only [if_true]
      rw [gW, e] at ih
      simpa using ih
def wiV (a : Int) (l : List S35) (f t : List Int) : List Int × List (List Int) × Bool :=
  if (gdV a l = true ∧ okD a ⟨f, t⟩ = true) ∧ sub t (clo l f) = false then tell (colsW a.toNat) (risen ltL [List.replicate a.toNat 0, oW (clo l f) a.toNat]) else ([], [], false)
theorem wiS_ev (a : Int) (l : List S35) (f t : List Int) (hO : OkDepS l) (hf : OkIntS f) (ht : OkIntS t) : Ev (fun k => spec_WitnessFor.f k a l f t) (wiV a l f t) := by
  simp only [spec_WitnessFor.f]
  refine Ev.bind (implS_ev a l f t hO hf ht) ?_
  unfold vImp wiV
  by_cases c : gdV a l = true ∧ okD a ⟨f, t⟩ = true
  · simp only [if_pos c, if_true]
    refine ev_succ ?_
    simp only [spec_WitnessFor.j0]
    cases e : sub t (clo l f)
    · obtain ⟨⟨h1, h6⟩, hl⟩ := GDs_of c.1
      have hd : GL a f ∧ GL a t := (okD_iff h1 h6 ⟨f, t⟩).1 c.2
      rw [if_pos (And.intro c rfl)]
      simp only [Bool.false_eq_true, if_false]
      refine Ev.bind (scl_ev h1 h6 hl hd.1) ?_
      have hc := GL_len (by omega) (clo_GL hl hd.1)
      obtain ⟨n, rfl⟩ : ∃ n : Nat, a = n := ⟨a.toNat, by omega⟩
      rw [Int.toNat_natCast]
      refine sW_l0 (clo l f) (by omega) n (by omega) ?_ n 0 (by omega)
      refine l3Tell_ev (colsW n) (by rw [colsW_len]; omega) n (by omega) [List.replicate n 0, oW (clo l f) n] (fun x hx => ?_) (by show 2 < 1000000; omega)
      rcases List.mem_cons.1 hx with h | h
      · rw [h, List.length_replicate]
      · rw [List.mem_singleton.1 h, oW_len]
    · simp only [if_true]
      exact ev_now (by rw [if_neg (fun h => by cases h.2)])
  · simp only [if_neg c, Bool.false_eq_true, if_false]
    refine ev_succ ?_
    simp only [spec_WitnessFor.j0, if_true]
    exact ev_now (by rw [if_neg (fun h => c h.1)])
theorem wiI_ev (a : Int) (l : List S35) (f t : List Int) (hO : OkDepS l) (hf : OkIntS f) (ht : OkIntS t) : Ev (fun k => impl_WitnessFor.f k a l f t) (wiV a l f t) := by
  have fin : ∀ b : Bool, (b = false → ((gdV a l = true ∧ okD a ⟨f, t⟩ = true) ∧ sub t (clo l f) = false)) → (b = true → ¬ ((gdV a l = true ∧ okD a ⟨f, t⟩ = true) ∧ sub t (clo l f) = false)) → Ev (fun k => impl_WitnessFor.j0 k a l b f t) (wiV a l f t) := by
    intro b hb1 hb2
    refine ev_succ ?_
    simp only [impl_WitnessFor.j0]
    unfold wiV
    cases b
    · have c := hb1 rfl
      obtain ⟨⟨h1, h6⟩, hl⟩ := GDs_of c.1.1
      have hd : GL a f ∧ GL a t := (okD_iff h1 h6 ⟨f, t⟩).1 c.1.2
      simp only [Bool.false_eq_true, if_false, if_pos c]
      refine Ev.bind (icl_ev h1 h6 hl hd.1) ?_
      have hc := GL_len (by omega) (clo_GL hl hd.1)
      obtain ⟨n, rfl⟩ : ∃ n : Nat, a = n := ⟨a.toNat, by omega⟩
      simp only [Int.toNat_natCast, if_pos (show (0 : Int) ≤ (n : Int) by omega), if_pos (show n ≤ 35184372088832 by omega), Option.bind_some, List.length_replicate]
      have h := iW_l0 (clo l f) (by omega) n (by omega) (r := tell (colsW n) (risen ltL [List.replicate n 0, oW (clo l f) n])) ?_ n 0 (by omega)
      · simpa [oW, colsW] using h
      · rw [related_eq (colsW n) (by rw [colsW_len]; omega) n (by omega) [List.replicate n 0, oW (clo l f) n] (fun x hx => ?_) (by show 2 < 1000000; omega)]
        · exact ev_now rfl
        · rcases List.mem_cons.1 hx with h | h
          · rw [h, List.length_replicate]
          · rw [List.mem_singleton.1 h, oW_len]
    · simp only [if_true]
      exact ev_now (by rw [if_neg (hb2 rfl)])
  simp only [impl_WitnessFor.f, impl_GoodDeps.f, Option.bind_some]
  refine Ev_ite (fun e => ?_) (fun e => ?_)
  · have e0 : gdV a l = true := e
    refine Ev.bind (isDep_ev' a f t (by have := hf.1; omega) (by have := ht.1; omega)) (Ev_ite (fun e3 => ?_) (fun e3 => ?_))
    · obtain ⟨⟨h1, h6⟩, hl⟩ := GDs_of e0
      have hd : GL a f ∧ GL a t := (okD_iff h1 h6 ⟨f, t⟩).1 e3
      exact Ev.bind (implies_ev h1 h6 hl t hd.1) (fin _ (fun h => ⟨⟨e0, e3⟩, h⟩) (fun h h2 => by rw [h] at h2; cases h2.2))
    · exact fin true (fun h => by cases h) (fun _ h => by rw [h.1.2] at e3; cases e3)
  · exact fin true (fun h => by cases h) (fun _ h => by rw [show gdV a l = false from e] at h; cases h.1.1)
theorem WitnessFor_both (a : Int) (l : List S35) (f t : List Int) (hO : OkDepS l) (hf : BdIntS f) (ht : BdIntS t) : ∃ (y0 : List Int) (y1 : List (List Int)) (b : Bool), Ev (fun k => spec_WitnessFor.f k a l f t) (y0, y1, b) ∧ Ev (fun k => impl_WitnessFor.f k a l f t) (y0, y1, b) ∧ BdIntS y0 ∧ BdIntSS y1 := by
  refine ⟨(wiV a l f t).1, (wiV a l f t).2.1, (wiV a l f t).2.2, wiS_ev a l f t hO (ok_IntS hf) (ok_IntS ht), wiI_ev a l f t hO (ok_IntS hf) (ok_IntS ht), ?_⟩
  unfold wiV
  by_cases c : (gdV a l = true ∧ okD a ⟨f, t⟩ = true) ∧ sub t (clo l f) = false
  · rw [if_pos c]
    obtain ⟨⟨h1, h6⟩, hl⟩ := GDs_of c.1.1
    have h := tell_bd (colsW a.toNat) (risen ltL [List.replicate a.toNat 0, oW (clo l f) a.toNat]) (fun x hx => by
      rcases List.mem_cons.1 ((mem_risen x _).1 hx) with h | h
      · rw [h, List.length_replicate]; omega
      · rw [List.mem_singleton.1 h, oW_len]; omega)
    exact ⟨⟨by omega, fun _ _ => trivial⟩, ⟨by omega, fun x hx => ⟨by have := h.2.2 x hx; omega, fun _ _ => trivial⟩⟩⟩
  · rw [if_neg c]
    exact ⟨⟨by simp, fun _ _ => trivial⟩, ⟨by simp, by simp⟩⟩
end Go.Proofs.YtcengijoicmldaaGreat.Pu
