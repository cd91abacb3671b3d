/- Several small texts together: MkHDepS, KCoverOf. No condition but those they name. -/
import Derived.Test.YtdnidldinafakaaPr0
import Derived.Test.YtdnidldinafakaaPr12
import Derived.Test.YtdnidldinafakaaMx19
import Derived.Test.YtdnidldinafakaaLCoverOf
import Derived.Test.YtdnidldinafakaaMx14
import Derived.Test.YtdnidldinafakaaCv
/- The marks in a row of sentences are found again. No condition. -/
namespace Go.Proofs.Ytdnidldinafakaa.Ax
open Go.RowKit Go.Proofs.Ytdnidldinafakaa.Pr Go.Proofs.Ytdnidldinafakaa.Pl Go.Proofs.YtdnidldinafakaaW.PrintWords Go.Proofs.YtdnidldinafakaaW.PrintLast Go.Proofs.YtdnidldinafakaaW.PrintMore
set_option linter.unusedVariables false
theorem heldDepS_l0 (xs : List S42) (hx : xs.length < 9223372036854775807) : ∀ (ys : List S42) (j : Nat) (m : Int), 0 ≤ m → m + (cntDepS ys : Nat) < 9223372036854775807 → xs.drop j = mkDepS ys m →
    Ev (fun k => laws_heldDepS.l0 k xs m (j : Int)) (m + (cntDepS ys : Nat))
  | [], j, m, h0, hb, h => by
    have h1 := drop_nil h
    refine ev_succ ?_
    simp only [laws_heldDepS.l0]
    simp only [if_neg (show ¬ ((j : Int) < (xs.length : Int)) by omega)]
    exact ev_now (by simp [cntOf])
  | y :: ys, j, m, h0, hb, h => by
    rw [mkDepS, mkOf] at h
    obtain ⟨h1, h2, h3⟩ := drop_cons h
    have hc : cntDepS (y :: ys) = cntIntS y.f0 + cntIntS y.f1 + cntDepS ys := rfl
    rw [hc] at hb ⊢
    refine ev_succ ?_
    simp only [laws_heldDepS.l0]
    simp only [if_pos (show (j : Int) < (xs.length : Int) by omega), if_pos (show (0 : Int) ≤ (j : Int) by omega)]
    have hrd : rd_T42 xs (j : Int) = mD y m := by
      unfold rd_T42
      rw [Int.toNat_natCast, List.getD_eq_getElem?_getD, h2]
      rfl
    simp only [hrd]
    refine Ev.bind (heldIntS_ev' y.f0 m h0 (by omega)) ?_
    simp only [if_neg (show ¬ m + (cntIntS y.f0 : Nat) < 0 by omega)]
    refine Ev.bind (heldIntS_ev' y.f1 (m + (cntIntS y.f0 : Nat)) (by omega) (by omega)) ?_
    simp only [if_neg (show ¬ m + (cntIntS y.f0 : Nat) + (cntIntS y.f1 : Nat) < 0 by omega), wrap_succ (show j < 9223372036854775807 by omega)]
    have hm : m + ((cD y : Nat) : Int) = m + (cntIntS y.f0 : Nat) + (cntIntS y.f1 : Nat) := by
      show m + ((cntIntS y.f0 + cntIntS y.f1 : Nat) : Int) = _
      omega
    rw [hm] at h3
    have := heldDepS_l0 xs hx ys (j + 1) (m + (cntIntS y.f0 : Nat) + (cntIntS y.f1 : Nat)) (by omega) (by omega) h3
    rwa [show m + (cntIntS y.f0 : Nat) + (cntIntS y.f1 : Nat) + (cntDepS ys : Nat) = m + ((cntIntS y.f0 + cntIntS y.f1 + cntDepS ys : Nat) : Int) by omega] at this
theorem heldDepS_ev' (l : List S42) (m : Int) (hl : l.length < 9223372036854775807) (h0 : 0 ≤ m) (hb : m + (cntDepS l : Nat) < 9223372036854775807) : Ev (fun k => laws_heldDepS.f k (mkDepS l m) m) (m + (cntDepS l : Nat)) := by
  simp only [laws_heldDepS.f]
  exact heldDepS_l0 _ (by rw [mkOf_length]; exact hl) l 0 m h0 hb rfl
end Go.Proofs.Ytdnidldinafakaa.Ax

/- The walk of the law FnExactCoverOf (LCoverOf), what its callees come to, and its pure statement (UCoverOf) together. Written by lawkk.py. No condition. -/
namespace Go.Proofs.Ytdnidldinafakaa.K
open Go.RowKit Go.Proofs.Ytdnidldinafakaa Go.Proofs.Ytdnidldinafakaa.Ops Go.Proofs.Ytdnidldinafakaa.Ax Go.Proofs.Ytdnidldinafakaa.Pr Go.Proofs.Ytdnidldinafakaa.Pl Go.Proofs.YtdnidldinafakaaW.PrintWords
set_option linter.unusedVariables false
set_option maxRecDepth 100000 in
theorem CoverOf (a0 : Int) (A1 : Option Addr) (c1 : Nat) (y1 : (List S39)) (w : World) (h0 : Fii64 a0) (hl1 : y1.length ≤ c1) (hr1 : Kd.C k39 w A1 y1.length y1) (h1 : FL39 y1) :
    Calls Try.prog 3 #[.int .i64 a0, .slice A1 y1.length c1] w fun e w' => e = .returned (.bool true) ∧ Below w.heap.size w w' := by
  obtain ⟨s1, v0, le0, b0⟩ := szDepS_ev y1 1048576 h1 (by omega) (by omega)
  obtain ⟨k1, e1⟩ := Ev.rounds v0
  by_cases hr0_ : s1 < 0
  · exact L.CoverOf_sz0 a0 A1 c1 y1 s1 k1 w (Aside0.mk hr1) (Aside0.mk hl1) (Aside0.mk e1) (decide_eq_true (by omega))
  have hB1 := b0 (by omega)
  obtain ⟨Y0_0, Y1, es, ei, hY0_0⟩ := Pu.CoverOf_both a0 (y1.map cvDep) (ok_DepS hB1)
  have cb0 : Ax.cntDepS ((y1.map cvDep)) ≤ 1125899906842624 := Nat.le_trans (Ax.cntDepS_bd hB1) (by decide)
  have cb1 : Ax.cntDepS Y0_0 ≤ 1125899906842624 := Nat.le_trans (Ax.cntDS_bd hY0_0) (by decide)
  obtain ⟨k2, e2⟩ := Ev.rounds (toDepS_ev y1 hB1)
  obtain ⟨k3, e3⟩ := Ev.rounds (es)
  obtain ⟨k4, e4⟩ := Ev.rounds (ei)
  obtain ⟨k5, e5⟩ := Ev.rounds (eqDepS_ev _ (ok_DS hY0_0))
  obtain ⟨k6, e6⟩ := Ev.rounds (eqDepS_ev _ (ok_DepS hB1))
  obtain ⟨k7, e7⟩ := Ev.rounds (Ax.heldDepS_ev' Y0_0 1 (by have := hY0_0.1; omega) (by omega) (by omega))
  exact L.CoverOf a0 A1 c1 y1 s1 k1 (y1.map cvDep) k2 Y0_0 Y1 k3 k4 k5 k6 ((1 : Int) + (Ax.cntDepS ((y1.map cvDep)) : Nat)) ((1 : Int) + (Ax.cntDepS Y0_0 : Nat)) k7 w (Aside0.mk hr1) (Aside0.mk hl1) (Aside0.mk e1) (Aside0.mk e2) (Aside0.mk e3) (Aside0.mk e4) (Aside0.mk e5) (Aside0.mk e6) (Aside0.mk e7) (decide_eq_false (by omega)) (decide_eq_false (by omega)) (decide_eq_false (by omega)) (Aside0.mk (by omega)) (Aside0.mk ⟨rfl, by omega⟩) (Aside0.mk (by omega)) (Aside0.mk ⟨rfl, by omega⟩)
end Go.Proofs.Ytdnidldinafakaa.K
