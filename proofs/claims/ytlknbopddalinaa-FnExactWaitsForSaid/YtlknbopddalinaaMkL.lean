/- The marks in locks of the call's own: contract. Conditions: marks that Go can hold. -/

import Derived.Test.YtlknbopddalinaaMkI
import Derived.Test.YtlknbopddalinaaFd
namespace Go.Proofs.Ytlknbopddalinaa.Ax
set_option linter.unusedVariables false
abbrev cntLocks (l0 : List (List Int)) (l1 l2 : List Int) : Nat := cntIntSS l0 + (cntIntS l1 + cntIntS l2)
abbrev mkLocks_0 (l0 : List (List Int)) (l1 l2 : List Int) (m : Int) : List (List Int) := mkIntSS l0 m
abbrev mkLocks_1 (l0 : List (List Int)) (l1 l2 : List Int) (m : Int) : List Int := mkIntS l1 (m + (cntIntSS l0 : Nat))
abbrev mkLocks_2 (l0 : List (List Int)) (l1 l2 : List Int) (m : Int) : List Int := mkIntS l2 (m + (cntIntSS l0 : Nat) + (cntIntS l1 : Nat))
end Go.Proofs.Ytlknbopddalinaa.Ax
namespace Go.Proofs.Ytlknbopddalinaa.Mk
open Go.RowKit Go.Proofs.Ytlknbopddalinaa Go.Proofs.Ytlknbopddalinaa.Pr Go.Proofs.Ytlknbopddalinaa.Pl Go.Proofs.YtlknbopddalinaaW.PrintWords Go.Proofs.YtlknbopddalinaaW.PrintLast Go.Proofs.YtlknbopddalinaaW.PrintMore
set_option linter.unusedVariables false
set_option linter.unusedSimpArgs false
set_option maxHeartbeats 4000000 in
set_option maxRecDepth 100000 in
theorem markLocks (w0 w : World) (lo hi : Nat) (m M : Int) (v0 v1 v2 : Value) (l0 : List (List Int)) (l1 l2 : List Int) (hB : Below w0.heap.size w0 w) (hlo : w0.heap.size ≤ lo)
    (o0 : Iv.Ob (Kd.slice 3 (Kd.int .i64)) 23 w lo hi (fun k => some k ≠ v1.ownBlock ∧ some k ≠ v2.ownBlock) v0 l0) (o1 : Iv.Ob (Kd.int .i64) 3 w lo hi (fun k => some k ≠ v2.ownBlock) v1 l1) (o2 : Iv.Ob (Kd.int .i64) 3 w lo hi (fun k => some k ≠ v1.ownBlock) v2 l2)
    (h0 : 0 ≤ m) (h1 : m + (Ax.cntLocks l0 l1 l2 : Nat) = M ∧ M < 9223372036854775807) :
    Calls Try.prog 9 #[.agg #[v0, v1, v2], .int .i64 m] w fun e w' => e = .returned (.int .i64 M) ∧ Iv.Ob (Kd.slice 3 (Kd.int .i64)) 23 w' lo hi (fun k => some k ≠ v1.ownBlock ∧ some k ≠ v2.ownBlock) v0 (Ax.mkLocks_0 l0 l1 l2 m) ∧
      Iv.Ob (Kd.int .i64) 3 w' lo hi (fun k => some k ≠ v2.ownBlock) v1 (Ax.mkLocks_1 l0 l1 l2 m) ∧ Iv.Ob (Kd.int .i64) 3 w' lo hi (fun k => some k ≠ v1.ownBlock) v2 (Ax.mkLocks_2 l0 l1 l2 m) ∧ Below w0.heap.size w0 w' ∧ Kept w w' (fun k => lo ≤ k ∧ k < hi) := by
  obtain ⟨hM1, hM2⟩ := h1
  unfold Ax.cntLocks at hM1
  obtain ⟨A0, k0, rfl⟩ := o0.slice
  obtain ⟨A1, k1, rfl⟩ := o1.slice
  obtain ⟨A2, k2, rfl⟩ := o2.slice
  have hal := below_alloc (Below.refl w.heap.size w) (.cells #[.slice A0 l0.length k0, .slice A1 l1.length k1, .slice A2 l2.length k2] 25)
  obtain ⟨x0, x1, x2⟩ := boxed_cell3 w (.slice A0 l0.length k0) (.slice A1 l1.length k1) (.slice A2 l2.length k2) 25
  have c1 := markIntSS_S w0 _ lo _ m (m + (Ax.cntIntSS l0 : Nat)) (.slice A0 l0.length k0) l0 (below_then hB hB.size hal) hlo (Kd.S_below (Kd.S_bound o0.1) hal) h0 ⟨rfl, by omega⟩
  have c2 := fun (W : World) (hB' : Below w0.heap.size w0 W) (h : (Kd.int .i64).R 3 W lo (fun k => some k = (Value.slice A1 l1.length k1).ownBlock) (.slice A1 l1.length k1) l1) => markIntS_R w0 W lo _ (m + (Ax.cntIntSS l0 : Nat)) (m + (Ax.cntIntSS l0 : Nat) + (Ax.cntIntS l1 : Nat)) (.slice A1 l1.length k1) l1 hB' hlo h (by omega) ⟨rfl, by omega⟩
  have c3 := fun (W : World) (hB' : Below w0.heap.size w0 W) (h : (Kd.int .i64).R 3 W lo (fun k => some k = (Value.slice A2 l2.length k2).ownBlock) (.slice A2 l2.length k2) l2) => markIntS_R w0 W lo _ (m + (Ax.cntIntSS l0 : Nat) + (Ax.cntIntS l1 : Nat)) M (.slice A2 l2.length k2) l2 hB' hlo h (by omega) ⟨by omega, hM2⟩
  have q1 := Kd.R_below (Ob_tight o1) hal
  have q2 := Kd.R_below (Ob_tight o2) hal
  have kw := Kept.of_below hal (fun k => lo ≤ k ∧ k < hi)
  have hhi := o0.2
  have C1 := Aside0.mk c1
  have C2 := Aside0.mk c2
  have C3 := Aside0.mk c3
  have O0 := Aside0.mk o0
  have O1 := Aside0.mk o1
  have O2 := Aside0.mk o2
  have Q1 := Aside0.mk q1
  have Q2 := Aside0.mk q2
  have X1 := Aside0.mk x1
  have X2 := Aside0.mk x2
  have HHI := Aside0.mk hhi
  have KW := Aside0.mk kw
  clear hB hlo o0 o1 o2 q1 q2 h0 hM1 hM2 c1 c2 c3 x1 x2 hal hhi kw
  go_enter Try.func9, Try.ntmps9
  go_wp2_with (first | (go_at_call 22; refine C1.out.mono ?_; clear C1; rintro e w1 ⟨rfl, hR, hB1, hK1⟩; have HS := Aside0.mk hR; have HB1 := Aside0.mk hB1; have HK1 := Aside0.mk hK1; have y1 := cell_kept X1.out hK1 (fun hs => absurd (show w.heap.size < hi from hs.1.1) (Nat.not_lt.2 HHI.out)); have y2 := Aside0.mk (cell_kept X2.out hK1 (fun hs => absurd (show w.heap.size < hi from hs.1.1) (Nat.not_lt.2 HHI.out))); clear hR hB1 hK1))
  go_wp2_with (first | (go_at_call 16; refine (C2.out w1 HB1.out (Kd.R_kept Q1.out HK1.out (fun k hk hs => hs.1.2.1 hk))).mono ?_; clear C2; rintro e w2 ⟨rfl, hR, hB2, hK2⟩; have HR1 := Aside0.mk hR; have HB2 := Aside0.mk hB2; have HK2 := Aside0.mk hK2; have z2 := cell_kept y2.out hK2 (fun hs => absurd (show w.heap.size < hi from (own_in O1.out _ hs).2) (Nat.not_lt.2 HHI.out)); clear hR hB2 hK2 y1))
  go_wp2_with (first | (go_at_call 16; refine (C3.out w2 HB2.out (Kd.R_kept (Kd.R_kept Q2.out HK1.out (fun k hk hs => hs.1.2.2 hk)) HK2.out (fun k hk hs => (O2.out.R.1 k hk.symm).2 hs))).mono ?_; clear C3; rintro e w3 ⟨rfl, hR, hB3, hK3⟩; have HR2 := Aside0.mk hR; have HB3 := Aside0.mk hB3; have HK3 := Aside0.mk hK3; clear hR hB3 hK3))
  go_ret
  have hsz : w.heap.size ≤ w3.heap.size := Nat.le_trans KW.out.1 (Nat.le_trans HK1.out.1 (Nat.le_trans HK2.out.1 HK3.out.1))
  refine ⟨rfl, ⟨?_, Nat.le_trans O0.out.2 hsz⟩, ob_of O1.out ?_ hsz, ob_of O2.out HR2.out hsz, HB3.out, ?_⟩
  · exact Kd.S_mono (Kd.S_kept (Kd.S_kept HS.out HK2.out (fun k hk hs => hk.1.2.1 hs)) HK3.out (fun k hk hs => hk.1.2.2 hs)) (fun k hk => hk.1)
  · exact Kd.R_kept HR1.out HK3.out (fun k hk hs => (O1.out.R.1 k hk.symm).2 hs)
  · exact ((KW.out.then_ HK1.out (fun k hk => .inl ⟨hk.2.1, hk.1.1⟩)).then_ HK2.out (fun k hk => .inl (own_in O1.out k hk))).then_ HK3.out (fun k hk => .inl (own_in O2.out k hk))
end Go.Proofs.Ytlknbopddalinaa.Mk
