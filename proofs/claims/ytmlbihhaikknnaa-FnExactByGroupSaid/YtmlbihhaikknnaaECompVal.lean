/- slices.Compact over values (structs of two cells): of neighbours that are alike the later ones go. Conditions: a row of the call's own. -/
import Derived.Test.YtmlbihhaikknnaaPr0
import Derived.Test.YtmlbihhaikknnaaPr1
import Derived.Test.YtmlbihhaikknnaaMx6
import Derived.Test.YtmlbihhaikknnaaMx5
import Derived.Test.YtmlbihhaikknnaaMx3
import Derived.Test.YtmlbihhaikknnaaFd
import Derived.Shelf.RegionOpenPlain
import Derived.Maps.Range
import Derived.IntWalk
import Derived.Deep.QuietTactic
import Derived.BigQuiet
namespace Go.Proofs.Ytmlbihhaikknnaa.Sp
open Go.RowKit Go.Proofs.Ytmlbihhaikknnaa.Ax Go.Proofs.Ytmlbihhaikknnaa.Pr Go.Proofs.YtmlbihhaikknnaaW.PrintWords Go.Proofs.YtmlbihhaikknnaaW.PrintLast Go.Proofs.YtmlbihhaikknnaaW.PrintMore
set_option linter.unusedVariables false
set_option linter.unusedSimpArgs false
attribute [local go_sem high] eqA43
def eqV (x y : S43) : Bool := x.f0 == y.f0 && (x.f1 == y.f1)
def CvPost (base g0 c : Nat) (r : List S43) (w : World) (e : Ending) (w' : World) : Prop :=
  e = .returned (.slice (some ⟨g0, 0, none⟩) r.length c) ∧ k43.R 43 w' base (fun _ => True) (.slice (some ⟨g0, 0, none⟩) r.length c) r ∧ w.grownBy w' (some g0)
theorem grown_belowV {w W W' : World} {g : Nat} (h : w.grownBy W (some g)) (hb : Below W.heap.size W W') : w.grownBy W' (some g) := h.andThen (grown_of_below hb (some g)) (fun j hj => .inr hj)
theorem grown_setV {w W : World} {g j : Nat} {v : Value} (h : w.grownBy W (some g)) : w.grownBy (W.setCell ⟨g, j, none⟩ v) (some g) :=
  h.andThen (row' := some g) ⟨rfl, rfl, rfl, by simp, fun k _ hk => Below.heap_setCell W ⟨g, j, none⟩ v k (fun e => hk (by rw [e]))⟩ (fun j hj => .inr hj)
theorem val_at {W : World} {e0 base g0 n c : Nat} {ok : Nat → Prop} {xs : List S43} (ho : k43.R e0 W base ok (.slice (some ⟨g0, 0, none⟩) n c) xs) (i : Nat) (hi : i < xs.length) :
    (W.cell? ⟨g0, i * 2, none⟩ = some (.bool (xs.getD i z43).f0) ∧ W.cell? ⟨g0, i * 2 + 1, none⟩ = some (.int .i64 (xs.getD i z43).f1)) ∧ W.frozen? ⟨g0, i * 2, none⟩ = false ∧ W.frozen? ⟨g0, i * 2 + 1, none⟩ = false := by
  obtain ⟨rfl, _, _⟩ := Kd.R_reads' ho
  obtain ⟨ce, hcl, hM, hcc, hfr⟩ := Kd.R_elem ho z43 (i : Int) (by omega) (by omega)
  obtain rfl := k43_openM hM
  have c0 := hcc 0 _ rfl
  have c1 := hcc 1 _ rfl
  have f0 := hfr 0
  have f1 := hfr 1
  simp only [Int.toNat_natCast, show (k43).sz = 2 from rfl, Nat.add_zero] at c0 c1 f0 f1
  exact ⟨⟨c0, c1⟩, f0, f1⟩
theorem val_put {W : World} {base g0 c : Nat} {xs : List S43} (ho : k43.R 43 W base (fun _ => True) (.slice (some ⟨g0, 0, none⟩) xs.length c) xs) (i : Nat) (hi : i < xs.length) (y : S43) :
    k43.R 43 ((W.setCell ⟨g0, i * 2, none⟩ (.bool y.f0)).setCell ⟨g0, i * 2 + 1, none⟩ (.int .i64 y.f1)) base (fun _ => True) (.slice (some ⟨g0, 0, none⟩) xs.length c) (xs.set i y) := by
  obtain ⟨ci, hcl, hMi, hcc, fr2⟩ := Kd.R_elem ho z43 (i : Int) (by omega) (by omega)
  obtain rfl := k43_openM hMi
  have h := (Kd.R_seg ho (i : Int) (by omega) (by omega) (seg := [.bool y.f0, .int .i64 y.f1]) (j := 0) hcl hcc (show 0 + 2 ≤ 2 from by decide) (x' := y) (k43_mkM _ _ _ y) (fun _ hk => hk)).1
  simpa [World.setCells, show (k43).sz = 2 from rfl] using h
set_option maxHeartbeats 8000000 in
set_option maxRecDepth 100000 in
theorem CompVal (base : Nat) (w : World) (g0 c : Nat) (l : List S43)
    (ho : k43.R 43 w base (fun _ => True) (.slice (some ⟨g0, 0, none⟩) l.length c) l) :
    Calls Try.prog 47 #[.slice (some ⟨g0, 0, none⟩) l.length c] w (CvPost base g0 c (cptN eqV z43 l l.length) w) := by
  have hC := (Kd.R_reads' ho).2.2
  have hlc := (Kd.R_reads' ho).2.1
  have HN := Aside0.mk hC.2.1
  have HLC := Aside0.mk hlc
  have HO := Aside0.mk ho
  have hu43 := Try.underlying43
  clear ho hC
  by_cases h2 : l.length < 2
  · have h2i : (l.length : Int) < 2 := by omega
    have HE := Aside0.mk (cptN_small (eq := eqV) (z := z43) h2)
    clear h2 hlc
    go_enter Try.func47, Try.ntmps47
    go_wp2
    go_ret
    unfold CvPost
    rw [HE.out]
    exact ⟨rfl, HO.out, grown_of_below (Below.refl _ _) _⟩
  · have h2i : ¬ (l.length : Int) < 2 := by omega
    have HL2 := Aside0.mk (show 2 ≤ l.length by omega)
    clear h2 hlc
    go_enter Try.func47, Try.ntmps47
    go_wp2
    go_loopg [3] (l.length + 1) (fun gg v5 wr => ∃ k : Nat, v5 = .int .i64 k ∧ Aside0 (1 ≤ k ∧ k ≤ l.length) ∧ Aside0 (l.length + 1 - k ≤ gg) ∧ Aside0 (Fresh eqV z43 l k) ∧ Aside0 (k43.R 43 wr base (fun _ => True) (.slice (some ⟨g0, 0, none⟩) l.length c) l) ∧ Aside0 (w.grownBy wr (some g0)))
    case atStart => exact ⟨1, rfl, ⟨⟨Nat.le_refl _, by have := HL2.out; omega⟩⟩, ⟨by omega⟩, ⟨Fresh_one⟩, HO, ⟨grown_of_below (Below.refl _ _) _⟩⟩
    case round =>
      clear HO
      obtain ⟨k, rfl, HK, HG, HF, HO, HW⟩ := hrel
      by_cases hlt : k < l.length
      · obtain ⟨k1, hk1⟩ : ∃ k1, k = k1 + 1 := ⟨k - 1, by have := HK.out; omega⟩
        have h1 : (k : Int) < (l.length : Int) := by omega
        obtain ⟨⟨x0, x1⟩, f0⟩ := val_at HO.out k hlt
        obtain ⟨⟨y0, y1⟩, f1⟩ := val_at HO.out k1 (by omega)
        have hw : IntKind.i64.wrap ((k : Int) - 1) = (k1 : Int) := by have := HN.out; rw [IntWalk.i64_in _ (by omega)]; omega
        have hk0 : 0 ≤ (k1 : Int) := by omega
        have hk2 : (k1 : Int) < (l.length : Int) := by omega
        have HWK := Aside0.mk (Pl.wrap_succ (show k < 9223372036854775807 by have := HN.out; omega))
        have HK1 := Aside0.mk hk1
        have HLT := Aside0.mk hlt
        clear hk1 hlt f0 f1
        generalize hx : l.getD k z43 = x at x0 x1
        generalize hy : l.getD k1 z43 = y at y0 y1
        have HX := Aside0.mk hx
        have HY := Aside0.mk hy
        clear hx hy
        cases he : eqV x y with
        | false =>
          have HE := Aside0.mk he
          unfold eqV at he
          go_wp2
          go_quiet (fail)
          go_wp2
          go_roundg (l.length - k)
          case measure => have := HG.out; have := HLT.out; omega
          case rel => exact ⟨k + 1, by rw [HWK.out], ⟨by omega⟩, ⟨by omega⟩, ⟨Fresh_step HK.out.1 HF.out HLT.out (by rw [HX.out, show k - 1 = k1 by rw [HK1.out]; rfl, HY.out]; exact HE.out)⟩, ⟨Kd.R_drewN HO.out _⟩, ⟨grown_belowV HW.out (pw_below_drewN (Below.refl _ _) _)⟩⟩
        | true =>
          have HE := Aside0.mk he
          unfold eqV at he
          go_wp2
          go_quiet (fail)
          have HI := Aside0.mk (CptInv_start HK.out.1 HF.out HLT.out (by rw [HX.out, show k - 1 = k1 by rw [HK1.out]; rfl, HY.out]; exact HE.out))
          have hck : ¬ c = k := by have := HLC.out; have := HLT.out; omega
          have hkl : (k : Int) ≤ (l.length : Int) := by omega
          have hkc : (k : Int) ≤ (c : Int) := by have := HLC.out; omega
          have HO1 := Aside0.mk (Kd.R_drewN HO.out nq)
          have HW1 := Aside0.mk (grown_belowV HW.out (pw_below_drewN (Below.refl _ _) nq))
          clear x0 x1 y0 y1 hw hk0 hk2 HO HW he
          go_wp2
          go_loopg [3, 5] (l.length + 1) (fun gg v5 v7 wr2 => ∃ (i j2 : Nat) (xs : List S43), v5 = .int .i64 i ∧ v7 = .int .i64 j2 ∧ Aside0 (1 ≤ j2) ∧ Aside0 (l.length + 1 - (k + j2) ≤ gg) ∧ Aside0 (CptInv eqV z43 l i (k + j2) xs) ∧ Aside0 (k43.R 43 wr2 base (fun _ => True) (.slice (some ⟨g0, 0, none⟩) l.length c) xs) ∧ Aside0 (w.grownBy wr2 (some g0)))
          case atStart => exact ⟨k, 1, l, rfl, rfl, ⟨Nat.le_refl _⟩, ⟨by omega⟩, HI, HO1, HW1⟩
          case round =>
            clear HO1 HW1 HI HX HY HE HF
            obtain ⟨i, j2, xs, rfl, rfl, HJ, HG2, HI, HO, HW⟩ := hrel
            by_cases hlt : k + j2 < l.length
            · obtain ⟨j3, hj3⟩ : ∃ j3, j2 = j3 + 1 := ⟨j2 - 1, by have := HJ.out; omega⟩
              have h1 : j2 < l.length - k := by omega
              have h1i : (j2 : Int) < ((l.length - k : Nat) : Int) := by omega
              obtain ⟨d1, d2, d3, d4, d5, d6⟩ := HI.out
              obtain ⟨⟨x0, x1⟩, _⟩ := val_at HO.out (k + j2) (by omega)
              obtain ⟨⟨y0, y1⟩, _⟩ := val_at HO.out (k + j3) (by omega)
              obtain ⟨⟨xi0, xi1⟩, fi0, fi1⟩ := val_at HO.out i (by omega)
              rw [CptInv_at HI.out (by omega)] at x0 x1 y0 y1
              rw [Nat.add_mul] at x0 x1 y0 y1
              have hw : IntKind.i64.wrap ((j2 : Int) - 1) = (j3 : Int) := by have := HN.out; rw [IntWalk.i64_in _ (by omega)]; omega
              have hk0 : 0 ≤ (j3 : Int) := by omega
              have hk2 : j3 < l.length - k := by omega
              have hk2i : (j3 : Int) < ((l.length - k : Nat) : Int) := by omega
              have hil : (i : Int) < (l.length : Int) := by omega
              have HWJ := Aside0.mk (Pl.wrap_succ (show j2 < 9223372036854775807 by have := HN.out; omega))
              have HWI := Aside0.mk (Pl.wrap_succ (show i < 9223372036854775807 by have := HN.out; omega))
              have HJ3 := Aside0.mk hj3
              have HLT := Aside0.mk hlt
              have HIL := Aside0.mk (show i < xs.length by omega)
              have HXL := Aside0.mk d4
              clear hj3 hlt d1 d2 d3 d4 d5 d6
              generalize hx : l.getD (k + j2) z43 = x at x0 x1
              generalize hy : l.getD (k + j3) z43 = y at y0 y1
              have HX := Aside0.mk hx
              have HY := Aside0.mk hy
              clear hx hy
              cases he : eqV x y with
              | true =>
                have HE := Aside0.mk he
                unfold eqV at he
                clear xi0 xi1 fi0 fi1
                have hne : (!(x.f0 == y.f0) || (!(x.f1 == y.f1))) = false := by rw [← Bool.not_and, he]; rfl
                go_wp2
                go_quiet (fail)
                go_wp2
                go_roundg (l.length - (k + j2))
                case measure => have := HG2.out; have := HLT.out; omega
                case rel => exact ⟨i, j2 + 1, xs, rfl, by rw [HWJ.out], ⟨by omega⟩, ⟨by omega⟩, ⟨CptInv_skip (j := k + j2) HI.out HLT.out (by rw [HX.out, show k + j2 - 1 = k + j3 by rw [HJ3.out]; rfl, HY.out]; exact HE.out)⟩, ⟨Kd.R_drewN HO.out _⟩, ⟨grown_belowV HW.out (pw_below_drewN (Below.refl _ _) _)⟩⟩
              | false =>
                have HE := Aside0.mk he
                unfold eqV at he
                have hne : (!(x.f0 == y.f0) || (!(x.f1 == y.f1))) = true := by rw [← Bool.not_and, he]; rfl
                go_wp2
                go_quiet (fail)
                go_wp2
                go_roundg (l.length - (k + j2))
                case measure => have := HG2.out; have := HLT.out; omega
                case rel => exact ⟨i + 1, j2 + 1, xs.set i x, by rw [HWI.out], by rw [HWJ.out], ⟨by omega⟩, ⟨by omega⟩, ⟨by have h_ := CptInv_keep (j := k + j2) HI.out HLT.out (by rw [HX.out, show k + j2 - 1 = k + j3 by rw [HJ3.out]; rfl, HY.out]; exact HE.out); rw [HX.out] at h_; exact h_⟩, ⟨by have h_ := val_put (by have h_ := Kd.R_drewN HO.out nq; rw [← HXL.out] at h_; exact h_) i HIL.out x; rw [HXL.out] at h_; exact h_⟩, ⟨grown_setV (grown_setV (grown_belowV HW.out (pw_below_drewN (Below.refl _ _) _)))⟩⟩
            · have h1 : ¬ (j2 < l.length - k) := by omega
              have h1i : ¬ (j2 : Int) < ((l.length - k : Nat) : Int) := by omega
              obtain ⟨d1, d2, d3, d4, d5, d6⟩ := HI.out
              have HE := Aside0.mk (CptInv_end HI.out (by omega))
              obtain ⟨hn, hnc, _⟩ := Kd.R_reads' HO.out
              have HNC := Aside0.mk hnc
              have hcell : ∀ m : Nat, m < (l.length - i) * 2 → (wr.cell? ⟨g0, i * 2 + m, none⟩).isSome = true ∧ wr.frozen? ⟨g0, i * 2 + m, none⟩ = false := fun m hm => by
                obtain ⟨⟨x0, x1⟩, f0, f1⟩ := val_at HO.out (i + m / 2) (by omega)
                have h2 : m % 2 = 0 ∨ m % 2 = 1 := by omega
                rcases h2 with h2 | h2
                · rw [show i * 2 + m = (i + m / 2) * 2 by omega]
                  exact ⟨by rw [x0]; rfl, f0⟩
                · rw [show i * 2 + m = (i + m / 2) * 2 + 1 by omega]
                  exact ⟨by rw [x1]; rfl, f1⟩
              obtain ⟨L, hL, hclr⟩ := Pm.run_clear (P := Try.prog) wr 24 43 0 (.agg #[.bool false, .int .i64 0]) Try.underlying24 (fun W => by go_simp) (by simp [Value.cells, Value.oneCell']) g0 (i * 2) (l.length - i) (c - i) (by omega) (fun m hm => (hcell m hm).1) (fun m hm => (hcell m hm).2)
              have HR := Aside0.mk (Pm.R_behind HO.out i (by omega) L (by rw [hL]; show i * 2 + (l.length - i) * 2 ≤ c * 2; omega))
              have hi1 : (i : Int) ≤ (l.length : Int) := by omega
              have hi2 : (i : Int) ≤ (c : Int) := by omega
              have hci : ¬ c = i := by omega
              clear hcell hL d1 d2 d3 d4 d5 d6 hn hnc
              have HTL := Aside0.mk (show (xs.take i).length = i by rw [List.length_take]; have := HI.out; obtain ⟨_, _, _, e4, _⟩ := this; omega)
              go_wp2
              go_ret
              unfold CvPost
              rw [← HE.out, HTL.out]
              have h1_ := HR.out.1
              have h2_ := HR.out.2
              rw [show i * (k43).sz = i * 2 from rfl] at h1_ h2_
              exact ⟨rfl, h1_, HW.out.andThen h2_ (fun j hj => .inr hj)⟩
      · have h1 : ¬ (k : Int) < (l.length : Int) := by omega
        have HE := Aside0.mk (Fresh_end HF.out (by omega) HK.out.2)
        clear hlt
        go_wp2
        go_ret
        unfold CvPost
        rw [HE.out]
        exact ⟨rfl, HO.out, HW.out⟩
set_option maxHeartbeats 1000000 in
set_option maxRecDepth 100000 in
theorem CompVal0 (w : World) (A : Option Addr) (c : Nat) :
    Calls Try.prog 47 #[.slice A 0 c] w fun e w' => e = .returned (.slice A 0 c) ∧ w' = w := by
  go_enter Try.func47, Try.ntmps47
  go_wp2
  go_ret
  exact ⟨rfl, rfl⟩
end Go.Proofs.Ytmlbihhaikknnaa.Sp
