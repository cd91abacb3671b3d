/- slices.CompactFunc over rows of numbers by slices.Equal, told cell by cell: of neighbours that are alike the later ones go. Conditions: a row of the call's own; what Equal comes to. -/
import Derived.Test.YtcengijoicmldaaPr0
import Derived.Test.YtcengijoicmldaaIv
import Derived.Test.YtcengijoicmldaaAc
import Derived.Test.YtcengijoicmldaaMx6
import Derived.Test.YtcengijoicmldaaFd
import Derived.Maps.Range
import Derived.IntWalk
import Derived.Deep.QuietTactic
import Derived.BigQuiet
namespace Go.Proofs.Ytcengijoicmldaa.Sp
open Go.RowKit Go.Proofs.Ytcengijoicmldaa.Ax Go.Proofs.Ytcengijoicmldaa.Pr Go.Proofs.YtcengijoicmldaaW.PrintWords Go.Proofs.YtcengijoicmldaaW.PrintLast Go.Proofs.YtcengijoicmldaaW.PrintMore
set_option linter.unusedVariables false
set_option linter.unusedSimpArgs false
/-- Elements that are slices. -/
abbrev slK {α : Type} (A : α → Option Addr) (nn cc : α → Nat) : Kd α := Kd.scalar (fun i => Value.slice (A i) (nn i) (cc i)) (fun _ => rfl)
def CptPost {α : Type} (d : Kd α) (e0 base g0 c : Nat) (r : List α) (w : World) (e : Ending) (w' : World) : Prop :=
 e = .returned (.slice (some ⟨g0, 0, none⟩) r.length c) ∧ d.R e0 w' base (fun _ => True) (.slice (some ⟨g0, 0, none⟩) r.length c) r ∧ w.grownBy w' (some g0)
theorem grown_below {w W W' : World} {g : Nat} (h : w.grownBy W (some g)) (hb : Below W.heap.size W W') : w.grownBy W' (some g) := h.andThen (grown_of_below hb (some g)) (fun j hj => .inr hj)
theorem grown_set {w W : World} {g j : Nat} {v : Value} (h : w.grownBy W (some g)) : w.grownBy (W.setCell ⟨g, j, none⟩ v) (some g) :=
 h.andThen (row' := some g) ⟨rfl, rfl, rfl, by simp, fun k _ hk => Below.heap_setCell W ⟨g, j, none⟩ v k (fun e => hk (by rw [e]))⟩ (fun j hj => .inr hj)
theorem eq_quiet {P : Program} {f : FuncId} {args : Array Value} {W : World} {b : Bool} (h : Calls P f args W fun e w' => e = .returned (.bool b) ∧ Drawn0 W w') : Calls P f args W fun e w' => e = .returned (.bool b) ∧ ∃ m, w' = W.drewN m :=
 h.mono (by
  rintro e w' ⟨rfl, nd, rfl⟩
  exact ⟨rfl, nd, rfl⟩)
section
variable {α : Type} (z : α) (A : α → Option Addr) (nn cc : α → Nat)
theorem slK_at {W : World} {e0 base g0 n c : Nat} {ok : Nat → Prop} {xs : List α} (ho : (slK A nn cc).R e0 W base ok (.slice (some ⟨g0, 0, none⟩) n c) xs) (i : Nat) (hi : i < xs.length) :
  W.cell? ⟨g0, i, none⟩ = some (.slice (A (xs.getD i z)) (nn (xs.getD i z)) (cc (xs.getD i z))) ∧ W.frozen? ⟨g0, i, none⟩ = false := by
 obtain ⟨rfl, _, _⟩ := Kd.R_reads' ho
 have := Kd.R_cell z ho (i : Int) (by omega) (by omega)
 simpa [rdOf] using this
set_option maxHeartbeats 8000000 in
set_option maxRecDepth 100000 in
theorem CompRows (eqf : α → α → Bool) (base : Nat) (w : World) (g0 c : Nat) (l : List α)
  (ho : (slK A nn cc).R 24 w base (fun _ => True) (.slice (some ⟨g0, 0, none⟩) l.length c) l)
  (hp : ∀ (W : World) (x y : α), w.grownBy W (some g0) → Calls Try.prog 66 #[.slice (A x) (nn x) (cc x), .slice (A y) (nn y) (cc y)] W fun e w' => e = .returned (.bool (eqf x y)) ∧ Drawn0 W w') :
  Calls Try.prog 65 #[.slice (some ⟨g0, 0, none⟩) l.length c, .func (.func 66) #[] #[]] w (CptPost (slK A nn cc) 24 base g0 c (cptN eqf z l l.length) w) := by
 have hC := (Kd.R_reads' ho).2.2
 have hlc := (Kd.R_reads' ho).2.1
 have HN := Aside0.mk hC.2.1
 have HP := Aside0.mk hp
 have HLC := Aside0.mk hlc
 have HO := Aside0.mk ho
 have eg : ∀ args w, (callFunc 66 args).run Try.prog w = .ok (.enter 66 args) w := enters_of Try.func66 rfl rfl
 clear ho hp hC
 by_cases h2 : l.length < 2
 ·have h2i : (l.length : Int) < 2 := by omega
  have HE := Aside0.mk (cptN_small (eq := eqf) (z := z) h2)
  clear h2 hlc
  go_enter Try.func65, Try.ntmps65
  go_wp2
  go_ret
  unfold CptPost
  rw [HE.out]
  exact ⟨rfl, HO.out, grown_of_below (Below.refl _ _) _⟩
 ·have h2i : ¬ (l.length : Int) < 2 := by omega
  have HL2 := Aside0.mk (show 2 ≤ l.length by omega)
  clear h2 hlc
  go_enter Try.func65, Try.ntmps65
  go_wp2
  go_loopg [5] (l.length + 1) (fun gg v5 wr => ∃ k : Nat, v5 = .int .i64 k ∧ Aside0 (1 ≤ k ∧ k ≤ l.length) ∧ Aside0 (l.length + 1 - k ≤ gg) ∧ Aside0 (Fresh eqf z l k) ∧ Aside0 ((slK A nn cc).R 24 wr base (fun _ => True) (.slice (some ⟨g0, 0, none⟩) l.length c) l) ∧ Aside0 (w.grownBy wr (some g0)))
  case atStart => exact ⟨1, rfl, ⟨⟨Nat.le_refl _, by have := HL2.out; omega⟩⟩, ⟨by omega⟩, ⟨Fresh_one⟩, HO, ⟨grown_of_below (Below.refl _ _) _⟩⟩
  case round =>
   clear HO
   obtain ⟨k, rfl, HK, HG, HF, HO, HW⟩ := hrel
   by_cases hlt : k < l.length
   ·obtain ⟨k1, hk1⟩ : ∃ k1, k = k1 + 1 := ⟨k - 1, by have := HK.out; omega⟩
    have h1 : (k : Int) < (l.length : Int) := by omega
    obtain ⟨x0, f0⟩ := slK_at z A nn cc HO.out k hlt
    obtain ⟨x1, f1⟩ := slK_at z A nn cc HO.out k1 (by omega)
    have hcall := fun (n : Nat) => eq_quiet (HP.out (wr.drewN n) (l.getD k z) (l.getD k1 z) (grown_below HW.out (pw_below_drewN (Below.refl _ _) n)))
    have hw : IntKind.i64.wrap ((k : Int) - 1) = (k1 : Int) := by have := HN.out; rw [IntWalk.i64_in _ (by omega)]; omega
    have hk0 : 0 ≤ (k1 : Int) := by omega
    have hk2 : (k1 : Int) < (l.length : Int) := by omega
    have HWK := Aside0.mk (Pl.wrap_succ (show k < 9223372036854775807 by have := HN.out; omega))
    have HK1 := Aside0.mk hk1
    have HLT := Aside0.mk hlt
    have HF0 := Aside0.mk (And.intro x0 f0)
    clear hk1 hlt f0 f1
    generalize hx : l.getD k z = x at x0 hcall
    generalize hy : l.getD k1 z = y at x1 hcall
    have HX := Aside0.mk hx
    have HY := Aside0.mk hy
    clear hx hy
    cases he : eqf x y with
    | false =>
     rw [he] at hcall
     have HE := Aside0.mk he
     clear he
     go_wp2
     go_quiet ((go_at_call 66; exact Calls.quiet_of (hcall _)))
     go_wp2
     go_roundg (l.length - k)
     case measure => have := HG.out; have := HLT.out; omega
     case rel => exact ⟨k + 1, by rw [HWK.out], ⟨by omega⟩, ⟨by omega⟩, ⟨Fresh_step HK.out.1 HF.out HLT.out (by rw [HX.out, show k - 1 = k1 by rw [HK1.out]; rfl, HY.out]; exact HE.out)⟩, ⟨Kd.R_drewN HO.out _⟩, ⟨grown_below HW.out (pw_below_drewN (Below.refl _ _) _)⟩⟩
    | true =>
     rw [he] at hcall
     have HE := Aside0.mk he
     clear he
     go_wp2
     go_quiet ((go_at_call 66; exact Calls.quiet_of (hcall _)))
     have HI := Aside0.mk (CptInv_start HK.out.1 HF.out HLT.out (by rw [HX.out, show k - 1 = k1 by rw [HK1.out]; rfl, HY.out]; exact HE.out))
     have hck : ¬ c = k := by have := HLC.out; have := HLT.out; omega
     have hkl : (k : Int) ≤ (l.length : Int) := by omega
     have hkc : (k : Int) ≤ (c : Int) := by have := HLC.out; omega
     have HO1 := Aside0.mk (Kd.R_drewN HO.out nq)
     have HW1 := Aside0.mk (grown_below HW.out (pw_below_drewN (Below.refl _ _) nq))
     clear hcall x0 x1 hw hk0 hk2 HO HW HF0
     go_wp2
     go_loopg [5, 7] (l.length + 1) (fun gg v5 v7 wr2 => ∃ (i j2 : Nat) (xs : List α), v5 = .int .i64 i ∧ v7 = .int .i64 j2 ∧ Aside0 (1 ≤ j2) ∧ Aside0 (l.length + 1 - (k + j2) ≤ gg) ∧ Aside0 (CptInv eqf z l i (k + j2) xs) ∧ Aside0 ((slK A nn cc).R 24 wr2 base (fun _ => True) (.slice (some ⟨g0, 0, none⟩) l.length c) xs) ∧ Aside0 (w.grownBy wr2 (some g0)))
     case atStart => exact ⟨k, 1, l, rfl, rfl, ⟨Nat.le_refl _⟩, ⟨by omega⟩, HI, HO1, HW1⟩
     case round =>
      clear HO1 HW1 HI HX HY HE HF
      obtain ⟨i, j2, xs, rfl, rfl, HJ, HG2, HI, HO, HW⟩ := hrel
      by_cases hlt : k + j2 < l.length
      ·obtain ⟨j3, hj3⟩ : ∃ j3, j2 = j3 + 1 := ⟨j2 - 1, by have := HJ.out; omega⟩
       have h1 : j2 < l.length - k := by omega
       have h1i : (j2 : Int) < ((l.length - k : Nat) : Int) := by omega
       obtain ⟨d1, d2, d3, d4, d5, d6⟩ := HI.out
       obtain ⟨x0, f0⟩ := slK_at z A nn cc HO.out (k + j2) (by omega)
       obtain ⟨x1, f1⟩ := slK_at z A nn cc HO.out (k + j3) (by omega)
       obtain ⟨xi, fi⟩ := slK_at z A nn cc HO.out i (by omega)
       rw [CptInv_at HI.out (by omega)] at x0
       rw [CptInv_at HI.out (by omega)] at x1
       have hcall := fun (n : Nat) => eq_quiet (HP.out (wr.drewN n) (l.getD (k + j2) z) (l.getD (k + j3) z) (grown_below HW.out (pw_below_drewN (Below.refl _ _) n)))
       have hw : IntKind.i64.wrap ((j2 : Int) - 1) = (j3 : Int) := by have := HN.out; rw [IntWalk.i64_in _ (by omega)]; omega
       have hk0 : 0 ≤ (j3 : Int) := by omega
       have hk2 : j3 < l.length - k := by omega
       have hk2i : (j3 : Int) < ((l.length - k : Nat) : Int) := by omega
       have hil : (i : Int) < (l.length : Int) := by omega
       have HWJ := Aside0.mk (Pl.wrap_succ (show j2 < 9223372036854775807 by have := HN.out; omega))
       have HWI := Aside0.mk (Pl.wrap_succ (show i < 9223372036854775807 by have := HN.out; omega))
       have HJ3 := Aside0.mk hj3
       have HLT := Aside0.mk hlt
       have HIL := Aside0.mk (show i < l.length by omega)
       clear hj3 hlt f0 f1 d1 d2 d3 d4 d5 d6
       generalize hx : l.getD (k + j2) z = x at x0 hcall
       generalize hy : l.getD (k + j3) z = y at x1 hcall
       have HX := Aside0.mk hx
       have HY := Aside0.mk hy
       clear hx hy
       cases he : eqf x y with
       | true =>
        rw [he] at hcall
        have HE := Aside0.mk he
        clear he xi fi
        go_wp2
        go_quiet ((go_at_call 66; exact Calls.quiet_of (hcall _)))
        go_wp2
        go_roundg (l.length - (k + j2))
        case measure => have := HG2.out; have := HLT.out; omega
        case rel => exact ⟨i, j2 + 1, xs, rfl, by rw [HWJ.out], ⟨by omega⟩, ⟨by omega⟩, ⟨CptInv_skip (j := k + j2) HI.out HLT.out (by rw [HX.out, show k + j2 - 1 = k + j3 by rw [HJ3.out]; rfl, HY.out]; exact HE.out)⟩, ⟨Kd.R_drewN HO.out _⟩, ⟨grown_below HW.out (pw_below_drewN (Below.refl _ _) _)⟩⟩
       | false =>
        rw [he] at hcall
        have HE := Aside0.mk he
        clear he
        go_wp2
        go_quiet ((go_at_call 66; exact Calls.quiet_of (hcall _)))
        go_wp2
        go_roundg (l.length - (k + j2))
        case measure => have := HG2.out; have := HLT.out; omega
        case rel => exact ⟨i + 1, j2 + 1, xs.set i x, by rw [HWI.out], by rw [HWJ.out], ⟨by omega⟩, ⟨by omega⟩, ⟨by have h_ := CptInv_keep (j := k + j2) HI.out HLT.out (by rw [HX.out, show k + j2 - 1 = k + j3 by rw [HJ3.out]; rfl, HY.out]; exact HE.out); rw [HX.out] at h_; exact h_⟩, ⟨by have h_ := (Kd.R_putg (Kd.R_drewN HO.out nq) (i : Int) x).1; simp only [Int.toNat_natCast] at h_; exact h_⟩, ⟨grown_set (grown_below HW.out (pw_below_drewN (Below.refl _ _) _))⟩⟩
      ·have h1 : ¬ (j2 < l.length - k) := by omega
       have h1i : ¬ (j2 : Int) < ((l.length - k : Nat) : Int) := by omega
       obtain ⟨d1, d2, d3, d4, d5, d6⟩ := HI.out
       have HE := Aside0.mk (CptInv_end HI.out (by omega))
       obtain ⟨hn, hnc, _⟩ := Kd.R_reads' HO.out
       have HNC := Aside0.mk hnc
       have hcell : ∀ m : Nat, m < (l.length - i) * 1 → (wr.cell? ⟨g0, i + m, none⟩).isSome = true ∧ wr.frozen? ⟨g0, i + m, none⟩ = false := fun m hm => by
        obtain ⟨x0, f0⟩ := slK_at z A nn cc HO.out (i + m) (by omega)
        exact ⟨by rw [x0]; rfl, f0⟩
       obtain ⟨L, hL, hclr⟩ := Pm.run_clear (P := Try.prog) wr 25 24 0 (.slice none 0 0) Try.underlying25 (fun W => by go_simp) (by simp [Value.cells, Value.oneCell']) g0 i (l.length - i) (c - i) (by omega) (fun m hm => (hcell m hm).1) (fun m hm => (hcell m hm).2)
       have HR := Aside0.mk (Pm.R_behind HO.out i (by omega) L (by rw [hL]; show i * 1 + (l.length - i) * 1 ≤ c * 1; omega))
       have hi1 : (i : Int) ≤ (l.length : Int) := by omega
       have hi2 : (i : Int) ≤ (c : Int) := by omega
       have hci : ¬ c = i := by omega
       clear hcell hL d1 d2 d3 d4 d5 d6 hn hnc
       have HTL := Aside0.mk (show (xs.take i).length = i by rw [List.length_take]; have := HI.out; obtain ⟨_, _, _, e4, _⟩ := this; omega)
       go_wp2
       go_ret
       unfold CptPost
       rw [← HE.out, HTL.out]
       have h1_ := HR.out.1
       have h2_ := HR.out.2
       rw [show i * (slK A nn cc).sz = i from Nat.mul_one i] at h1_ h2_
       exact ⟨rfl, h1_, HW.out.andThen h2_ (fun j hj => .inr hj)⟩
   ·have h1 : ¬ (k : Int) < (l.length : Int) := by omega
    have HE := Aside0.mk (Fresh_end HF.out (by omega) HK.out.2)
    clear hlt
    go_wp2
    go_ret
    unfold CptPost
    rw [HE.out]
    exact ⟨rfl, HO.out, HW.out⟩
end
end Go.Proofs.Ytcengijoicmldaa.Sp
