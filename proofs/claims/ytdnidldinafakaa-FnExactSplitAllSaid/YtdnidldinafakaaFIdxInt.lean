/- slices.IndexFunc and slices.DeleteFunc over numbers, whatever predicate is handed in: contracts that lean on the predicate's own. -/

import Derived.Test.YtdnidldinafakaaMx4
import Derived.Test.YtdnidldinafakaaFd
import Derived.Test.YtdnidldinafakaaMx6
namespace Go.Proofs.Ytdnidldinafakaa.Pr
open Go.RowKit Go.Proofs.YtdnidldinafakaaW.PrintWords Go.Proofs.YtdnidldinafakaaW.PrintLast Go.Proofs.YtdnidldinafakaaW.PrintMore
set_option linter.unusedVariables false
set_option linter.unusedSimpArgs false
set_option maxHeartbeats 4000000 in
set_option maxRecDepth 100000 in
theorem DelInt (g : Nat) (lb : Array Value) (eg : ∀ args w, (callFunc g args).run Try.prog w = .ok (.enter g args) w) (p : Int → Bool) (P0 : Nat → Prop) (u : Value) (l : List Int) (w0 w : World)
    (hB : Below w0.heap.size w0 w) (ho : Kd.R (Kd.int .i64) 3 w w0.heap.size P0 u l)
    (hp : ∀ (W : World) (x : Int), Kept w W P0 → Calls Try.prog g (#[.int .i64 x] ++ lb) W fun e w' => e = .returned (.bool (p x)) ∧ Below W.heap.size W w') :
    Calls Try.prog 59 #[u, .func (.func g) #[] lb] w (DelPost (Kd.int .i64) 3 (l.filter fun x => !p x) w0) := by
  obtain ⟨A, c, rfl⟩ := Kd.R_slice ho
  have hC := (Kd.R_reads' ho).2.2
  have hidx := IdxInt g lb eg p A c l w hC (fun W x hb => hp W x (Kept.of_below hb _))
  have HN := Aside0.mk hC.2.1
  have HO := Aside0.mk ho
  have HP := Aside0.mk hp
  have HB := Aside0.mk hB
  clear hC ho hp hB
  by_cases hany : ∀ x ∈ l, p x = false
  · have hi : Calls Try.prog 58 #[.slice A l.length c, .func (.func g) #[] lb] w fun e w' => e = .returned (.int .i64 (-1)) ∧ Below w.heap.size w w' := hidx.mono (by
      rintro e w' ⟨i, rfl, hi, hb⟩
      rcases hi with ⟨rfl, _⟩ | ⟨pre, x, post, rfl, rfl, hx, _⟩
      · exact ⟨rfl, hb⟩
      · rw [hany x (by simp)] at hx
        cases hx)
    have hf : l.filter (fun x => !p x) = l := List.filter_eq_self.2 (fun x hx => by simp [hany x hx])
    have HF := Aside0.mk hf
    clear hf hany hidx
    go_enter Try.func59, Try.ntmps59
    go_wp2_with (first | (go_at_call 58; refine hi.mono ?_; rintro e w' ⟨rfl, hb'⟩; have HB' := Aside0.mk hb'; clear hb' hi))
    go_ret
    exact ⟨_, rfl, by rw [HF.out]; exact Kd.R_mono (Kd.R_below HO.out HB'.out) (fun _ _ => trivial), below_step HB.out HB'.out⟩
  · have hx0 : ∃ pre x post, l = pre ++ x :: post ∧ p x = true ∧ (∀ y ∈ pre, p y = false) ∧ Calls Try.prog 58 #[.slice A l.length c, .func (.func g) #[] lb] w fun e w' => e = .returned (.int .i64 (pre.length : Nat)) ∧ Below w.heap.size w w' := by
      obtain ⟨pre, x, post, h1, h2, h3⟩ := first_hit p l hany
      refine ⟨pre, x, post, h1, h2, h3, hidx.mono ?_⟩
      rintro e w' ⟨i, rfl, hi, hb⟩
      rw [IsIdx_uniq hi h1 h2 h3]
      exact ⟨rfl, hb⟩
    obtain ⟨pre, x, post, hl, hx, hpre, hi⟩ := hx0
    have hlen : pre.length < l.length := by rw [hl]; simp
    have hinv : DelInv p l pre.length (pre.length + 1) l := DelInv_start hl hx hpre
    clear hidx hany
    obtain ⟨b, cap, hu, hb0, hbl, cells, hcells⟩ := Kd.R_form HO.out (by omega)
    obtain ⟨rfl, rfl⟩ : A = some ⟨b, 0, none⟩ ∧ c = cap := by
      injection hu with e1 e2 e3
      exact ⟨e1, e3⟩
    have hP0 : P0 b := HO.out.1 b rfl
    have HP0 := Aside0.mk hP0
    have HI := Aside0.mk hinv
    have HLN := Aside0.mk hlen
    have HB0 := Aside0.mk hb0
    have HM := Aside0.mk (show pre.length + 1 < 9223372036854775808 from by have := HN.out; omega)
    have hw1 : wrap64 ((pre.length : Nat) + 1 : Int) = ((pre.length + 1 : Nat) : Int) := Pl.wrap_succ (by have := HN.out; omega)
    have HW1 := Aside0.mk hw1
    have hne : (((pre.length : Nat) : Int) == -1) = false := beq_eq_false_iff_ne.2 (by omega)
    generalize hk0 : pre.length = k0 at hi HI HLN HM HW1 hne
    clear hu hP0 hinv hlen hb0 hw1 hcells hbl hl hx hpre hk0
    go_enter Try.func59, Try.ntmps59
    go_wp2_with (first | (go_at_call 58; refine hi.mono ?_; rintro e w' ⟨rfl, hb'⟩; have HB' := Aside0.mk hb'; clear hb' hi))
    go_loopg [5, 6] (l.length + 1) (fun gg v5 v6 wr => ∃ (i j : Nat) (xs : List Int), v5 = .int .i64 i ∧ v6 = .int .i64 j ∧ Aside0 (l.length + 1 - j ≤ gg) ∧ Aside0 (DelInv p l i j xs) ∧ Aside0 (Kd.R (Kd.int .i64) 3 wr w0.heap.size (fun _ => True) (.slice (some ⟨b, 0, none⟩) l.length c) xs) ∧ Aside0 (Kept w wr P0) ∧ Aside0 (Below w0.heap.size w0 wr))
    case atStart => exact ⟨k0, k0 + 1, l, rfl, by rw [HW1.out], ⟨by omega⟩, HI, ⟨Kd.R_mono (Kd.R_below HO.out HB'.out) (fun _ _ => trivial)⟩, ⟨Kept.of_below HB'.out _⟩, ⟨below_step HB.out HB'.out⟩⟩
    case round =>
      clear HO HB HB' HI hne HW1
      obtain ⟨i, j, xs, rfl, rfl, HG, HI, HO, HK, HB⟩ := hrel
      by_cases hlt : j < l.length
      · have h1 : (j : Int) < (l.length : Int) := by omega
        obtain ⟨d1, d2, d3, d4, d5⟩ := HI.out
        have hC2 := (Kd.R_reads' HO.out).2.2
        obtain ⟨ad, e1, x0⟩ := Kd.at_int hC2 (j : Int) (by omega) (by omega)
        obtain ⟨ad2, e2, xi⟩ := Kd.at_int hC2 (i : Int) (by omega) (by omega)
        obtain ⟨_, _, _, _, hfr⟩ := Kd.R_elem HO.out (0 : Int) (i : Int) (by omega) (by omega)
        have hfi := hfr 0
        obtain rfl : (⟨b, 0, none⟩ : Addr) = ad := by injection e1
        obtain rfl : (⟨b, 0, none⟩ : Addr) = ad2 := by injection e2
        have hxj : rd xs (j : Int) = l[j] := DelInv_at HI.out hlt
        rw [hxj] at x0
        simp only [add_plain, Int.toNat_natCast] at x0 xi
        simp only [Int.toNat_natCast, show (Kd.int .i64).sz = 1 from rfl, Nat.mul_one, Nat.add_zero] at hfi
        have hwj : wrap64 ((j : Int) + 1) = ((j + 1 : Nat) : Int) := Pl.wrap_succ (by have := HN.out; omega)
        have hwi : wrap64 ((i : Int) + 1) = ((i + 1 : Nat) : Int) := Pl.wrap_succ (by have := HN.out; omega)
        have HWJ := Aside0.mk hwj
        have HWI := Aside0.mk hwi
        have HLT := Aside0.mk hlt
        have HIL := Aside0.mk (show i < l.length by omega)
        have hil : (i : Int) < (l.length : Int) := by omega
        generalize hy : l[j] = y at x0
        have HY := Aside0.mk hy
        have HXI := Aside0.mk xi
        have HFI := Aside0.mk hfi
        clear hC2 e1 e2 hfr hxj hwj hwi hy d1 d2 d3 d4 d5 xi hfi
        cases hq : p y with
        | true =>
          have HQ := Aside0.mk hq
          clear hq
          have hcall : ∀ W, Kept w W P0 → Calls Try.prog g (#[.int .i64 y] ++ lb) W fun e w' => e = .returned (.bool true) ∧ Below W.heap.size W w' := fun W hk => by have := HP.out W y hk; rwa [HQ.out] at this
          go_wp2_with (first | (go_at_fn g; refine (hcall _ ?hk).mono ?_; (case hk => exact HK.out); rintro e w2 ⟨rfl, hb2⟩; have HB2 := Aside0.mk hb2; clear hb2))
          go_roundg (l.length - j)
          case measure => have := HG.out; have := HLT.out; omega
          case rel => exact ⟨i, j + 1, xs, rfl, by rw [HWJ.out], ⟨by omega⟩, ⟨DelInv_skip HI.out HLT.out HY.out HQ.out⟩, ⟨Kd.R_below HO.out HB2.out⟩, ⟨HK.out.below HB2.out⟩, ⟨below_step HB.out HB2.out⟩⟩
        | false =>
          have HQ := Aside0.mk hq
          clear hq
          have hcall : ∀ W, Kept w W P0 → Calls Try.prog g (#[.int .i64 y] ++ lb) W fun e w' => e = .returned (.bool false) ∧ Below W.heap.size W w' := fun W hk => by have := HP.out W y hk; rwa [HQ.out] at this
          go_wp2_with (first | (go_at_fn g; refine (hcall _ ?hk).mono ?_; (case hk => exact HK.out); rintro e w2 ⟨rfl, hb2⟩; have xi2 := (hb2.cell (World.block_lt_of_cell? _ _ HXI.out)).trans HXI.out; have HO2 := Kd.R_below HO.out hb2; obtain ⟨_, _, _, _, fr2⟩ := Kd.R_elem HO2 (0 : Int) (i : Int) (by omega) (by have := HIL.out; omega); have fi2 := fr2 0; simp only [Int.toNat_natCast, show (Kd.int .i64).sz = 1 from rfl, Nat.mul_one, Nat.add_zero] at fi2; have HP2 := Aside0.mk (Kd.R_putg HO2 (i : Int) y); have HK2 := Aside0.mk (HK.out.below hb2); have HB2 := Aside0.mk (below_step HB.out hb2); clear fr2 HO2 hb2))
          go_roundg (l.length - j)
          case measure => have := HG.out; have := HLT.out; omega
          case rel => exact ⟨i + 1, j + 1, xs.set i y, by rw [HWI.out], by rw [HWJ.out], ⟨by omega⟩, ⟨DelInv_keep HI.out HLT.out HY.out HQ.out⟩, ⟨by have h_ := HP2.out.1; simp only [Int.toNat_natCast] at h_; exact h_⟩, ⟨HK2.out.setCell (Or.inl HP0.out) _⟩, ⟨below_set HB2.out HB0.out⟩⟩
      · obtain ⟨d1, d2, d3, d4, d5⟩ := HI.out
        have h1 : ¬ (j : Int) < (l.length : Int) := by omega
        have hj : j = l.length := by omega
        have HE := Aside0.mk (DelInv_end HI.out (by omega))
        obtain ⟨hn, hnc, _⟩ := Kd.R_reads' HO.out
        have HNC := Aside0.mk hnc
        have hcell : ∀ m : Nat, m < (l.length - i) * 1 → (wr.cell? ⟨b, i + m, none⟩).isSome = true ∧ wr.frozen? ⟨b, i + m, none⟩ = false := fun m hm => by
          obtain ⟨ad, e1, x0⟩ := Kd.at_int (Kd.R_reads' HO.out).2.2 ((i + m : Nat) : Int) (by omega) (by omega)
          obtain ⟨_, _, _, _, hfr⟩ := Kd.R_elem HO.out (0 : Int) ((i + m : Nat) : Int) (by omega) (by omega)
          obtain rfl : (⟨b, 0, none⟩ : Addr) = ad := by injection e1
          have hfi := hfr 0
          simp only [add_plain, Int.toNat_natCast] at x0
          simp only [Int.toNat_natCast, show (Kd.int .i64).sz = 1 from rfl, Nat.mul_one, Nat.add_zero] at hfi
          exact ⟨by rw [x0]; rfl, hfi⟩
        obtain ⟨L, hL, hclr⟩ := Pm.run_clear (P := Try.prog) wr 37 3 0 (.int .i64 0) Try.underlying37 (fun W => by go_simp) (by simp [Value.cells, Value.oneCell']) b i (l.length - i) (c - i) (by omega) (fun m hm => (hcell m hm).1) (fun m hm => (hcell m hm).2)
        have HR := Aside0.mk (Pm.R_behind HO.out i (by omega) L (by rw [hL]; simp [Value.cells, show (Kd.int .i64).sz = 1 from rfl]; omega))
        have hi1 : (i : Int) ≤ (l.length : Int) := by omega
        have hi2 : (i : Int) ≤ (c : Int) := by omega
        have hci : ¬ c = i := by omega
        clear hcell hL d1 d2 d3 d4 d5 hn hnc
        go_wp2
        go_ret
        refine ⟨_, rfl, ?_, ?_⟩
        · rw [← HE.out]
          have h_ := HR.out.1
          rw [show i * (Kd.int .i64).sz = i from Nat.mul_one i] at h_
          exact h_
        · have h_ := HR.out.2
          rw [show i * (Kd.int .i64).sz = i from Nat.mul_one i] at h_
          exact pw_below_grown HB.out (some b) HB.out.size h_ (fun k hk => by injection hk with hk; rw [← hk]; exact HB0.out)
end Go.Proofs.Ytdnidldinafakaa.Pr
