/- slices.IndexFunc and slices.DeleteFunc over acts, whatever predicate is handed in: contracts that lean on the predicate's own. -/
import Derived.Test.YtpnlkmpoaboncaaPr0
import Derived.Test.YtpnlkmpoaboncaaPr0
import Derived.Test.YtpnlkmpoaboncaaFd
import Derived.Test.YtpnlkmpoaboncaaPm
namespace Go.Proofs.Ytpnlkmpoaboncaa.Pr
open Go.RowKit Go.Proofs.YtpnlkmpoaboncaaW.PrintWords Go.Proofs.YtpnlkmpoaboncaaW.PrintLast Go.Proofs.YtpnlkmpoaboncaaW.PrintMore
set_option linter.unusedVariables false
set_option linter.unusedSimpArgs false

theorem rdAct_get {l : List S44} {kk : Nat} (h : kk < l.length) : l[kk]? = some (rd_T44 l (kk : Int)) := by
  simp [rd_T44, List.getD_eq_getElem?_getD, List.getElem?_eq_getElem h]
set_option maxHeartbeats 1000000 in
set_option maxRecDepth 100000 in
theorem IdxAct (g : Nat) (lb : Array Value) (eg : ∀ args w, (callFunc g args).run Try.prog w = .ok (.enter g args) w) (p : S44 → Bool) (A : Option Addr) (c : Nat) (l : List S44) (w : World) (hr : Kd.C k44 w A l.length l)
    (hp : ∀ (W : World) (x : S44), Below w.heap.size w W → Calls Try.prog g (#[.agg #[.int .i64 x.f0, .int .i64 x.f1, .bool x.f2]] ++ lb) W fun e w' => e = .returned (.bool (p x)) ∧ Below W.heap.size W w') :
    Calls Try.prog 57 #[.slice A l.length c, .func (.func g) #[] lb] w (IdxPost p l w) := by
  have HR := Aside0.mk hr
  have HP := Aside0.mk hp
  have HN := Aside0.mk hr.2.1
  clear hr hp
  go_enter Try.func57, Try.ntmps57
  go_wp2
  go_loopg [8] (l.length + 1) (fun gg v8 wr => ∃ kk : Nat, v8 = .int .i64 kk ∧ Aside0 (kk ≤ l.length) ∧ Aside0 (l.length + 1 - kk ≤ gg) ∧ Aside0 (∀ y ∈ l.take kk, p y = false) ∧ Aside0 (Below w.heap.size w wr))
  case atStart => exact ⟨0, rfl, ⟨Nat.zero_le _⟩, ⟨by omega⟩, ⟨by simp⟩, ⟨Below.refl _ _⟩⟩
  case round =>
    obtain ⟨kk, rfl, HK, HG, HF, HB⟩ := hrel
    by_cases hlt : kk < l.length
    · have h0 : (0 : Int) ≤ (kk : Int) := by omega
      have h1 : (kk : Int) < (l.length : Int) := by omega
      obtain ⟨ad, e1, x0, x1, x2⟩ := at_T44 HR.out (kk : Int) h0 h1
      have hN := HN.out
      have hw : wrap64 ((kk : Int) + 1) = ((kk + 1 : Nat) : Int) := Pl.wrap_succ (by omega)
      have HW := Aside0.mk hw
      have hx := rdAct_get hlt
      have hlt := Aside0.mk hlt
      clear hw hN
      cases e1
      simp only [Int.toNat_natCast] at x0 x1 x2
      replace x0 := (HB.out.cell (World.block_lt_of_cell? w _ x0)).trans x0
      replace x1 := (HB.out.cell (World.block_lt_of_cell? w _ x1)).trans x1
      replace x2 := (HB.out.cell (World.block_lt_of_cell? w _ x2)).trans x2
      have hcall := HP.out wr (rd_T44 l kk) HB.out
      generalize rd_T44 l (kk : Int) = x at x0 x1 x2 hcall hx
      have HX := Aside0.mk hx
      clear hx
      cases hq : p x with
      | true =>
        rw [hq] at hcall
        have HQ := Aside0.mk hq
        clear hq
        go_wp2_with (first | (go_at_fn g; refine hcall.mono ?_; rintro e w' ⟨rfl, hb'⟩; have HB' := Aside0.mk hb'; clear hb'))
        go_ret
        exact ⟨(kk : Int), rfl, IsIdx_hit hlt.out HX.out HQ.out HF.out, below_step HB.out HB'.out⟩
      | false =>
        rw [hq] at hcall
        have HQ := Aside0.mk hq
        clear hq
        go_wp2_with (first | (go_at_fn g; refine hcall.mono ?_; rintro e w' ⟨rfl, hb'⟩; have HB' := Aside0.mk hb'; clear hb'))
        go_roundg (l.length - kk)
        case measure => have := HG.out; have := hlt.out; omega
        case rel =>
          exact ⟨kk + 1, by rw [HW.out], ⟨hlt.out⟩, ⟨by omega⟩, ⟨IsIdx_step hlt.out HX.out HQ.out HF.out⟩, ⟨below_step HB.out HB'.out⟩⟩
    · have h1 : ¬ (kk : Int) < (l.length : Int) := by omega
      have hge : l.length ≤ kk := by omega
      have HGE := Aside0.mk hge
      clear hge hlt
      go_wp2
      go_ret
      exact ⟨-1, rfl, IsIdx_miss HGE.out HF.out, HB.out⟩

set_option maxHeartbeats 4000000 in
set_option maxRecDepth 100000 in
theorem DelAct (g : Nat) (lb : Array Value) (eg : ∀ args w, (callFunc g args).run Try.prog w = .ok (.enter g args) w) (p : S44 → Bool) (P0 : Nat → Prop) (u : Value) (l : List S44) (w0 w : World)
    (hB : Below w0.heap.size w0 w) (ho : Kd.R k44 44 w w0.heap.size P0 u l)
    (hp : ∀ (W : World) (x : S44), Kept w W P0 → Calls Try.prog g (#[.agg #[.int .i64 x.f0, .int .i64 x.f1, .bool x.f2]] ++ lb) W fun e w' => e = .returned (.bool (p x)) ∧ Below W.heap.size W w') :
    Calls Try.prog 49 #[u, .func (.func g) #[] lb] w (DelPost k44 44 (l.filter fun x => !p x) w0) := by
  obtain ⟨A, c, rfl⟩ := Kd.R_slice ho
  have hC := (Kd.R_reads' ho).2.2
  have hidx := IdxAct g lb eg p A c l w hC (fun W x hb => hp W x (Kept.of_below hb _))
  have HN := Aside0.mk hC.2.1
  have HO := Aside0.mk ho
  have HP := Aside0.mk hp
  have HB := Aside0.mk hB
  clear hC ho hp hB
  by_cases hany : ∀ x ∈ l, p x = false
  · have hi : Calls Try.prog 57 #[.slice A l.length c, .func (.func g) #[] lb] w fun e w' => e = .returned (.int .i64 (-1)) ∧ Below w.heap.size w w' := hidx.mono (by
      rintro e w' ⟨i, rfl, hi, hb⟩
      rcases hi with ⟨rfl, _⟩ | ⟨pre, x, post, rfl, rfl, hx, _⟩
      · exact ⟨rfl, hb⟩
      · rw [hany x (by simp)] at hx
        cases hx)
    have hf : l.filter (fun x => !p x) = l := List.filter_eq_self.2 (fun x hx => by simp [hany x hx])
    have HF := Aside0.mk hf
    clear hf hany hidx
    go_enter Try.func49, Try.ntmps49
    go_wp2_with (first | (go_at_call 57; refine hi.mono ?_; rintro e w' ⟨rfl, hb'⟩; have HB' := Aside0.mk hb'; clear hb' hi))
    go_ret
    exact ⟨_, rfl, by rw [HF.out]; exact Kd.R_mono (Kd.R_below HO.out HB'.out) (fun _ _ => trivial), below_step HB.out HB'.out⟩
  · have hx0 : ∃ pre x post, l = pre ++ x :: post ∧ p x = true ∧ (∀ y ∈ pre, p y = false) ∧ Calls Try.prog 57 #[.slice A l.length c, .func (.func g) #[] lb] w fun e w' => e = .returned (.int .i64 (pre.length : Nat)) ∧ Below w.heap.size w w' := by
      obtain ⟨pre, x, post, h1, h2, h3⟩ := first_hit p l hany
      refine ⟨pre, x, post, h1, h2, h3, hidx.mono ?_⟩
      rintro e w' ⟨i, rfl, hi, hb⟩
      rw [IsIdx_uniq hi h1 h2 h3]
      exact ⟨rfl, hb⟩
    obtain ⟨pre, x, post, hl, hx, hpre, hi⟩ := hx0
    have hlen : pre.length < l.length := by rw [hl]; simp
    have hinv : DelInv p l pre.length (pre.length + 1) l := DelInv_start hl hx hpre
    clear hidx hany
    obtain ⟨b, cap, hu, hb0, hbl, cells, hcells⟩ := Kd.R_form HO.out (by omega)
    obtain ⟨rfl, rfl⟩ : A = some ⟨b, 0, none⟩ ∧ c = cap := by
      injection hu with e1 e2 e3
      exact ⟨e1, e3⟩
    have hP0 : P0 b := HO.out.1 b rfl
    have HP0 := Aside0.mk hP0
    have HI := Aside0.mk hinv
    have HLN := Aside0.mk hlen
    have HB0 := Aside0.mk hb0
    have HM := Aside0.mk (show pre.length + 1 < 9223372036854775808 from by have := HN.out; omega)
    have hw1 : wrap64 ((pre.length : Nat) + 1 : Int) = ((pre.length + 1 : Nat) : Int) := Pl.wrap_succ (by have := HN.out; omega)
    have HW1 := Aside0.mk hw1
    have hne : (((pre.length : Nat) : Int) == -1) = false := beq_eq_false_iff_ne.2 (by omega)
    generalize hk0 : pre.length = k0 at hi HI HLN HM HW1 hne
    clear hu hP0 hinv hlen hb0 hw1 hcells hbl hl hx hpre hk0
    go_enter Try.func49, Try.ntmps49
    go_wp2_with (first | (go_at_call 57; refine hi.mono ?_; rintro e w' ⟨rfl, hb'⟩; have HB' := Aside0.mk hb'; clear hb' hi))
    go_loopg [5, 6] (l.length + 1) (fun gg v5 v6 wr => ∃ (i j : Nat) (xs : List S44), v5 = .int .i64 i ∧ v6 = .int .i64 j ∧ Aside0 (l.length + 1 - j ≤ gg) ∧ Aside0 (DelInv p l i j xs) ∧ Aside0 (Kd.R k44 44 wr w0.heap.size (fun _ => True) (.slice (some ⟨b, 0, none⟩) l.length c) xs) ∧ Aside0 (Kept w wr P0) ∧ Aside0 (Below w0.heap.size w0 wr))
    case atStart => exact ⟨k0, k0 + 1, l, rfl, by rw [HW1.out], ⟨by omega⟩, HI, ⟨Kd.R_mono (Kd.R_below HO.out HB'.out) (fun _ _ => trivial)⟩, ⟨Kept.of_below HB'.out _⟩, ⟨below_step HB.out HB'.out⟩⟩
    case round =>
      clear HO HB HB' HI hne HW1
      obtain ⟨i, j, xs, rfl, rfl, HG, HI, HO, HK, HB⟩ := hrel
      by_cases hlt : j < l.length
      · have h1 : (j : Int) < (l.length : Int) := by omega
        obtain ⟨d1, d2, d3, d4, d5⟩ := HI.out
        have hC2 := (Kd.R_reads' HO.out).2.2
        obtain ⟨ad, e1, x0, x1, x2⟩ := at_T44 hC2 (j : Int) (by omega) (by omega)
        obtain ⟨ad2, e2, xi0, xi1, xi2⟩ := at_T44 hC2 (i : Int) (by omega) (by omega)
        obtain ⟨_, _, _, _, hfr⟩ := Kd.R_elem HO.out z44 (i : Int) (by omega) (by omega)
        have hf0 := hfr 0
        have hf1 := hfr 1
        have hf2 := hfr 2
        obtain rfl : (⟨b, 0, none⟩ : Addr) = ad := by injection e1
        obtain rfl : (⟨b, 0, none⟩ : Addr) = ad2 := by injection e2
        have hxj : rd_T44 xs (j : Int) = l[j] := DelInv_at HI.out hlt
        rw [hxj] at x0 x1 x2
        simp only [add_plain, Int.toNat_natCast] at x0 x1 x2 xi0 xi1 xi2
        simp only [Int.toNat_natCast, show (k44).sz = 3 from rfl, Nat.add_zero] at hf0 hf1 hf2
        have hwj : wrap64 ((j : Int) + 1) = ((j + 1 : Nat) : Int) := Pl.wrap_succ (by have := HN.out; omega)
        have hwi : wrap64 ((i : Int) + 1) = ((i + 1 : Nat) : Int) := Pl.wrap_succ (by have := HN.out; omega)
        have HWJ := Aside0.mk hwj
        have HWI := Aside0.mk hwi
        have HLT := Aside0.mk hlt
        have HIL := Aside0.mk (show i < l.length by omega)
        have hil : (i : Int) < (l.length : Int) := by omega
        generalize hy : l[j] = y at x0 x1 x2
        have HY := Aside0.mk hy
        have HXI := Aside0.mk (And.intro xi0 (And.intro xi1 xi2))
        clear hC2 e1 e2 hfr hxj hwj hwi hy d1 d2 d3 d4 d5 xi0 xi1 xi2 hf0 hf1 hf2
        cases hq : p y with
        | true =>
          have HQ := Aside0.mk hq
          clear hq
          have hcall : ∀ W, Kept w W P0 → Calls Try.prog g (#[.agg #[.int .i64 y.f0, .int .i64 y.f1, .bool y.f2]] ++ lb) W fun e w' => e = .returned (.bool true) ∧ Below W.heap.size W w' := fun W hk => by have := HP.out W y hk; rwa [HQ.out] at this
          go_wp2_with (first | (go_at_fn g; refine (hcall _ ?hk).mono ?_; (case hk => first | exact HK.out | exact HK.out.alloc _); rintro e w2 ⟨rfl, hb2⟩; have HB2 := Aside0.mk hb2; clear hb2))
          go_roundg (l.length - j)
          case measure => have := HG.out; have := HLT.out; omega
          case rel => exact ⟨i, j + 1, xs, rfl, by rw [HWJ.out], ⟨by omega⟩, ⟨DelInv_skip HI.out HLT.out HY.out HQ.out⟩, ⟨Kd.R_below (Kd.R_alloc HO.out _) HB2.out⟩, ⟨(HK.out.alloc _).below HB2.out⟩, ⟨below_step (below_alloc HB.out _) HB2.out⟩⟩
        | false =>
          have HQ := Aside0.mk hq
          clear hq
          have hcall : ∀ W, Kept w W P0 → Calls Try.prog g (#[.agg #[.int .i64 y.f0, .int .i64 y.f1, .bool y.f2]] ++ lb) W fun e w' => e = .returned (.bool false) ∧ Below W.heap.size W w' := fun W hk => by have := HP.out W y hk; rwa [HQ.out] at this
          go_wp2_with (first | (go_at_fn g; refine (hcall _ ?hk).mono ?_; (case hk => exact HK.out.alloc _); rintro e w2 ⟨rfl, hb2⟩; obtain ⟨bx0, bx1, bx2⟩ := boxed_cell3 wr (.int .i64 y.f0) (.int .i64 y.f1) (.bool y.f2) 44; have hlt2 : wr.heap.size < (wr.alloc (.cells #[.int .i64 y.f0, .int .i64 y.f1, .bool y.f2] 44)).heap.size := (by rw [boxed_size]; exact Nat.lt_succ_self _); replace bx0 := (hb2.cell hlt2).trans bx0; replace bx1 := (hb2.cell hlt2).trans bx1; replace bx2 := (hb2.cell hlt2).trans bx2; have HO2 := Kd.R_below (Kd.R_alloc HO.out _) hb2; obtain ⟨ci, hcl, hMi, hcc, fr2⟩ := Kd.R_elem HO2 z44 (i : Int) (by omega) (by have := HIL.out; omega); obtain rfl := k44_openM hMi; have HP2 := Aside0.mk (Kd.R_seg HO2 (i : Int) (by omega) (by have := HIL.out; omega) (seg := [.int .i64 y.f0, .int .i64 y.f1, .bool y.f2]) (j := 0) hcl hcc (show 0 + 3 ≤ 3 from by decide) (x' := y) (k44_mkM _ _ _ y) (fun _ hk => hk)); have ci0 := hcc 0 _ rfl; have ci1 := hcc 1 _ rfl; have ci2 := hcc 2 _ rfl; have fi0 := fr2 0; have fi1 := fr2 1; have fi2 := fr2 2; simp only [Int.toNat_natCast, show (k44).sz = 3 from rfl, Nat.add_zero] at ci0 ci1 ci2 fi0 fi1 fi2; have HK2 := Aside0.mk ((HK.out.alloc (.cells #[.int .i64 y.f0, .int .i64 y.f1, .bool y.f2] 44)).below hb2); have HB2 := Aside0.mk (below_step (below_alloc HB.out (.cells #[.int .i64 y.f0, .int .i64 y.f1, .bool y.f2] 44)) hb2); clear fr2 HO2 hb2 hlt2 hcc hcl hMi))
          go_roundg (l.length - j)
          case measure => have := HG.out; have := HLT.out; omega
          case rel => exact ⟨i + 1, j + 1, xs.set i y, by rw [HWI.out], by rw [HWJ.out], ⟨by omega⟩, ⟨DelInv_keep HI.out HLT.out HY.out HQ.out⟩, ⟨HP2.out.1⟩, ⟨((HK2.out.setCell (Or.inl HP0.out) _).setCell (Or.inl HP0.out) _).setCell (Or.inl HP0.out) _⟩, ⟨below_set (below_set (below_set HB2.out HB0.out) HB0.out) HB0.out⟩⟩
      · obtain ⟨d1, d2, d3, d4, d5⟩ := HI.out
        have h1 : ¬ (j : Int) < (l.length : Int) := by omega
        have hj : j = l.length := by omega
        have HE := Aside0.mk (DelInv_end HI.out (by omega))
        obtain ⟨hn, hnc, _⟩ := Kd.R_reads' HO.out
        have HNC := Aside0.mk hnc
        have hcell : ∀ m : Nat, m < (l.length - i) * 3 → (wr.cell? ⟨b, i * 3 + m, none⟩).isSome = true ∧ wr.frozen? ⟨b, i * 3 + m, none⟩ = false := fun m hm => by
          obtain ⟨ce, hcl, hM, hcc, hfr⟩ := Kd.R_elem HO.out z44 ((i + m / 3 : Nat) : Int) (by omega) (by omega)
          obtain rfl := k44_openM hM
          have e0 : ((i + m / 3 : Nat) : Int).toNat * (k44).sz + m % 3 = i * 3 + m := by
            show (i + m / 3) * 3 + m % 3 = i * 3 + m
            omega
          have hf := hfr (m % 3)
          rw [e0] at hf
          refine ⟨?_, hf⟩
          have h3 : m % 3 = 0 ∨ m % 3 = 1 ∨ m % 3 = 2 := by omega
          rcases h3 with h3 | h3 | h3
          · have := hcc 0 _ rfl
            rw [← h3, e0] at this
            rw [this]
            rfl
          · have := hcc 1 _ rfl
            rw [← h3, e0] at this
            rw [this]
            rfl
          · have := hcc 2 _ rfl
            rw [← h3, e0] at this
            rw [this]
            rfl
        obtain ⟨L, hL, hclr⟩ := Pm.run_clear (P := Try.prog) wr 27 44 0 (.agg #[.int .i64 0, .int .i64 0, .bool false]) Try.underlying27 (fun W => by go_simp) (by simp [Value.cells, Value.oneCell']) b (i * 3) (l.length - i) (c - i) (by omega) (fun m hm => (hcell m hm).1) (fun m hm => (hcell m hm).2)
        have HR := Aside0.mk (Pm.R_behind HO.out i (by omega) L (by rw [hL]; show i * 3 + (l.length - i) * 3 ≤ c * 3; omega))
        have hi1 : (i : Int) ≤ (l.length : Int) := by omega
        have hi2 : (i : Int) ≤ (c : Int) := by omega
        have hci : ¬ c = i := by omega
        clear hcell hL d1 d2 d3 d4 d5 hn hnc
        go_wp2
        go_ret
        refine ⟨_, rfl, ?_, ?_⟩
        · rw [← HE.out]
          exact HR.out.1
        · exact pw_below_grown HB.out (some b) HB.out.size HR.out.2 (fun k hk => by injection hk with hk; rw [← hk]; exact HB0.out)
end Go.Proofs.Ytpnlkmpoaboncaa.Pr
