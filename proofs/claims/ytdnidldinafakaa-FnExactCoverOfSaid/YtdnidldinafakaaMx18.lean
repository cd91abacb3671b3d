/- Several small texts together: FIdxDep, EHasAll. No condition but those they name. -/
import Derived.Test.YtdnidldinafakaaPr0
import Derived.Test.YtdnidldinafakaaMx8
import Derived.Test.YtdnidldinafakaaPr1
import Derived.Test.YtdnidldinafakaaMx17
import Derived.Test.YtdnidldinafakaaMx12
import Derived.Test.YtdnidldinafakaaWFoot
/- slices.IndexFunc and slices.ContainsFunc over deps, whatever predicate is handed in: contracts that lean on the predicate's own. -/
namespace Go.Proofs.Ytdnidldinafakaa.Pr
open Go.RowKit Go.Proofs.YtdnidldinafakaaW.PrintWords Go.Proofs.YtdnidldinafakaaW.PrintLast Go.Proofs.YtdnidldinafakaaW.PrintMore
set_option linter.unusedVariables false
set_option linter.unusedSimpArgs false
theorem rdDep_get {l : List S42} {kk : Nat} (h : kk < l.length) : l[kk]? = some (rd_T42 l (kk : Int)) := by
  simp [rd_T42, List.getD_eq_getElem?_getD, List.getElem?_eq_getElem h]
set_option maxHeartbeats 1000000 in
set_option maxRecDepth 100000 in
theorem IdxDep (g : Nat) (lb : Array Value) (eg : ∀ args w, (callFunc g args).run Try.prog w = .ok (.enter g args) w) (p : S42 → Bool) (A : Option Addr) (c : Nat) (l : List S42) (w : World) (hr : Kd.C k42 w A l.length l)
    (hp : ∀ (W : World) (x : S42) (B0 : Option Addr) (b0 : Nat) (B1 : Option Addr) (b1 : Nat), Below w.heap.size w W → x ∈ l → x.f0.length ≤ b0 → Kd.C (Kd.int .i64) w B0 x.f0.length x.f0 → x.f1.length ≤ b1 → Kd.C (Kd.int .i64) w B1 x.f1.length x.f1 → Calls Try.prog g (#[.agg #[.slice B0 x.f0.length b0, .slice B1 x.f1.length b1]] ++ lb) W fun e w' => e = .returned (.bool (p x)) ∧ Below W.heap.size W w') :
    Calls Try.prog 73 #[.slice A l.length c, .func (.func g) #[] lb] w (IdxPost p l w) := by
  have HR := Aside0.mk hr
  have HP := Aside0.mk hp
  have HN := Aside0.mk hr.2.1
  clear hr hp
  go_enter Try.func73, Try.ntmps73
  go_wp2
  go_loopg [8] (l.length + 1) (fun gg v8 wr => ∃ kk : Nat, v8 = .int .i64 kk ∧ Aside0 (kk ≤ l.length) ∧ Aside0 (l.length + 1 - kk ≤ gg) ∧ Aside0 (∀ y ∈ l.take kk, p y = false) ∧ Aside0 (Below w.heap.size w wr))
  case atStart => exact ⟨0, rfl, ⟨Nat.zero_le _⟩, ⟨by omega⟩, ⟨by simp⟩, ⟨Below.refl _ _⟩⟩
  case round =>
    obtain ⟨kk, rfl, HK, HG, HF, HB⟩ := hrel
    by_cases hlt : kk < l.length
    · have h0 : (0 : Int) ≤ (kk : Int) := by omega
      have h1 : (kk : Int) < (l.length : Int) := by omega
      obtain ⟨ad, A0, c0, A1, c1, e1, x0, x1, hl0, hi0, hl1, hi1⟩ := at_T42 HR.out (kk : Int) h0 h1
      have hN := HN.out
      have hw : wrap64 ((kk : Int) + 1) = ((kk + 1 : Nat) : Int) := Pl.wrap_succ (by omega)
      have HW := Aside0.mk hw
      have hx := rdDep_get hlt
      have hlt := Aside0.mk hlt
      clear hw hN
      cases e1
      simp only [Int.toNat_natCast] at x0 x1
      replace x0 := (HB.out.cell (World.block_lt_of_cell? w _ x0)).trans x0
      replace x1 := (HB.out.cell (World.block_lt_of_cell? w _ x1)).trans x1
      have hcall := HP.out wr (rd_T42 l kk) A0 c0 A1 c1 HB.out (List.mem_of_getElem? hx) hl0 hi0 hl1 hi1
      generalize rd_T42 l (kk : Int) = x at x0 x1 hcall hx hl0 hi0 hl1 hi1
      have HX := Aside0.mk hx
      clear hx hl0 hi0 hl1 hi1
      cases hq : p x with
      | true =>
        rw [hq] at hcall
        have HQ := Aside0.mk hq
        clear hq
        go_wp2_with (first | (go_at_fn g; refine hcall.mono ?_; rintro e w' ⟨rfl, hb'⟩; have HB' := Aside0.mk hb'; clear hb'))
        go_ret
        exact ⟨(kk : Int), rfl, IsIdx_hit hlt.out HX.out HQ.out HF.out, below_step HB.out HB'.out⟩
      | false =>
        rw [hq] at hcall
        have HQ := Aside0.mk hq
        clear hq
        go_wp2_with (first | (go_at_fn g; refine hcall.mono ?_; rintro e w' ⟨rfl, hb'⟩; have HB' := Aside0.mk hb'; clear hb'))
        go_roundg (l.length - kk)
        case measure => have := HG.out; have := hlt.out; omega
        case rel =>
          exact ⟨kk + 1, by rw [HW.out], ⟨hlt.out⟩, ⟨by omega⟩, ⟨IsIdx_step hlt.out HX.out HQ.out HF.out⟩, ⟨below_step HB.out HB'.out⟩⟩
    · have h1 : ¬ (kk : Int) < (l.length : Int) := by omega
      have hge : l.length ≤ kk := by omega
      have HGE := Aside0.mk hge
      clear hge hlt
      go_wp2
      go_ret
      exact ⟨-1, rfl, IsIdx_miss HGE.out HF.out, HB.out⟩
set_option maxHeartbeats 1000000 in
theorem ConDep (g : Nat) (lb : Array Value) (eg : ∀ args w, (callFunc g args).run Try.prog w = .ok (.enter g args) w) (p : S42 → Bool) (A : Option Addr) (c : Nat) (l : List S42) (w : World) (hr : Kd.C k42 w A l.length l)
    (hp : ∀ (W : World) (x : S42) (B0 : Option Addr) (b0 : Nat) (B1 : Option Addr) (b1 : Nat), Below w.heap.size w W → x ∈ l → x.f0.length ≤ b0 → Kd.C (Kd.int .i64) w B0 x.f0.length x.f0 → x.f1.length ≤ b1 → Kd.C (Kd.int .i64) w B1 x.f1.length x.f1 → Calls Try.prog g (#[.agg #[.slice B0 x.f0.length b0, .slice B1 x.f1.length b1]] ++ lb) W fun e w' => e = .returned (.bool (p x)) ∧ Below W.heap.size W w') :
    Calls Try.prog 54 #[.slice A l.length c, .func (.func g) #[] lb] w fun e w' => e = .returned (.bool (l.any p)) ∧ Below w.heap.size w w' := by
  have hi := IdxDep g lb eg p A c l w hr hp
  clear hr hp
  go_enter Try.func54, Try.ntmps54
  go_wp2_with (first | (go_at_call 73; refine hi.mono ?_; rintro e w' ⟨i, rfl, hx, hb'⟩; have HB' := Aside0.mk hb'; have HX := Aside0.mk (IsIdx_any hx); clear hb' hi hx))
  go_ret
  exact ⟨by rw [← HX.out]; first | rfl | simp | (congr 2; simp) , HB'.out⟩
end Go.Proofs.Ytdnidldinafakaa.Pr

/- slices.ContainsFunc over numbers, and impl.hasAll. No condition. -/
namespace Go.Proofs.Ytdnidldinafakaa.Pr
open Go.RowKit Go.Proofs.YtdnidldinafakaaW.PrintWords Go.Proofs.YtdnidldinafakaaW.PrintLast Go.Proofs.YtdnidldinafakaaW.PrintMore
set_option linter.unusedVariables false
set_option linter.unusedSimpArgs false
set_option maxHeartbeats 1000000 in
theorem ConInt (g : Nat) (lb : Array Value) (eg : ∀ args w, (callFunc g args).run Try.prog w = .ok (.enter g args) w) (p : Int → Bool) (A : Option Addr) (c : Nat) (l : List Int) (w : World) (hr : Kd.C (Kd.int .i64) w A l.length l)
    (hp : ∀ (W : World) (x : Int), Below w.heap.size w W → Calls Try.prog g (#[.int .i64 x] ++ lb) W fun e w' => e = .returned (.bool (p x)) ∧ Below W.heap.size W w') :
    Calls Try.prog 37 #[.slice A l.length c, .func (.func g) #[] lb] w fun e w' => e = .returned (.bool (l.any p)) ∧ Below w.heap.size w w' := by
  have hi := IdxInt g lb eg p A c l w hr hp
  clear hr hp
  go_enter Try.func37, Try.ntmps37
  go_wp2_with (first | (go_at_call 58; refine hi.mono ?_; rintro e w' ⟨i, rfl, hx, hb'⟩; have HB' := Aside0.mk hb'; have HX := Aside0.mk (IsIdx_any hx); clear hb' hi hx))
  go_ret
  exact ⟨by rw [← HX.out]; first | rfl | simp | (congr 2; simp) , HB'.out⟩
set_option maxHeartbeats 1000000 in
set_option maxRecDepth 100000 in
theorem hasAll1 (x : Int) (B : Nat) (A1 : Option Addr) (c1 : Nat) (l1 : List Int) (w : World) (hcell : w.cell? ⟨B, 0, none⟩ = some (.slice A1 l1.length c1)) (hr : Kd.C (Kd.int .i64) w A1 l1.length l1) (hc : l1.length ≤ c1) :
    Calls Try.prog 75 (#[.int .i64 x] ++ #[.pointer (some ⟨B, 0, none⟩)]) w fun e w' => e = .returned (.bool (!l1.contains x)) ∧ Below w.heap.size w w' := by
  obtain ⟨k, hk⟩ := Ev.rounds (Ax.contains_ev l1 x (by have := hr.2.1; omega))
  have hcon := fun (W : World) (hW : Kd.C (Kd.int .i64) W A1 l1.length l1) => slices_Contains_int_int.calls k A1 c1 l1 x _ W hW hc hk
  generalize l1.contains x = bb at hcon
  have HR := Aside0.mk hr
  have HH := Aside0.mk hcon
  clear hr hcon hk hc
  show Calls Try.prog 75 #[.int .i64 x, .pointer (some ⟨B, 0, none⟩)] w _
  go_enter Try.func75, Try.ntmps75
  go_wp2_with (first | (go_at_call 61; refine (HH.out _ HR.out).mono ?_; rintro e w' ⟨rfl, ⟨nd, rfl⟩⟩))
  go_ret
  exact ⟨rfl, pw_below_drewN (Below.refl _ _) _⟩
set_option maxHeartbeats 1000000 in
theorem hasAllCon (A0 : Option Addr) (c0 : Nat) (l0 : List Int) (A1 : Option Addr) (c1 : Nat) (l1 : List Int) (w : World) (hr0 : Kd.C (Kd.int .i64) w A0 l0.length l0) (hc0 : l0.length ≤ c0) (hr1 : Kd.C (Kd.int .i64) w A1 l1.length l1) :
    Calls Try.prog 37 #[.slice A1 l1.length c1, .func (.func 75) #[] #[.pointer (some ⟨w.heap.size, 0, none⟩)]] (w.alloc (.cells #[.slice A0 l0.length c0] 37)) fun e w' => e = .returned (.bool (l1.any fun x => !l0.contains x)) ∧ Below w.heap.size w w' := by
  have hbx := boxed_cell w (.slice A0 l0.length c0) 37
  have hsz := boxed_size w (.cells #[.slice A0 l0.length c0] 37)
  have hal := below_alloc (Below.refl w.heap.size w) (.cells #[.slice A0 l0.length c0] 37)
  generalize w.alloc (.cells #[.slice A0 l0.length c0] 37) = w1 at hbx hsz hal ⊢
  have hra := Kd.C_below hr0 hal
  have hrb := Kd.C_below hr1 hal
  refine (ConInt 75 #[.pointer (some ⟨w.heap.size, 0, none⟩)] (enters_of Try.func75 rfl rfl) (fun x => !l0.contains x) A1 c1 l1 w1 hrb (fun W x hb => ?_)).mono ?_
  · exact hasAll1 x w.heap.size A0 c0 l0 W ((hb.cell (by rw [hsz]; exact Nat.lt_succ_self _)).trans hbx) (Kd.C_below hra hb) hc0
  · rintro e w2 ⟨rfl, hb2⟩
    exact ⟨rfl, ⟨hb2.os.trans hal.os, hb2.tape.trans hal.tape, hb2.output.trans hal.output, by have := hb2.size; omega, fun k hk => (hb2.block k (by omega)).trans (hal.block k hk)⟩⟩
def impl_hasAll.f (l0 : List Int) (l1 : List Int) : Option Bool := some (l1.all fun x => l0.contains x)
set_option maxHeartbeats 1000000 in
set_option maxRecDepth 100000 in
theorem impl_hasAll.calls (A0 : Option Addr) (c0 : Nat) (l0 : List Int) (A1 : Option Addr) (c1 : Nat) (l1 : List Int) (r : Bool) (w : World) (hr0 : Kd.C (Kd.int .i64) w A0 l0.length l0) (hc0 : l0.length ≤ c0) (hr1 : Kd.C (Kd.int .i64) w A1 l1.length l1) (hc1 : l1.length ≤ c1) (h : impl_hasAll.f l0 l1 = some r) :
    Calls Try.prog 57 #[.slice A0 l0.length c0, .slice A1 l1.length c1] w fun e w' => e = .returned (.bool r) ∧ Below w.heap.size w w' := by
  unfold impl_hasAll.f at h
  obtain rfl := Option.some.inj h
  have hcon := hasAllCon A0 c0 l0 A1 c1 l1 w hr0 hc0 hr1
  have hany : (l1.any fun x => !l0.contains x) = !(l1.all fun x => l0.contains x) := by rw [List.not_all_eq_any_not]
  rw [hany] at hcon
  generalize (l1.all fun x => l0.contains x) = bb at hcon ⊢
  clear hany hr0 hr1 hc0 hc1 h
  go_enter Try.func57, Try.ntmps57
  go_wp2_with (first | (go_at_call 37; refine hcon.mono ?_; rintro e w' ⟨rfl, hb⟩; have HB := Aside0.mk hb; clear hb))
  go_ret
  exact ⟨by simp, HB.out⟩
end Go.Proofs.Ytdnidldinafakaa.Pr
