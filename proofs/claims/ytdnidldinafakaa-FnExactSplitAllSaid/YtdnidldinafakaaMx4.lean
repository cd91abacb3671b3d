/- Several small texts together: ESortOnly, FIdxInt0. No condition but those they name. -/
import Derived.Test.YtdnidldinafakaaShelf
import Derived.Test.YtdnidldinafakaaWWords
import Derived.Test.YtdnidldinafakaaWKept
import Derived.Test.YtdnidldinafakaaWLast
import Derived.Test.YtdnidldinafakaaWMore
import Derived.Test.YtdnidldinafakaaAc
import Derived.Sort.OwnSortedInts
import Derived.Test.YtdnidldinafakaaPr0
import Derived.Test.YtdnidldinafakaaFd
import Derived.Test.YtdnidldinafakaaMx6
/- slices.Sort and slices.Compact at numbers, on a row of the call's own (out of the shelf's contracts). Condition: a length below 2^62. -/
namespace Go.Proofs.Ytdnidldinafakaa.Pr
open Go.RowKit Go.Sort Go.Proofs Go.Proofs.YtdnidldinafakaaW.PrintWords Go.Proofs.YtdnidldinafakaaW.PrintLast Go.Proofs.YtdnidldinafakaaW.PrintMore
set_option linter.unusedVariables false
set_option linter.unusedSimpArgs false
theorem R_put {w : World} {base g n cap q : Nat} {e : Nat} {ok : Nat → Prop} {xs ts : List Int} (h : (Kd.int .i64).R e w base ok (.slice (some ⟨g, 0, none⟩) n cap) xs) (hl : ts.length = xs.length) (os : Array Obj) :
    (Kd.int .i64).R e (grow (putRow (Value.int .i64) (Sort.ahead w q) g 0 ts.toArray) os) base ok (.slice (some ⟨g, 0, none⟩) n cap) ts ∧ w.grownBy (grow (putRow (Value.int .i64) (Sort.ahead w q) g 0 ts.toArray) os) (some g) := by
  refine ⟨?_, grownBy_sortedI _⟩
  have hn := (Kd.R_reads' h).1
  have ho := Kd.own_of_R (enc := Value.int .i64) (h1 := fun _ => rfl) h
  rcases ho.2 with ⟨hv, _⟩ | ⟨g', cap', cur, hv, hb, hh, h1, h2, h3, h4⟩
  · cases hv
  injection hv with ha hn2 hc
  injection ha with ha
  injection ha with hg
  subst hg; subst hc
  refine Kd.R_of_own (h1 := fun _ => rfl) ?_ h.1
  have := ownsRow_sortedI (w := w) (base := base) (g := g) (cap := cap) (n := q) (os := os) (ss := xs) (ts := ts) hl hb hh (by omega) h2 h3
  rw [← hn] at this
  rw [hl, ← hn]
  exact this
theorem R_holds {w : World} {base g n cap : Nat} {e : Nat} {ok : Nat → Prop} {xs : List Int} (h : (Kd.int .i64).R e w base ok (.slice (some ⟨g, 0, none⟩) n cap) xs) : Holds (Value.int .i64) w g 0 xs.toArray := by
  have ho := Kd.own_of_R (enc := Value.int .i64) (h1 := fun _ => rfl) h
  rcases ho.2 with ⟨hv, _⟩ | ⟨g', cap', cur, hv, hb, hh, h1, h2, h3, h4⟩
  · cases hv
  injection hv with ha hn2 hc
  injection ha with ha
  injection ha with hg
  subst hg
  exact holds_of_blockI hh (by rw [Nat.mul_one] at h4; exact h4)
abbrev sortI (l : List Int) : List Int := l.mergeSort fun x y => decide (x ≤ y)
theorem SortInt (P0 : Nat → Prop) (u : Value) (l : List Int) (w0 w : World) (hB : Below w0.heap.size w0 w) (ho : (Kd.int .i64).R 3 w w0.heap.size P0 u l) (hsz : l.length < 4611686018427387904) :
    Calls Try.prog 70 #[u] w fun e w' => e = .returned (.tuple #[]) ∧ (Kd.int .i64).R 3 w' w0.heap.size P0 u (sortI l) ∧ Below w0.heap.size w0 w' ∧ Kept w w' P0 := by
  obtain ⟨A, c, rfl⟩ := Kd.R_slice ho
  rcases Nat.eq_zero_or_pos l.length with h0 | h0
  · obtain rfl := List.eq_nil_of_length_eq_zero h0
    refine (Try.slices_Sort_int_none A c w).mono ?_
    rintro e w' ⟨rfl, rfl⟩
    exact ⟨rfl, by simpa [sortI] using ho, hB, Kept.refl _ _⟩
  · obtain ⟨g, cap, hv, hg, hgl, _⟩ := Kd.R_form ho h0
    injection hv with ha _ hc
    subst ha; subst hc
    refine (Try.slices_Sort_int g 0 c l w (R_holds ho) hgl hsz).mono ?_
    rintro e w' ⟨rfl, q, os, rfl⟩
    obtain ⟨h1, h2⟩ := R_put (ts := sortI l) (q := q) ho (by simp [sortI]) os
    exact ⟨rfl, h1, pw_below_grown hB (some g) hB.size h2 (fun k hk => by injection hk with hk; rw [← hk]; exact hg), Kept.of_grown (S := P0) h2 (Kept.refl _ _) (fun k hk => .inl (by injection hk with hk; rw [← hk]; exact ho.1 g rfl))⟩
end Go.Proofs.Ytdnidldinafakaa.Pr

/- slices.IndexFunc over numbers, whatever predicate is handed in: a contract that leans on the predicate's own. -/

namespace Go.Proofs.Ytdnidldinafakaa.Pr
open Go.RowKit Go.Proofs.YtdnidldinafakaaW.PrintWords Go.Proofs.YtdnidldinafakaaW.PrintLast Go.Proofs.YtdnidldinafakaaW.PrintMore
set_option linter.unusedVariables false
set_option linter.unusedSimpArgs false
theorem rd_get {l : List Int} {kk : Nat} (h : kk < l.length) : l[kk]? = some (rd l (kk : Int)) := by
  simp [rd, List.getD_eq_getElem?_getD, List.getElem?_eq_getElem h]
set_option maxHeartbeats 1000000 in
set_option maxRecDepth 100000 in
theorem IdxInt (g : Nat) (lb : Array Value) (eg : ∀ args w, (callFunc g args).run Try.prog w = .ok (.enter g args) w) (p : Int → Bool) (A : Option Addr) (c : Nat) (l : List Int) (w : World) (hr : Kd.C (Kd.int .i64) w A l.length l)
    (hp : ∀ (W : World) (x : Int), Below w.heap.size w W → Calls Try.prog g (#[.int .i64 x] ++ lb) W fun e w' => e = .returned (.bool (p x)) ∧ Below W.heap.size W w') :
    Calls Try.prog 58 #[.slice A l.length c, .func (.func g) #[] lb] w (IdxPost p l w) := by
  have HR := Aside0.mk hr
  have HP := Aside0.mk hp
  have HN := Aside0.mk hr.2.1
  clear hr hp
  go_enter Try.func58, Try.ntmps58
  go_wp2
  go_loopg [8] (l.length + 1) (fun gg v8 wr => ∃ kk : Nat, v8 = .int .i64 kk ∧ Aside0 (kk ≤ l.length) ∧ Aside0 (l.length + 1 - kk ≤ gg) ∧ Aside0 (∀ y ∈ l.take kk, p y = false) ∧ Aside0 (Below w.heap.size w wr))
  case atStart => exact ⟨0, rfl, ⟨Nat.zero_le _⟩, ⟨by omega⟩, ⟨by simp⟩, ⟨Below.refl _ _⟩⟩
  case round =>
    obtain ⟨kk, rfl, HK, HG, HF, HB⟩ := hrel
    by_cases hlt : kk < l.length
    · have h0 : (0 : Int) ≤ (kk : Int) := by omega
      have h1 : (kk : Int) < (l.length : Int) := by omega
      obtain ⟨ad, e1, x0⟩ := Kd.at_int HR.out (kk : Int) h0 h1
      have hN := HN.out
      have hw : wrap64 ((kk : Int) + 1) = ((kk + 1 : Nat) : Int) := Pl.wrap_succ (by omega)
      have HW := Aside0.mk hw
      have hx := rd_get hlt
      have hlt := Aside0.mk hlt
      clear hw hN
      cases e1
      simp only [Int.toNat_natCast] at x0
      replace x0 := (HB.out.cell (World.block_lt_of_cell? w _ x0)).trans x0
      have hcall := HP.out wr (rd l kk) HB.out
      generalize rd l (kk : Int) = x at x0 hcall hx
      have HX := Aside0.mk hx
      clear hx
      cases hq : p x with
      | true =>
        rw [hq] at hcall
        have HQ := Aside0.mk hq
        clear hq
        go_wp2_with (first | (go_at_fn g; refine hcall.mono ?_; rintro e w' ⟨rfl, hb'⟩; have HB' := Aside0.mk hb'; clear hb'))
        go_ret
        exact ⟨(kk : Int), rfl, IsIdx_hit hlt.out HX.out HQ.out HF.out, below_step HB.out HB'.out⟩
      | false =>
        rw [hq] at hcall
        have HQ := Aside0.mk hq
        clear hq
        go_wp2_with (first | (go_at_fn g; refine hcall.mono ?_; rintro e w' ⟨rfl, hb'⟩; have HB' := Aside0.mk hb'; clear hb'))
        go_roundg (l.length - kk)
        case measure => have := HG.out; have := hlt.out; omega
        case rel =>
          exact ⟨kk + 1, by rw [HW.out], ⟨hlt.out⟩, ⟨by omega⟩, ⟨IsIdx_step hlt.out HX.out HQ.out HF.out⟩, ⟨below_step HB.out HB'.out⟩⟩
    · have h1 : ¬ (kk : Int) < (l.length : Int) := by omega
      have hge : l.length ≤ kk := by omega
      have HGE := Aside0.mk hge
      clear hge hlt
      go_wp2
      go_ret
      exact ⟨-1, rfl, IsIdx_miss HGE.out HF.out, HB.out⟩
end Go.Proofs.Ytdnidldinafakaa.Pr
