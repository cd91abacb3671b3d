/- Several small texts together: FIdxDep, ESortInt. No condition but those they name. -/
import Derived.Test.YtdnidldinafakaaPr0
import Derived.Test.YtdnidldinafakaaFd
import Derived.Test.YtdnidldinafakaaShelf
import Derived.Test.YtdnidldinafakaaWWords
import Derived.Test.YtdnidldinafakaaWKept
import Derived.Test.YtdnidldinafakaaWLast
import Derived.Test.YtdnidldinafakaaWMore
import Derived.Test.YtdnidldinafakaaAc
import Derived.Test.YtdnidldinafakaaMx4
import Derived.Sort.OwnSortedInts
/- slices.IndexFunc and slices.ContainsFunc over deps, whatever predicate is handed in: contracts that lean on the predicate's own. -/
namespace Go.Proofs.Ytdnidldinafakaa.Pr
open Go.RowKit Go.Proofs.YtdnidldinafakaaW.PrintWords Go.Proofs.YtdnidldinafakaaW.PrintLast Go.Proofs.YtdnidldinafakaaW.PrintMore
set_option linter.unusedVariables false
set_option linter.unusedSimpArgs false
theorem rdDep_get {l : List S42} {kk : Nat} (h : kk < l.length) : l[kk]? = some (rd_T42 l (kk : Int)) := by
  simp [rd_T42, List.getD_eq_getElem?_getD, List.getElem?_eq_getElem h]
set_option maxHeartbeats 1000000 in
set_option maxRecDepth 100000 in
theorem IdxDep (g : Nat) (lb : Array Value) (eg : ∀ args w, (callFunc g args).run Try.prog w = .ok (.enter g args) w) (p : S42 → Bool) (A : Option Addr) (c : Nat) (l : List S42) (w : World) (hr : Kd.C k42 w A l.length l)
    (hp : ∀ (W : World) (x : S42) (B0 : Option Addr) (b0 : Nat) (B1 : Option Addr) (b1 : Nat), Below w.heap.size w W → x ∈ l → x.f0.length ≤ b0 → Kd.C (Kd.int .i64) w B0 x.f0.length x.f0 → x.f1.length ≤ b1 → Kd.C (Kd.int .i64) w B1 x.f1.length x.f1 → Calls Try.prog g (#[.agg #[.slice B0 x.f0.length b0, .slice B1 x.f1.length b1]] ++ lb) W fun e w' => e = .returned (.bool (p x)) ∧ Below W.heap.size W w') :
    Calls Try.prog 73 #[.slice A l.length c, .func (.func g) #[] lb] w (IdxPost p l w) := by
  have HR := Aside0.mk hr
  have HP := Aside0.mk hp
  have HN := Aside0.mk hr.2.1
  clear hr hp
  go_enter Try.func73, Try.ntmps73
  go_wp2
  go_loopg [8] (l.length + 1) (fun gg v8 wr => ∃ kk : Nat, v8 = .int .i64 kk ∧ Aside0 (kk ≤ l.length) ∧ Aside0 (l.length + 1 - kk ≤ gg) ∧ Aside0 (∀ y ∈ l.take kk, p y = false) ∧ Aside0 (Below w.heap.size w wr))
  case atStart => exact ⟨0, rfl, ⟨Nat.zero_le _⟩, ⟨by omega⟩, ⟨by simp⟩, ⟨Below.refl _ _⟩⟩
  case round =>
    obtain ⟨kk, rfl, HK, HG, HF, HB⟩ := hrel
    by_cases hlt : kk < l.length
    · have h0 : (0 : Int) ≤ (kk : Int) := by omega
      have h1 : (kk : Int) < (l.length : Int) := by omega
      obtain ⟨ad, A0, c0, A1, c1, e1, x0, x1, hl0, hi0, hl1, hi1⟩ := at_T42 HR.out (kk : Int) h0 h1
      have hN := HN.out
      have hw : wrap64 ((kk : Int) + 1) = ((kk + 1 : Nat) : Int) := Pl.wrap_succ (by omega)
      have HW := Aside0.mk hw
      have hx := rdDep_get hlt
      have hlt := Aside0.mk hlt
      clear hw hN
      cases e1
      simp only [Int.toNat_natCast] at x0 x1
      replace x0 := (HB.out.cell (World.block_lt_of_cell? w _ x0)).trans x0
      replace x1 := (HB.out.cell (World.block_lt_of_cell? w _ x1)).trans x1
      have hcall := HP.out wr (rd_T42 l kk) A0 c0 A1 c1 HB.out (List.mem_of_getElem? hx) hl0 hi0 hl1 hi1
      generalize rd_T42 l (kk : Int) = x at x0 x1 hcall hx hl0 hi0 hl1 hi1
      have HX := Aside0.mk hx
      clear hx hl0 hi0 hl1 hi1
      cases hq : p x with
      | true =>
        rw [hq] at hcall
        have HQ := Aside0.mk hq
        clear hq
        go_wp2_with (first | (go_at_fn g; refine hcall.mono ?_; rintro e w' ⟨rfl, hb'⟩; have HB' := Aside0.mk hb'; clear hb'))
        go_ret
        exact ⟨(kk : Int), rfl, IsIdx_hit hlt.out HX.out HQ.out HF.out, below_step HB.out HB'.out⟩
      | false =>
        rw [hq] at hcall
        have HQ := Aside0.mk hq
        clear hq
        go_wp2_with (first | (go_at_fn g; refine hcall.mono ?_; rintro e w' ⟨rfl, hb'⟩; have HB' := Aside0.mk hb'; clear hb'))
        go_roundg (l.length - kk)
        case measure => have := HG.out; have := hlt.out; omega
        case rel =>
          exact ⟨kk + 1, by rw [HW.out], ⟨hlt.out⟩, ⟨by omega⟩, ⟨IsIdx_step hlt.out HX.out HQ.out HF.out⟩, ⟨below_step HB.out HB'.out⟩⟩
    · have h1 : ¬ (kk : Int) < (l.length : Int) := by omega
      have hge : l.length ≤ kk := by omega
      have HGE := Aside0.mk hge
      clear hge hlt
      go_wp2
      go_ret
      exact ⟨-1, rfl, IsIdx_miss HGE.out HF.out, HB.out⟩
set_option maxHeartbeats 1000000 in
theorem ConDep (g : Nat) (lb : Array Value) (eg : ∀ args w, (callFunc g args).run Try.prog w = .ok (.enter g args) w) (p : S42 → Bool) (A : Option Addr) (c : Nat) (l : List S42) (w : World) (hr : Kd.C k42 w A l.length l)
    (hp : ∀ (W : World) (x : S42) (B0 : Option Addr) (b0 : Nat) (B1 : Option Addr) (b1 : Nat), Below w.heap.size w W → x ∈ l → x.f0.length ≤ b0 → Kd.C (Kd.int .i64) w B0 x.f0.length x.f0 → x.f1.length ≤ b1 → Kd.C (Kd.int .i64) w B1 x.f1.length x.f1 → Calls Try.prog g (#[.agg #[.slice B0 x.f0.length b0, .slice B1 x.f1.length b1]] ++ lb) W fun e w' => e = .returned (.bool (p x)) ∧ Below W.heap.size W w') :
    Calls Try.prog 54 #[.slice A l.length c, .func (.func g) #[] lb] w fun e w' => e = .returned (.bool (l.any p)) ∧ Below w.heap.size w w' := by
  have hi := IdxDep g lb eg p A c l w hr hp
  clear hr hp
  go_enter Try.func54, Try.ntmps54
  go_wp2_with (first | (go_at_call 73; refine hi.mono ?_; rintro e w' ⟨i, rfl, hx, hb'⟩; have HB' := Aside0.mk hb'; have HX := Aside0.mk (IsIdx_any hx); clear hb' hi hx))
  go_ret
  exact ⟨by rw [← HX.out]; first | rfl | simp | (congr 2; simp) , HB'.out⟩
end Go.Proofs.Ytdnidldinafakaa.Pr

/- slices.Sort and slices.Compact at numbers, on a row of the call's own (out of the shelf's contracts). Condition: a length below 2^62. -/
namespace Go.Proofs.Ytdnidldinafakaa.Pr
open Go.RowKit Go.Sort Go.Proofs Go.Proofs.YtdnidldinafakaaW.PrintWords Go.Proofs.YtdnidldinafakaaW.PrintLast Go.Proofs.YtdnidldinafakaaW.PrintMore
set_option linter.unusedVariables false
set_option linter.unusedSimpArgs false
theorem compact_cpt (l : List Int) : ∀ j, j ≤ l.length → Lib.compactUpTo l.toArray j = Ax.cptN (fun a b : Int => a == b) 0 l j
  | 0, _ => rfl
  | 1, h => by
    rw [Lib.compactUpTo_succ, Lib.keeps_lt_one _ 0 (by omega)]
    match l, h with
    | x :: xs, _ => simp [Lib.compactUpTo, Ax.cptN]
  | j + 2, h => by
    rw [Lib.compactUpTo_succ, compact_cpt l (j + 1) (by omega), Ax.cptN]
    have e1 : l.toArray[j + 1]! = l.getD (j + 1) 0 := by simp [List.getD_eq_getElem?_getD, show j + 1 < l.length by omega]
    have e2 : l.toArray[j]! = l.getD j 0 := by simp [List.getD_eq_getElem?_getD, show j < l.length by omega]
    have e3 : l.toArray[j + 1 - 1]! = l.getD j 0 := e2
    congr 1
    by_cases hq : l.getD (j + 1) 0 = l.getD j 0
    · rw [Lib.keeps_neg (by omega) (by rw [e1, e3]; exact hq)]
      rw [if_neg (by decide), if_pos (beq_iff_eq.2 hq)]
    · rw [Lib.keeps_pos (by rw [e1, e3]; exact hq), e1]
      simp only [if_true]
      rw [if_neg (by simpa using hq)]
abbrev cptI (l : List Int) : List Int := Ax.cptN (fun a b : Int => a == b) 0 l l.length
theorem compact_eq (l : List Int) : Lib.compact l = cptI l := by
  have := compact_cpt l l.length (Nat.le_refl _)
  simpa [Lib.compact] using this
theorem cptN_le {eq : Int → Int → Bool} (l : List Int) : ∀ j, (Ax.cptN eq 0 l j).length ≤ j
  | 0 => by simp [Ax.cptN]
  | 1 => by simp [Ax.cptN]; omega
  | j + 2 => by
    have := cptN_le (eq := eq) l (j + 1)
    simp only [Ax.cptN, List.length_append]
    split <;> simp <;> omega
theorem CompactInt (P0 : Nat → Prop) (u : Value) (l : List Int) (w0 w : World) (hB : Below w0.heap.size w0 w) (ho : (Kd.int .i64).R 3 w w0.heap.size P0 u l) :
    Calls Try.prog 71 #[u] w fun e w' => ∃ v, e = .returned v ∧ (Kd.int .i64).R 3 w' w0.heap.size P0 v (cptI l) ∧ Below w0.heap.size w0 w' ∧ Kept w w' P0 := by
  obtain ⟨A, c, rfl⟩ := Kd.R_slice ho
  obtain ⟨_, hc, hC⟩ := Kd.R_reads' ho
  have hbig := hC.2.1
  rcases Nat.eq_zero_or_pos l.length with h0 | h0
  · obtain rfl := List.eq_nil_of_length_eq_zero h0
    refine (Try.slices_Compact_int_empty A c w).mono ?_
    rintro e w' ⟨rfl, rfl⟩
    exact ⟨_, rfl, ho, hB, Kept.refl _ _⟩
  · obtain ⟨g, cap, hv, hg, hgl, _⟩ := Kd.R_form ho h0
    injection hv with ha _ hc2
    subst ha; subst hc2
    refine (Try.slices_Compact_int g 0 c l w (R_holds ho) (by omega) hc).mono ?_
    rintro e w' ⟨rfl, q, rfl⟩
    have hle : (cptI l).length ≤ l.length := cptN_le l l.length
    have hE := compact_eq l
    obtain ⟨h1, h2⟩ := R_put (ts := Lib.compact l ++ List.replicate (l.length - (Lib.compact l).length) 0) (q := q) ho (by rw [List.length_append, List.length_replicate, hE]; omega) #[]
    rw [grow_empty] at h1 h2
    refine ⟨_, rfl, ?_, pw_below_grown hB (some g) hB.size h2 (fun k hk => by injection hk with hk; rw [← hk]; exact hg), Kept.of_grown (S := P0) h2 (Kept.refl _ _) (fun k hk => .inl (by injection hk with hk; rw [← hk]; exact ho.1 g rfl))⟩
    have h3 := Kd.R_take (m := (Lib.compact l).length) h1 (by rw [List.length_append]; omega)
    rw [List.take_left] at h3
    rw [← hE]
    exact h3
theorem cptI_sort (l : List Int) : (cptI (sortI l)).Pairwise (· < ·) ∧ ∀ x, x ∈ cptI (sortI l) ↔ x ∈ l := by
  have hs : (sortI l).Pairwise (· ≤ ·) := Ax.sorted_le l
  have hget : ∀ (L : List Int) (m : Nat) (h : m < L.length), L.getD m 0 = L[m] := fun L m h => by rw [List.getD_eq_getElem?_getD, List.getElem?_eq_getElem h]; rfl
  rcases Nat.eq_zero_or_pos (sortI l).length with h0 | h0
  · have := List.eq_nil_of_length_eq_zero h0
    have h1 : l = [] := by
      have : l.length = 0 := by simpa [sortI] using h0
      exact List.eq_nil_of_length_eq_zero this
    subst h1
    simp [sortI, cptI, Ax.cptN]
  · obtain ⟨h1, h2, _⟩ := Ax.cptN_sorts (lt := (· < ·)) (eq := fun a b : Int => a == b) (z := 0) (l := sortI l) (fun a b c => Int.lt_trans) (fun a b h => by simpa using h) (fun m h1 h2 he => by
      have hp := List.pairwise_iff_getElem.1 hs (m - 1) m (by omega) h2 (by omega)
      have e1 := hget (sortI l) m h2
      have e2 := hget (sortI l) (m - 1) (by omega)
      rw [e1, e2] at he ⊢
      have : (sortI l)[m] ≠ (sortI l)[m - 1] := by simpa using he
      omega) (sortI l).length h0 (Nat.le_refl _)
    refine ⟨h1, fun x => ?_⟩
    rw [h2, List.take_length]
    exact List.mem_mergeSort
end Go.Proofs.Ytdnidldinafakaa.Pr
