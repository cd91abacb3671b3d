/- Several small texts together: Pm, FIdxInt0. No condition but those they name. -/
import Derived.Test.YtdnidldinafakaaWWords
import Derived.Laws.IdiomCopy
import Derived.Test.YtdnidldinafakaaPr0
import Derived.Test.YtdnidldinafakaaMx8
/- Small words on memory that the kit lacks: clear on a slice of elements of several cells; a row of one's own cut short, what lies behind it overwritten. -/
namespace Go.Proofs.Ytdnidldinafakaa.Pm
open Go.RowKit Go.Proofs.YtdnidldinafakaaW.PrintWords
set_option linter.unusedVariables false
set_option linter.unusedSimpArgs false
theorem zeroCells_len (zc : Array Value) (n : Nat) : (Builtin.zeroCells zc n).toList.length = n * zc.size := by simp [Builtin.zeroCells]
theorem zeroCells_one (zc : Array Value) (n : Nat) (h1 : ∀ u ∈ zc, u.oneCell' = true) : ∀ u ∈ (Builtin.zeroCells zc n).toList, u.oneCell' = true := by
  intro u hu
  simp only [Builtin.zeroCells, Array.toList_map, List.mem_map] at hu
  obtain ⟨i, hi, rfl⟩ := hu
  have hi2 : i < n * zc.size := by simpa using hi
  have hpos : 0 < zc.size := by
    rcases Nat.eq_zero_or_pos zc.size with h | h
    · rw [h] at hi2
      simp at hi2
    · exact h
  have hlt : i % zc.size < zc.size := Nat.mod_lt _ hpos
  rw [getElem!_pos zc _ hlt]
  exact h1 _ (Array.getElem_mem hlt)
theorem run_clear {P : Program} (w : World) (t e ty : TypeId) (z : Value) (ht : P.underlying t = some (.slice e)) (hv : ∀ w, (zeroValue e).run P w = .ok z w) (h1 : ∀ u ∈ z.cells, u.oneCell' = true) (b o n c : Nat) (hn : 0 < n)
    (hc : ∀ j, j < n * z.cells.size → (w.cell? ⟨b, o + j, none⟩).isSome = true) (hf : ∀ j, j < n * z.cells.size → w.frozen? ⟨b, o + j, none⟩ = false) :
    ∃ L : List Value, L.length = n * z.cells.size ∧ (Builtin.clear_ #[t] ty #[.slice (some ⟨b, o, none⟩) n c]).run P w = .ok (.tuple #[]) (w.setCells b o L) := by
  refine ⟨(Builtin.zeroCells z.cells n).toList, zeroCells_len _ _, ?_⟩
  have hst := run_storeCells_cells (P := P) b o (Builtin.zeroCells z.cells n).toList 0 w (by rw [zeroCells_len]; simpa using hc) (by rw [zeroCells_len]; simpa using hf) (zeroCells_one _ _ h1)
  simp only [Nat.add_zero] at hst
  obtain ⟨m, rfl⟩ : ∃ m, n = m + 1 := ⟨n - 1, by omega⟩
  simp [Builtin.clear_, run_underlying ht, hv, hst]
section
variable {α : Type} {d : Kd α} {e base g n cap : Nat} {ok : Nat → Prop} {W : World} {xs : List α}
theorem R_behind (h : d.R e W base ok (.slice (some ⟨g, 0, none⟩) n cap) xs) (m : Nat) (hm : m ≤ n) (L : List Value) (hL : m * d.sz + L.length ≤ cap * d.sz) :
    d.R e (W.setCells g (m * d.sz) L) base ok (.slice (some ⟨g, 0, none⟩) m cap) (xs.take m) ∧ W.grownBy (W.setCells g (m * d.sz) L) (some g) := by
  obtain ⟨hn, hnc, _⟩ := Kd.R_reads' h
  obtain ⟨hok, inner, ho, hr⟩ := Kd.R_take (m := m) h (by omega)
  obtain ⟨ho1, ho2⟩ := ho
  have hml : (xs.take m).length = m := by rw [List.length_take]; omega
  rcases ho2 with ⟨hv, _⟩ | ⟨g', cap', cur, hv, hb, hh, hnc', hcm, hcs, ht⟩
  · cases hv
  injection hv with ha _ hc
  injection ha with ha
  injection ha with hg
  subst hg; subst hc
  obtain ⟨cur', h3, h4, h5⟩ := setCells_row L (m * d.sz) W cur hh (by omega)
  obtain ⟨s1, s2, s3, s4⟩ := setCells_same g L (m * d.sz) W
  have hfar : ∀ k, k ≠ g → (W.setCells g (m * d.sz) L).heap[k]? = W.heap[k]? := fun k hk => setCells_far L _ k hk
  refine ⟨⟨hok, inner, ⟨ho1, .inr ⟨g, cap, cur', by rw [hml], hb, h3, hnc', hcm, by rw [h4, hcs], ?_⟩⟩, hr.imp_ (fun p c hp => d.M_move (fun k hk => hfar k (fun he => hk.2 (by rw [he]; simp [Value.ownBlock]))) hp)⟩,
    ⟨s1, s2, s3, by rw [s4]; exact Nat.le_refl _, fun k _ hk => hfar k (fun he => hk (by rw [he]))⟩⟩
  rw [hml] at ht ⊢
  have hle : m * d.sz ≤ cap * d.sz := by omega
  rw [h5, List.append_assoc, List.take_append_of_le_length (by rw [List.length_take, Array.length_toList]; omega), List.take_take, Nat.min_self, ht]
end
end Go.Proofs.Ytdnidldinafakaa.Pm

/- slices.IndexFunc over numbers, whatever predicate is handed in: a contract that leans on the predicate's own. -/

namespace Go.Proofs.Ytdnidldinafakaa.Pr
open Go.RowKit Go.Proofs.YtdnidldinafakaaW.PrintWords Go.Proofs.YtdnidldinafakaaW.PrintLast Go.Proofs.YtdnidldinafakaaW.PrintMore
set_option linter.unusedVariables false
set_option linter.unusedSimpArgs false
theorem rd_get {l : List Int} {kk : Nat} (h : kk < l.length) : l[kk]? = some (rd l (kk : Int)) := by
  simp [rd, List.getD_eq_getElem?_getD, List.getElem?_eq_getElem h]
set_option maxHeartbeats 1000000 in
set_option maxRecDepth 100000 in
theorem IdxInt (g : Nat) (lb : Array Value) (eg : ∀ args w, (callFunc g args).run Try.prog w = .ok (.enter g args) w) (p : Int → Bool) (A : Option Addr) (c : Nat) (l : List Int) (w : World) (hr : Kd.C (Kd.int .i64) w A l.length l)
    (hp : ∀ (W : World) (x : Int), Below w.heap.size w W → Calls Try.prog g (#[.int .i64 x] ++ lb) W fun e w' => e = .returned (.bool (p x)) ∧ Below W.heap.size W w') :
    Calls Try.prog 58 #[.slice A l.length c, .func (.func g) #[] lb] w (IdxPost p l w) := by
  have HR := Aside0.mk hr
  have HP := Aside0.mk hp
  have HN := Aside0.mk hr.2.1
  clear hr hp
  go_enter Try.func58, Try.ntmps58
  go_wp2
  go_loopg [8] (l.length + 1) (fun gg v8 wr => ∃ kk : Nat, v8 = .int .i64 kk ∧ Aside0 (kk ≤ l.length) ∧ Aside0 (l.length + 1 - kk ≤ gg) ∧ Aside0 (∀ y ∈ l.take kk, p y = false) ∧ Aside0 (Below w.heap.size w wr))
  case atStart => exact ⟨0, rfl, ⟨Nat.zero_le _⟩, ⟨by omega⟩, ⟨by simp⟩, ⟨Below.refl _ _⟩⟩
  case round =>
    obtain ⟨kk, rfl, HK, HG, HF, HB⟩ := hrel
    by_cases hlt : kk < l.length
    · have h0 : (0 : Int) ≤ (kk : Int) := by omega
      have h1 : (kk : Int) < (l.length : Int) := by omega
      obtain ⟨ad, e1, x0⟩ := Kd.at_int HR.out (kk : Int) h0 h1
      have hN := HN.out
      have hw : wrap64 ((kk : Int) + 1) = ((kk + 1 : Nat) : Int) := Pl.wrap_succ (by omega)
      have HW := Aside0.mk hw
      have hx := rd_get hlt
      have hlt := Aside0.mk hlt
      clear hw hN
      cases e1
      simp only [Int.toNat_natCast] at x0
      replace x0 := (HB.out.cell (World.block_lt_of_cell? w _ x0)).trans x0
      have hcall := HP.out wr (rd l kk) HB.out
      generalize rd l (kk : Int) = x at x0 hcall hx
      have HX := Aside0.mk hx
      clear hx
      cases hq : p x with
      | true =>
        rw [hq] at hcall
        have HQ := Aside0.mk hq
        clear hq
        go_wp2_with (first | (go_at_fn g; refine hcall.mono ?_; rintro e w' ⟨rfl, hb'⟩; have HB' := Aside0.mk hb'; clear hb'))
        go_ret
        exact ⟨(kk : Int), rfl, IsIdx_hit hlt.out HX.out HQ.out HF.out, below_step HB.out HB'.out⟩
      | false =>
        rw [hq] at hcall
        have HQ := Aside0.mk hq
        clear hq
        go_wp2_with (first | (go_at_fn g; refine hcall.mono ?_; rintro e w' ⟨rfl, hb'⟩; have HB' := Aside0.mk hb'; clear hb'))
        go_roundg (l.length - kk)
        case measure => have := HG.out; have := hlt.out; omega
        case rel =>
          exact ⟨kk + 1, by rw [HW.out], ⟨hlt.out⟩, ⟨by omega⟩, ⟨IsIdx_step hlt.out HX.out HQ.out HF.out⟩, ⟨below_step HB.out HB'.out⟩⟩
    · have h1 : ¬ (kk : Int) < (l.length : Int) := by omega
      have hge : l.length ≤ kk := by omega
      have HGE := Aside0.mk hge
      clear hge hlt
      go_wp2
      go_ret
      exact ⟨-1, rfl, IsIdx_miss HGE.out HF.out, HB.out⟩
end Go.Proofs.Ytdnidldinafakaa.Pr
