/- Several small texts together: Pm, EGrowInt. No condition but those they name. -/
import Derived.Test.YtdnidldinafakaaWWords
import Derived.Laws.IdiomCopy
import Derived.Test.YtdnidldinafakaaPr0
import Derived.Test.YtdnidldinafakaaMx3
import Derived.Test.YtdnidldinafakaaWZeros
/- Small words on memory that the kit lacks: clear on a slice of elements of several cells; a row of one's own cut short, what lies behind it overwritten. -/
namespace Go.Proofs.Ytdnidldinafakaa.Pm
open Go.RowKit Go.Proofs.YtdnidldinafakaaW.PrintWords
set_option linter.unusedVariables false
set_option linter.unusedSimpArgs false
theorem zeroCells_len (zc : Array Value) (n : Nat) : (Builtin.zeroCells zc n).toList.length = n * zc.size := by simp [Builtin.zeroCells]
theorem zeroCells_one (zc : Array Value) (n : Nat) (h1 : ∀ u ∈ zc, u.oneCell' = true) : ∀ u ∈ (Builtin.zeroCells zc n).toList, u.oneCell' = true := by
  intro u hu
  simp only [Builtin.zeroCells, Array.toList_map, List.mem_map] at hu
  obtain ⟨i, hi, rfl⟩ := hu
  have hi2 : i < n * zc.size := by simpa using hi
  have hpos : 0 < zc.size := by
    rcases Nat.eq_zero_or_pos zc.size with h | h
    · rw [h] at hi2
      simp at hi2
    · exact h
  have hlt : i % zc.size < zc.size := Nat.mod_lt _ hpos
  rw [getElem!_pos zc _ hlt]
  exact h1 _ (Array.getElem_mem hlt)
theorem run_clear {P : Program} (w : World) (t e ty : TypeId) (z : Value) (ht : P.underlying t = some (.slice e)) (hv : ∀ w, (zeroValue e).run P w = .ok z w) (h1 : ∀ u ∈ z.cells, u.oneCell' = true) (b o n c : Nat) (hn : 0 < n)
    (hc : ∀ j, j < n * z.cells.size → (w.cell? ⟨b, o + j, none⟩).isSome = true) (hf : ∀ j, j < n * z.cells.size → w.frozen? ⟨b, o + j, none⟩ = false) :
    ∃ L : List Value, L.length = n * z.cells.size ∧ (Builtin.clear_ #[t] ty #[.slice (some ⟨b, o, none⟩) n c]).run P w = .ok (.tuple #[]) (w.setCells b o L) := by
  refine ⟨(Builtin.zeroCells z.cells n).toList, zeroCells_len _ _, ?_⟩
  have hst := run_storeCells_cells (P := P) b o (Builtin.zeroCells z.cells n).toList 0 w (by rw [zeroCells_len]; simpa using hc) (by rw [zeroCells_len]; simpa using hf) (zeroCells_one _ _ h1)
  simp only [Nat.add_zero] at hst
  obtain ⟨m, rfl⟩ : ∃ m, n = m + 1 := ⟨n - 1, by omega⟩
  simp [Builtin.clear_, run_underlying ht, hv, hst]
section
variable {α : Type} {d : Kd α} {e base g n cap : Nat} {ok : Nat → Prop} {W : World} {xs : List α}
theorem R_behind (h : d.R e W base ok (.slice (some ⟨g, 0, none⟩) n cap) xs) (m : Nat) (hm : m ≤ n) (L : List Value) (hL : m * d.sz + L.length ≤ cap * d.sz) :
    d.R e (W.setCells g (m * d.sz) L) base ok (.slice (some ⟨g, 0, none⟩) m cap) (xs.take m) ∧ W.grownBy (W.setCells g (m * d.sz) L) (some g) := by
  obtain ⟨hn, hnc, _⟩ := Kd.R_reads' h
  obtain ⟨hok, inner, ho, hr⟩ := Kd.R_take (m := m) h (by omega)
  obtain ⟨ho1, ho2⟩ := ho
  have hml : (xs.take m).length = m := by rw [List.length_take]; omega
  rcases ho2 with ⟨hv, _⟩ | ⟨g', cap', cur, hv, hb, hh, hnc', hcm, hcs, ht⟩
  · cases hv
  injection hv with ha _ hc
  injection ha with ha
  injection ha with hg
  subst hg; subst hc
  obtain ⟨cur', h3, h4, h5⟩ := setCells_row L (m * d.sz) W cur hh (by omega)
  obtain ⟨s1, s2, s3, s4⟩ := setCells_same g L (m * d.sz) W
  have hfar : ∀ k, k ≠ g → (W.setCells g (m * d.sz) L).heap[k]? = W.heap[k]? := fun k hk => setCells_far L _ k hk
  refine ⟨⟨hok, inner, ⟨ho1, .inr ⟨g, cap, cur', by rw [hml], hb, h3, hnc', hcm, by rw [h4, hcs], ?_⟩⟩, hr.imp_ (fun p c hp => d.M_move (fun k hk => hfar k (fun he => hk.2 (by rw [he]; simp [Value.ownBlock]))) hp)⟩,
    ⟨s1, s2, s3, by rw [s4]; exact Nat.le_refl _, fun k _ hk => hfar k (fun he => hk (by rw [he]))⟩⟩
  rw [hml] at ht ⊢
  have hle : m * d.sz ≤ cap * d.sz := by omega
  rw [h5, List.append_assoc, List.take_append_of_le_length (by rw [List.length_take, Array.length_toList]; omega), List.take_take, Nat.min_self, ht]
end
end Go.Proofs.Ytdnidldinafakaa.Pm

/- slices.Grow at numbers, for the nil slice alone (slices.Concat hands it no other): a row of one's own without elements. Condition: a length that Go can make room for. -/
namespace Go.Proofs.Ytdnidldinafakaa.Pr
open Go.RowKit Go.Proofs.YtdnidldinafakaaW.PrintWords Go.Proofs.YtdnidldinafakaaW.PrintLast Go.Proofs.YtdnidldinafakaaW.PrintMore
set_option linter.unusedVariables false
set_option linter.unusedSimpArgs false
def slices_Grow_int_int.f (l0 : List Int) (a1 : Int) : Option (List Int) := if l0 = [] ∧ 0 ≤ a1 ∧ a1 * 8 ≤ 140737488351232 then some [] else none
set_option maxHeartbeats 2000000 in
set_option maxRecDepth 100000 in
theorem slices_Grow_int_int.calls (A0 : Option Addr) (c0 : Nat) (l0 : List Int) (a1 : Int) (r : List Int) (w : World) (hr0 : match A0 with | none => Kd.C (Kd.int .i64) w none l0.length l0 | some _ => False) (hc0 : c0 ≤ l0.length) (h : slices_Grow_int_int.f l0 a1 = some r) :
    Calls Try.prog 79 #[.slice A0 l0.length c0, .int .i64 a1] w fun e w' => ∃ v0_ : Value, e = .returned (v0_) ∧ Kd.R (Kd.int .i64) 3 w' w.heap.size (fun _ => True) v0_ r ∧ Below w.heap.size w w' := by
  unfold slices_Grow_int_int.f at h
  by_cases hb : l0 = [] ∧ 0 ≤ a1 ∧ a1 * 8 ≤ 140737488351232
  · rw [if_pos hb] at h
    obtain rfl := Option.some.inj h
    obtain ⟨rfl, h0, h1⟩ := hb
    obtain rfl : c0 = 0 := by simpa using hc0
    cases A0 with
    | some _ => exact hr0.elim
    | none =>
      have b1 : decide (a1 < 0) = false := decide_eq_false (by omega)
      have hw0 : wrap64 (0 - 0) = 0 := by rw [Pl.wrap_in (by omega) (by omega)]; rfl
      have hw : wrap64 (a1 - 0) = a1 := by rw [Pl.wrap_in (by omega) (by omega)]; omega
      have hw0' : wrap64 0 = 0 := Pl.wrap_in (by omega) (by omega)
      have hw' : wrap64 a1 = a1 := Pl.wrap_in (by omega) (by omega)
      by_cases hz : 0 < a1
      · have b2 : decide (0 < a1) = true := decide_eq_true hz
        obtain ⟨i0, hi0, _, hsz, _⟩ := info_parts info3
        have hcut := fun (A : Option Addr) (n c : Nat) (hc : n ≤ c) => cut_to (P := Try.prog) 37 3 .i64 Try.underlying37 hi0 A n c 0 (by omega) (by omega) hc
        have HCUT := Aside0.mk hcut
        clear hcut hi0 hsz
        have H0 := Aside0.mk h0
        have H1 := Aside0.mk h1
        have HW := Aside0.mk hw'
        clear h hr0 hc0 h0 h1 hz
        go_enter Try.func79, Try.ntmps79
        go_wp2_with (first | ((with_reducible refine gate_builtin (b := .append) (xs := #[.tmp 20, .tmp 21]) rfl ?_); at_builtin; go_loud (refine Kd.R_append_zeros (Kd.int .i64) (w0 := w) w.heap.size rfl (.tmp 20) (.tmp 21) 37 3 3 (.int .i64 0) 8 rfl Try.underlying37 Try.underlying3 info3 rfl (by decide) (by omega) _ ([] : List Int) (0 : Int) (wrap64 a1) (fun _ => True) rfl rfl rfl (fun _ _ => trivial) (Kd.R_nil _ _ _ _ _) (by rw [HW.out]; exact H0.out) (Below.refl _ _) (Nat.le_refl _) ?aL ?_); (case aL => have := H1.out; have := H0.out; rw [HW.out]; simp; omega); intro v22 w22 ho hb22 hg22 hat22; go_loud (obtain ⟨A22, c22, rfl⟩ := Kd.R_slice ho; have hsl := HCUT.out A22 _ c22 (Kd.R_reads' ho).2.1); have HO := Aside0.mk ho; have HB := Aside0.mk hb22; clear ho hb22 hg22 hat22))
        go_ret
        exact ⟨_, rfl, by simpa using Kd.R_take (m := 0) HO.out (Nat.zero_le _), HB.out⟩
      · have b2 : decide (0 < a1) = false := decide_eq_false hz
        clear h hr0 hc0 h0 h1 hz
        go_enter Try.func79, Try.ntmps79
        go_wp2
        go_ret
        exact ⟨_, rfl, Kd.R_nil _ _ _ _ _, Below.refl _ _⟩
  · rw [if_neg hb] at h
    cases h
end Go.Proofs.Ytdnidldinafakaa.Pr
