/- A row of places into a given row of sentences, known by the cells of these: the kind; slices.Clone and slices.Delete over it. Condition: a length that Go can make room for. -/
import Derived.Test.YtdnidldinafakaaPr0
import Derived.Test.YtdnidldinafakaaMx17
import Derived.Test.YtdnidldinafakaaMx12
import Derived.Lib.LazyBuf
import Derived.Lib.BufferMore
namespace Go.Proofs.Ytdnidldinafakaa.Pr
open Go.RowKit Go.Proofs.Ytdnidldinafakaa Go.Proofs.YtdnidldinafakaaW.PrintWords Go.Proofs.YtdnidldinafakaaW.PrintLast Go.Proofs.YtdnidldinafakaaW.PrintMore
set_option linter.unusedVariables false
set_option linter.unusedSimpArgs false
def kI (cf : Nat → List Value) : Kd Nat where
  sz := 2
  E := []
  K := fun _ j cs => cs = cf j ∧ cs.length = 2 ∧ ∀ u ∈ cs, u.oneCell' = true
  M := fun _ _ _ j cs => cs = cf j ∧ cs.length = 2 ∧ ∀ u ∈ cs, u.oneCell' = true
  K_len := fun h => h.2.1
  K_one := fun h => h.2.2
  K_below := fun _ h => h
  K_of_M := fun h => h
  M_mono := fun _ h => h
  M_bound := fun h => h
  M_move := fun _ h => h
  M_lower := fun _ h => h
theorem kI_of {w : World} {A : Option Addr} {l : List S42} (h : k42.C w A l.length l) : ∃ cf : Nat → List Value, (∀ j, j < l.length → k42.K w (l.getD j z42) (cf j)) ∧ (kI cf).C w A (List.range l.length).length (List.range l.length) := by
  rcases Nat.eq_zero_or_pos l.length with h0 | h0
  · refine ⟨fun _ => [], fun j hj => by omega, ?_⟩
    rw [h0]
    exact ⟨rfl, by simp, fun h => by simp at h⟩
  · obtain ⟨ad, e, hc⟩ := h.2.2 h0
    have hall : ∀ j, ∃ c : List Value, j < l.length → c.length = k42.sz ∧ k42.K w (l.getD j z42) c ∧ ∀ i u, c[i]? = some u → w.cell? (ad.add (j * k42.sz + i)) = some u := fun j => by
      by_cases hj : j < l.length
      · obtain ⟨c, h1, h2, h3⟩ := hc j _ (List.getElem?_eq_getElem hj)
        refine ⟨c, fun _ => ⟨h1, ?_, h3⟩⟩
        rw [List.getD_eq_getElem?_getD, List.getElem?_eq_getElem hj]
        exact h2
      · exact ⟨[], fun h => absurd h hj⟩
    refine ⟨fun j => Classical.choose (hall j), fun j hj => (Classical.choose_spec (hall j) hj).2.1, rfl, by rw [List.length_range]; exact h.2.1, fun _ => ⟨ad, e, fun j p hj => ?_⟩⟩
    obtain ⟨hl, hp⟩ := List.getElem?_eq_some_iff.1 hj
    rw [List.getElem_range] at hp
    subst hp
    rw [List.length_range] at hl
    obtain ⟨h1, h2, h3⟩ := Classical.choose_spec (hall j) hl
    exact ⟨_, h1, ⟨rfl, h1, k42.K_one h2⟩, h3⟩
theorem C_of_kI {cf : Nat → List Value} {W : World} {A : Option Addr} {n : Nat} {js : List Nat} {l : List S42} (h : (kI cf).C W A n js) (hK : ∀ j ∈ js, k42.K W (l.getD j z42) (cf j)) : k42.C W A n (js.map fun j => l.getD j z42) := by
  refine ⟨by rw [List.length_map]; exact h.1, h.2.1, fun hn => ?_⟩
  obtain ⟨ad, e, hc⟩ := h.2.2 hn
  refine ⟨ad, e, fun j p hj => ?_⟩
  rw [List.getElem?_map] at hj
  obtain ⟨q, hq, rfl⟩ := Option.map_eq_some_iff.1 hj
  obtain ⟨c, h1, h2, h3⟩ := hc j q hq
  exact ⟨c, h1, h2.1 ▸ hK q (List.mem_of_getElem? hq), h3⟩
theorem R_room {α : Type} {d : Kd α} {e base g n cap : Nat} {ok : Nat → Prop} {W : World} {xs : List α} (h : d.R e W base ok (.slice (some ⟨g, 0, none⟩) n cap) xs) (m : Nat) (hm : m < cap * d.sz) : (W.cell? ⟨g, m, none⟩).isSome = true ∧ W.frozen? ⟨g, m, none⟩ = false := by
  obtain ⟨_, inner, ho, hr⟩ := h
  obtain ⟨ho1, ho2⟩ := ho
  rcases ho2 with ⟨hv, _⟩ | ⟨g', cap', cur, hv, hb, hh, hnc', hcm, hcs, ht⟩
  · cases hv
  injection hv with ha _ hc
  injection ha with ha
  injection ha with hg
  subst hg; subst hc
  refine ⟨?_, blk_frozen hh m⟩
  rw [blk_cell hh m, Array.getElem?_eq_getElem (by omega)]
  rfl
set_option maxHeartbeats 1000000 in
set_option maxRecDepth 100000 in
theorem cloneI (cf : Nat → List Value) (A0 : Option Addr) (c0 : Nat) (l0 : List Nat) (w : World) (hr0 : (kI cf).C w A0 l0.length l0) (hc0 : l0.length ≤ c0) (hb : l0.length * 48 ≤ 140737488355328) :
    Calls Try.prog 26 #[.slice A0 l0.length c0] w fun e w' => ∃ v0_ : Value, e = .returned (v0_) ∧ (kI cf).R 42 w' w.heap.size (fun _ => True) v0_ l0 ∧ Below w.heap.size w w' := by
  have hnil := fun (W : World) => run_eql_slice_nil (P := Try.prog) W 24 42 A0 l0.length c0 Try.underlying24
  cases A0 with
  | none =>
    have h0 : l0 = [] := by
      rcases Nat.eq_zero_or_pos l0.length with h0 | h0
      · exact List.eq_nil_of_length_eq_zero h0
      · obtain ⟨ad, e1, _⟩ := hr0.2.2 h0
        cases e1
    subst h0
    have hnil2 := fun (W : World) => Lib.run_eql_slice_nil_nil (P := Try.prog) W 0 c0 Try.underlying24
    clear hb hr0 hc0 hnil
    go_enter Try.func26, Try.ntmps26
    go_wp2
    go_ret
    exact ⟨_, rfl, Kd.R_nil _ _ _ _ _, Below.refl _ _⟩
  | some ad =>
    have HR := Aside0.mk hr0
    have HL := Aside0.mk hb
    have HB := Aside0.mk (Below.refl w.heap.size w)
    clear hr0 hb
    go_enter Try.func26, Try.ntmps26
    go_wp2_with (first | ((with_reducible refine gate_dst (N := 5) rfl ?_); refine Kd.R_lit (kI cf) _ 42 ?hg (N := 5) ?hd (xs := ([] : List Nat)) (inner := []) (ok := fun _ => True) (okp := fun _ => True) ?hr ?hp (fun _ hk => hk) trivial (Below.refl _ _) (Nat.le_refl _) (by simp) ?_; (case hd => rfl); (case hg => rfl); (case hr => first | (go_simp; done) | (go_simp; rfl)); (case hp => exact (Reps.none _ _)); intro v5 w5 ho5 hb5 hg_ hnew_; clear hg_ hnew_; have HO := Aside0.mk ho5; have HB5 := Aside0.mk hb5; clear ho5 hb5 HB) | ((with_reducible refine gate_builtin (b := .append) (xs := #[.tmp 5, .tmp 6]) rfl ?_); at_builtin; refine Kd.R_append_rows (kI cf) (w0 := w) w.heap.size rfl (.tmp 5) (.tmp 6) 24 42 (.agg #[(.slice none 0 0), (.slice none 0 0)]) 48 rfl Try.underlying24 info42 rfl (show 0 < 2 by decide) (by omega) v5 [] l0 _ _ _ (fun _ => True) (fun _ => False) rfl rfl ?aO ?aR (fun _ _ h => h) (fun _ h => h.elim) (fun _ _ => trivial) ?aB ?aS ?aL ?_; (case aR => exact Kd.C_below HR.out HB5.out); (case aB => exact HB5.out); (case aO => exact HO.out); (case aS => exact HB5.out.size); (case aL => have := HL.out; simpa using this); intro v6 w6 ho hb6 hg6 hat6; have HO6 := Aside0.mk ho; have HB6 := Aside0.mk hb6; clear ho hb6 hg6 hat6 HO HB5))
    go_ret
    exact ⟨_, rfl, by simpa using HO6.out, HB6.out⟩
set_option maxHeartbeats 4000000 in
set_option maxRecDepth 100000 in
theorem delI (cf : Nat → List Value) (u : Value) (l : List Nat) (i : Nat) (w0 w : World) (hB : Below w0.heap.size w0 w) (ho : (kI cf).R 42 w w0.heap.size (fun _ => True) u l) (hi : i < l.length) :
    Calls Try.prog 27 #[u, .int .i64 ((i : Nat) : Int), .int .i64 ((i + 1 : Nat) : Int)] w fun e w' => ∃ v, e = .returned v ∧ (kI cf).R 42 w' w0.heap.size (fun _ => True) v (l.eraseIdx i) ∧ Below w0.heap.size w0 w' ∧ Kept w w' (fun k => some k = u.ownBlock) := by
  obtain ⟨A, c, rfl⟩ := Kd.R_slice ho
  obtain ⟨_, hnc, hC⟩ := Kd.R_reads' ho
  obtain ⟨b, cap, hu, hb0, hbl, cells, hcells⟩ := Kd.R_form ho (by omega)
  obtain ⟨rfl, rfl⟩ : A = some ⟨b, 0, none⟩ ∧ c = cap := by
    injection hu with e1 e2 e3
    exact ⟨e1, e3⟩
  have HN := Aside0.mk hC.2.1
  have HNC := Aside0.mk hnc
  have HO := Aside0.mk ho
  have HB := Aside0.mk hB
  have HI := Aside0.mk hi
  have HB0 := Aside0.mk hb0
  have hij : (((i : Nat) : Int) == ((i + 1 : Nat) : Int)) = false := beq_eq_false_iff_ne.2 (by omega)
  have h1 : ((i : Nat) : Int) ≤ ((i + 1 : Nat) : Int) := by omega
  have h2 : ((i + 1 : Nat) : Int) ≤ (l.length : Int) := by omega
  have h3 : (l.length : Int) ≤ (c : Int) := by omega
  have h4 : ((i : Nat) : Int) ≤ (l.length : Int) := by omega
  have h5 : ((i : Nat) : Int) ≤ (c : Int) := by omega
  have h6 : (i : Int) ≤ (i : Int) + 1 := by omega
  have h7 : 0 ≤ (i : Int) + 1 := by omega
  have h8 : (i : Int) + 1 ≤ (l.length : Int) := by omega
  have h9 : (i : Int) + 1 ≤ (c : Int) := by omega
  clear hC hnc ho hB hi hu hb0 hbl hcells
  rcases Decidable.em (c = i + 1) with hc | hc
  · subst hc
    go_enter Try.func27, Try.ntmps27
    go_wp2
    refine Bx.start_any (n := 8) (S := fun _ => True) (ds := []) #[false, false, false, false, false, false, false, false] (by kernel_rfl) rfl rfl trivial (fun w2 hb hHeld => ?_)
    have HO2 := Aside0.mk (Kd.R_below HO.out hb)
    have HB2 := Aside0.mk (below_step HB.out hb)
    have HK2 := Aside0.mk (Kept.of_below hb (fun k => some k = some b))
    clear hb
    refine pure_ (i := 0) (N := some 20) (v := ?_) (a' := ?_) #[true, false, false, false, false, false, false, false] rfl rfl (by kernel_rfl) (fun _ _ _ h => h) (Or.inl ⟨by rfl, ?_⟩) ?_ ?_
    rotate_left
    · intro w'
      go_simp
      with_reducible rfl
    rotate_left
    · simp only [Act.put, List.setIfInBounds_toArray, List.set_cons_zero, List.set_cons_succ, i64_w, i32_w]
      rfl
    refine pure_ (i := 1) (N := some 21) (v := ?_) (a' := ?_) #[true, true, false, false, false, false, false, false] rfl rfl (by kernel_rfl) (fun _ _ _ h => h) (Or.inl ⟨by rfl, ?_⟩) ?_ ?_
    rotate_left
    · intro w'
      go_simp
      with_reducible rfl
    rotate_left
    · simp only [Act.put, List.setIfInBounds_toArray, List.set_cons_zero, List.set_cons_succ, i64_w, i32_w]
      rfl
    refine pure_ (i := 2) (N := some 22) (v := ?_) (a' := ?_) #[true, true, true, false, false, false, false, false] rfl rfl (by kernel_rfl) (fun _ _ _ h => h) (Or.inl ⟨by rfl, ?_⟩) ?_ ?_
    rotate_left
    · intro w'
      go_simp
      with_reducible rfl
    rotate_left
    · simp only [Act.put, List.setIfInBounds_toArray, List.set_cons_zero, List.set_cons_succ, i64_w, i32_w]
      rfl
    refine pure_ (i := 3) (N := some 23) (v := ?_) (a' := ?_) #[true, true, true, true, false, false, false, false] rfl rfl (by kernel_rfl) (fun _ _ _ h => h) (Or.inl ⟨by rfl, ?_⟩) ?_ ?_
    rotate_left
    · intro w'
      go_simp
      with_reducible rfl
    rotate_left
    · simp only [Act.put, List.setIfInBounds_toArray, List.set_cons_zero, List.set_cons_succ, i64_w, i32_w]
      rfl
    refine pure_ (i := 4) (N := some 24) (v := ?_) (a' := ?_) #[true, true, true, true, true, false, false, false] rfl rfl (by kernel_rfl) (fun _ _ _ h => h) (Or.inl ⟨by rfl, ?_⟩) ?_ ?_
    rotate_left
    · intro w'
      go_simp
      with_reducible rfl
    rotate_left
    · simp only [Act.put, List.setIfInBounds_toArray, List.set_cons_zero, List.set_cons_succ, i64_w, i32_w]
      rfl
    refine pure_ (i := 5) (N := some 25) (v := ?_) (a' := ?_) #[true, true, true, true, true, true, false, false] rfl rfl (by kernel_rfl) (fun _ _ _ h => h) (Or.inl ⟨by rfl, ?_⟩) ?_ ?_
    rotate_left
    · intro w'
      go_simp
      with_reducible rfl
    rotate_left
    · simp only [Act.put, List.setIfInBounds_toArray, List.set_cons_zero, List.set_cons_succ, i64_w, i32_w]
      rfl
    refine one_ (i := 6) (N := some 26) #[true, true, true, true, true, true, true, false] rfl rfl (by kernel_rfl) (by decide) (fun K hK => ?_)
    refine Kd.R_delete_step (kI cf) (w0 := w0) w0.heap.size (by rfl) (.tmp 22) (.tmp 25) 24 42 rfl Try.underlying24 (by rw [show ((Try.prog.info? 42).map (fun i => i.size)) = (((Try.prog.info? 42).map (fun i => (i.zero, i.size, i.bytes))).map (fun q => q.2.1)) from by cases Try.prog.info? 42 <;> rfl, info42]; rfl) (k := i) (n := l.length) rfl rfl (by rw [if_pos rfl]) rfl HO2.out HI.out HB2.out HB2.out.size ?_
    intro w3 hR3 hB3 hg3
    have HO3 := Aside0.mk hR3
    have HB3 := Aside0.mk hB3
    have HK3 := Aside0.mk (HK2.out.then_ (Kept.of_grown hg3 (Kept.refl _ _) (fun k hk => .inl hk.symm)) (fun k hk => .inl hk))
    clear hR3 hB3 hg3
    refine hK.out _ _ trivial (fun hHeld => ?_)
    clear hK K
    change wpAnyLast _ _ _ _ _ _ _ _ (Act.put _ (some 26) _) _
    refine norm_ (a' := ?_) ?_ ?_
    rotate_left
    · simp only [Act.put, List.setIfInBounds_toArray, List.set_cons_zero, List.set_cons_succ, i64_w, i32_w]
      rfl
    refine pure_ (i := 7) (N := some 0) (v := ?_) (a' := ?_) #[true, true, true, true, true, true, true, true] rfl rfl (by kernel_rfl) (fun _ _ _ h => h) (Or.inl ⟨by rfl, ?_⟩) ?_ ?_
    rotate_left
    · intro w'
      go_simp
      with_reducible rfl
    rotate_left
    · simp only [Act.put, List.setIfInBounds_toArray, List.set_cons_zero, List.set_cons_succ, i64_w, i32_w]
      rfl
    refine done_ (by kernel_rfl) ?_
    have HR3 := Aside0.mk (fun m => R_room HO3.out m)
    clear HK2 HB2 HO2 HB HO
    have hcl : ∀ m : Nat, m < (l.length - (l.length - 1)) * 2 → (w3.cell? ⟨b, (l.length - 1) * 2 + m, none⟩).isSome = true ∧ w3.frozen? ⟨b, (l.length - 1) * 2 + m, none⟩ = false := fun m hm => HR3.out _ (by have := HNC.out; have := HI.out; show _ < (i + 1) * 2; omega)
    obtain ⟨L, hL, hclr⟩ := Pm.run_clear (P := Try.prog) w3 24 42 0 (.agg #[.slice none 0 0, .slice none 0 0]) Try.underlying24 (fun W => by go_simp) (by simp [Value.cells, Value.oneCell']) b ((l.length - 1) * 2) (l.length - (l.length - 1)) ((i + 1) - (l.length - 1)) (by have := HI.out; omega) (fun m hm => (hcl m hm).1) (fun m hm => (hcl m hm).2)
    have HR := Aside0.mk (Pm.R_behind HO3.out (l.length - 1) (Nat.le_refl _) L (by rw [hL]; show (l.length - 1) * 2 + (l.length - (l.length - 1)) * 2 ≤ (i + 1) * 2; have := HNC.out; have := HI.out; omega))
    have k1 : ((l.length - 1 : Nat) : Int) ≤ (l.length : Int) := by omega
    have k2 : ((l.length - 1 : Nat) : Int) ≤ (((i + 1 : Nat) : Int) : Int) := by have := HNC.out; omega
    have k3 : ¬ (i + 1) = l.length - 1 := by have := HNC.out; have := HI.out; omega
    clear hcl hL
    go_wp2
    go_ret
    have e : (l.eraseIdx i).take (l.length - 1) = l.eraseIdx i := List.take_of_length_le (by rw [List.length_eraseIdx_of_lt HI.out]; exact Nat.le_refl _)
    refine ⟨_, rfl, ?_, pw_below_grown HB3.out (some b) HB3.out.size HR.out.2 (fun k hk => by injection hk with hk; rw [← hk]; exact HB0.out), HK3.out.then_ (Kept.of_grown (S := fun k => some k = some b) HR.out.2 (Kept.refl _ _) (fun k hk => .inl hk.symm)) (fun k hk => .inl hk)⟩
    have := HR.out.1
    rw [e] at this
    exact this
  · have HC := Aside0.mk hc
    go_enter Try.func27, Try.ntmps27
    go_wp2
    refine Bx.start_any (n := 8) (S := fun _ => True) (ds := []) #[false, false, false, false, false, false, false, false] (by kernel_rfl) rfl rfl trivial (fun w2 hb hHeld => ?_)
    have HO2 := Aside0.mk (Kd.R_below HO.out hb)
    have HB2 := Aside0.mk (below_step HB.out hb)
    have HK2 := Aside0.mk (Kept.of_below hb (fun k => some k = some b))
    clear hb
    refine pure_ (i := 0) (N := some 20) (v := ?_) (a' := ?_) #[true, false, false, false, false, false, false, false] rfl rfl (by kernel_rfl) (fun _ _ _ h => h) (Or.inl ⟨by rfl, ?_⟩) ?_ ?_
    rotate_left
    · intro w'
      go_simp
      with_reducible rfl
    rotate_left
    · simp only [Act.put, List.setIfInBounds_toArray, List.set_cons_zero, List.set_cons_succ, i64_w, i32_w]
      rfl
    refine pure_ (i := 1) (N := some 21) (v := ?_) (a' := ?_) #[true, true, false, false, false, false, false, false] rfl rfl (by kernel_rfl) (fun _ _ _ h => h) (Or.inl ⟨by rfl, ?_⟩) ?_ ?_
    rotate_left
    · intro w'
      go_simp
      with_reducible rfl
    rotate_left
    · simp only [Act.put, List.setIfInBounds_toArray, List.set_cons_zero, List.set_cons_succ, i64_w, i32_w]
      rfl
    refine pure_ (i := 2) (N := some 22) (v := ?_) (a' := ?_) #[true, true, true, false, false, false, false, false] rfl rfl (by kernel_rfl) (fun _ _ _ h => h) (Or.inl ⟨by rfl, ?_⟩) ?_ ?_
    rotate_left
    · intro w'
      go_simp
      with_reducible rfl
    rotate_left
    · simp only [Act.put, List.setIfInBounds_toArray, List.set_cons_zero, List.set_cons_succ, i64_w, i32_w]
      rfl
    refine pure_ (i := 3) (N := some 23) (v := ?_) (a' := ?_) #[true, true, true, true, false, false, false, false] rfl rfl (by kernel_rfl) (fun _ _ _ h => h) (Or.inl ⟨by rfl, ?_⟩) ?_ ?_
    rotate_left
    · intro w'
      go_simp
      with_reducible rfl
    rotate_left
    · simp only [Act.put, List.setIfInBounds_toArray, List.set_cons_zero, List.set_cons_succ, i64_w, i32_w]
      rfl
    refine pure_ (i := 4) (N := some 24) (v := ?_) (a' := ?_) #[true, true, true, true, true, false, false, false] rfl rfl (by kernel_rfl) (fun _ _ _ h => h) (Or.inl ⟨by rfl, ?_⟩) ?_ ?_
    rotate_left
    · intro w'
      go_simp
      with_reducible rfl
    rotate_left
    · simp only [Act.put, List.setIfInBounds_toArray, List.set_cons_zero, List.set_cons_succ, i64_w, i32_w]
      rfl
    refine pure_ (i := 5) (N := some 25) (v := ?_) (a' := ?_) #[true, true, true, true, true, true, false, false] rfl rfl (by kernel_rfl) (fun _ _ _ h => h) (Or.inl ⟨by rfl, ?_⟩) ?_ ?_
    rotate_left
    · intro w'
      go_simp
      with_reducible rfl
    rotate_left
    · simp only [Act.put, List.setIfInBounds_toArray, List.set_cons_zero, List.set_cons_succ, i64_w, i32_w]
      rfl
    refine one_ (i := 6) (N := some 26) #[true, true, true, true, true, true, true, false] rfl rfl (by kernel_rfl) (by decide) (fun K hK => ?_)
    refine Kd.R_delete_step (kI cf) (w0 := w0) w0.heap.size (by rfl) (.tmp 22) (.tmp 25) 24 42 rfl Try.underlying24 (by rw [show ((Try.prog.info? 42).map (fun i => i.size)) = (((Try.prog.info? 42).map (fun i => (i.zero, i.size, i.bytes))).map (fun q => q.2.1)) from by cases Try.prog.info? 42 <;> rfl, info42]; rfl) (k := i) (n := l.length) rfl rfl (by rw [if_neg HC.out]; simp [add_plain, kI]) rfl HO2.out HI.out HB2.out HB2.out.size ?_
    intro w3 hR3 hB3 hg3
    have HO3 := Aside0.mk hR3
    have HB3 := Aside0.mk hB3
    have HK3 := Aside0.mk (HK2.out.then_ (Kept.of_grown hg3 (Kept.refl _ _) (fun k hk => .inl hk.symm)) (fun k hk => .inl hk))
    clear hR3 hB3 hg3
    refine hK.out _ _ trivial (fun hHeld => ?_)
    clear hK K
    change wpAnyLast _ _ _ _ _ _ _ _ (Act.put _ (some 26) _) _
    refine norm_ (a' := ?_) ?_ ?_
    rotate_left
    · simp only [Act.put, List.setIfInBounds_toArray, List.set_cons_zero, List.set_cons_succ, i64_w, i32_w]
      rfl
    refine pure_ (i := 7) (N := some 0) (v := ?_) (a' := ?_) #[true, true, true, true, true, true, true, true] rfl rfl (by kernel_rfl) (fun _ _ _ h => h) (Or.inl ⟨by rfl, ?_⟩) ?_ ?_
    rotate_left
    · intro w'
      go_simp
      with_reducible rfl
    rotate_left
    · simp only [Act.put, List.setIfInBounds_toArray, List.set_cons_zero, List.set_cons_succ, i64_w, i32_w]
      rfl
    refine done_ (by kernel_rfl) ?_
    have HR3 := Aside0.mk (fun m => R_room HO3.out m)
    clear HK2 HB2 HO2 HB HO
    have hcl : ∀ m : Nat, m < (l.length - (l.length - 1)) * 2 → (w3.cell? ⟨b, (l.length - 1) * 2 + m, none⟩).isSome = true ∧ w3.frozen? ⟨b, (l.length - 1) * 2 + m, none⟩ = false := fun m hm => HR3.out _ (by have := HNC.out; have := HI.out; show _ < c * 2; omega)
    obtain ⟨L, hL, hclr⟩ := Pm.run_clear (P := Try.prog) w3 24 42 0 (.agg #[.slice none 0 0, .slice none 0 0]) Try.underlying24 (fun W => by go_simp) (by simp [Value.cells, Value.oneCell']) b ((l.length - 1) * 2) (l.length - (l.length - 1)) (c - (l.length - 1)) (by have := HI.out; omega) (fun m hm => (hcl m hm).1) (fun m hm => (hcl m hm).2)
    have HR := Aside0.mk (Pm.R_behind HO3.out (l.length - 1) (Nat.le_refl _) L (by rw [hL]; show (l.length - 1) * 2 + (l.length - (l.length - 1)) * 2 ≤ c * 2; have := HNC.out; have := HI.out; omega))
    have k1 : ((l.length - 1 : Nat) : Int) ≤ (l.length : Int) := by omega
    have k2 : ((l.length - 1 : Nat) : Int) ≤ (c : Int) := by have := HNC.out; omega
    have k3 : ¬ c = l.length - 1 := by have := HNC.out; have := HI.out; omega
    clear hcl hL
    go_wp2
    go_ret
    have e : (l.eraseIdx i).take (l.length - 1) = l.eraseIdx i := List.take_of_length_le (by rw [List.length_eraseIdx_of_lt HI.out]; exact Nat.le_refl _)
    refine ⟨_, rfl, ?_, pw_below_grown HB3.out (some b) HB3.out.size HR.out.2 (fun k hk => by injection hk with hk; rw [← hk]; exact HB0.out), HK3.out.then_ (Kept.of_grown (S := fun k => some k = some b) HR.out.2 (Kept.refl _ _) (fun k hk => .inl hk.symm)) (fun k hk => .inl hk)⟩
    have := HR.out.1
    rw [e] at this
    exact this
end Go.Proofs.Ytdnidldinafakaa.Pr
