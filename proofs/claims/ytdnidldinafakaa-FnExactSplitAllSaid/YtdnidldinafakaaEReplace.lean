/- slices.Replace at rows of numbers: one element's place taken by two others: what is written where, road by road. Condition: lengths that Go can make room for. -/

import Derived.Test.YtdnidldinafakaaPr0
import Derived.Test.YtdnidldinafakaaMx3
import Derived.Test.YtdnidldinafakaaIv
import Derived.Shelf.Spec.SlicesInsertGrow
import Derived.KernelRfl
namespace Go.Proofs.Ytdnidldinafakaa.Rp
open Go.Shelf Go.RowKit Go.Lib Go.Proofs.Ytdnidldinafakaa Go.Proofs.YtdnidldinafakaaW.PrintWords Go.Proofs.YtdnidldinafakaaW.PrintLast Go.Proofs.YtdnidldinafakaaW.PrintMore
set_option linter.unusedVariables false
set_option linter.unusedSimpArgs false
section
variable {w W : World} {b : Nat}
theorem cell_blk (h : W.heap[b]? = w.heap[b]?) (j : Nat) : W.cell? ⟨b, j, none⟩ = w.cell? ⟨b, j, none⟩ := by simp only [World.cell?, h]
theorem frozen_blk (h : W.heap[b]? = w.heap[b]?) (j : Nat) : W.frozen? ⟨b, j, none⟩ = w.frozen? ⟨b, j, none⟩ := by simp only [World.frozen?, h]
theorem shape_blk (h : W.heap[b]? = w.heap[b]?) : W.shape? b = w.shape? b := by simp only [World.shape?, h]
end
set_option maxHeartbeats 8000000 in
set_option maxRecDepth 100000 in
theorem repl_end (base b c i vb : Nat) (cs vs : List Value) (w : World) (hown : w.ownsRow base 37 1 (.slice (some ⟨b, 0, none⟩) (i + 1) c) (i + 1) cs) (hbase : base ≤ w.heap.size) (hvl : vs.length = 2)
    (hvs : ∀ j v, vs[j]? = some v → w.cell? ⟨vb, j, none⟩ = some v) (h1v : ∀ v ∈ vs, v.oneCell' = true) (hbig : (i + 2) * 24 ≤ 140737488355328) :
    Calls Try.prog 45 #[.slice (some ⟨b, 0, none⟩) (i + 1 : Nat) c, .int .i64 (i : Nat), .int .i64 ((i + 1 : Nat) : Int), .slice (some ⟨vb, 0, none⟩) 2 2] w fun e w' =>
      ∃ v', e = .returned v' ∧ w'.ownsRow base 37 1 v' (i + 2) (cs.take i ++ vs) ∧ w.grownBy w' (some b) ∧ (v'.ownBlock = some b ∨ ∃ g, v'.ownBlock = some g ∧ w.heap.size ≤ g) := by
  have hij : (((i : Nat) : Int) == ((i + 1 : Nat) : Int)) = false := beq_eq_false_iff_ne.2 (by omega)
  have hjn : (((i + 1 : Nat) : Int) == ((i + 1 : Nat) : Int)) = true := beq_self_eq_true _
  have hown' : w.ownsRow base 37 1 (.slice (some ⟨b, 0, none⟩) i c) i (cs.take i) := by
    rcases hown.2 with ⟨hv, _⟩ | ⟨g, cap, cur, hv, hb, hh, h1, h2, h3, h4⟩
    · cases hv
    · have hl := hown.1
      refine ⟨by rw [List.length_take]; omega, .inr ⟨g, cap, cur, ?_, hb, hh, by omega, h2, h3, ?_⟩⟩
      · injection hv with e1 e2 e3
        rw [e1, e3]
      · rw [← h4, List.take_take]
        congr 1
        omega
  have hc : i + 1 ≤ c ∧ c ≤ maxLen := by
    rcases hown.2 with ⟨hv, _⟩ | ⟨g, cap, cur, hv, hb, hh, h1, h2, h3, h4⟩
    · cases hv
    · injection hv with e1 e2 e3
      rw [e3]
      exact ⟨h1, h2⟩
  obtain ⟨i0, hi0, hz0, hzs, hzb⟩ := info_parts Pr.info37
  obtain ⟨v', w', hr, ho, hg, _, hat⟩ := run_append_own_at (P := Try.prog) w base 31 31 37 i0 (.slice none 0 0) 1 24 Try.underlying31 hi0 hz0 hzs hzb rfl (by decide) (.slice (some ⟨b, 0, none⟩) i c) i (cs.take i) hown' ⟨vb, 0, none⟩ 2 2 vs (by rw [hvl]) (fun j u hj => by rw [Addr.add_lit, Nat.zero_add]; exact hvs j u hj) h1v (by unfold maxLen; omega) hbig hbase
  obtain ⟨g', cap', rfl, _, hcap⟩ := ho.form (by omega)
  have HF := Aside0.mk (And.intro ho (And.intro hg hat))
  have hcm : cap' ≤ maxLen := by
    rcases ho.2 with ⟨hv, _⟩ | ⟨g, cap, cur, hv, hb, hh, h1, h2, h3, h4⟩
    · cases hv
    · injection hv with e1 e2 e3
      rw [e3]
      exact h2
  have h1 : ((i : Nat) : Int) ≤ ((i + 1 : Nat) : Int) := by omega
  have h3 : ((i + 1 : Nat) : Int) ≤ (c : Int) := by omega
  have h5 : ((i : Nat) : Int) ≤ (c : Int) := by omega
  have hx : ¬ ((i : Int) + 2 < (i : Int) + 1) := by omega
  have hx2 : ¬ (((i + 2 : Nat) : Int) < ((i + 1 : Nat) : Int)) := by omega
  have hc63 : c ≤ 9223372036854775807 := by have := hc.2; unfold maxLen at this; omega
  clear ho hg hat hown hown' hc hi0 hz0 hzs hzb hcm
  go_enter Try.func45, Try.ntmps45
  go_wp2_with (first
    | (at_builtin; refine Lib.wpList_append_run _ rfl _ _ _ _ rfl _ _ rfl rfl _ _ hr ?_))
  go_ret
  refine ⟨_, rfl, HF.out.1, HF.out.2.1, ?_⟩
  rcases HF.out.2.2 with h | h
  · exact .inl h
  · exact .inr ⟨_, h, Nat.le_refl _⟩
set_option maxHeartbeats 8000000 in
set_option maxRecDepth 100000 in
theorem repl_room (b n c i vb : Nat) (cs vs : List Value) (w : World) (hi : i + 1 < n) (hroom : n + 1 ≤ c) (hc63 : c ≤ 9223372036854775807) (hvb : vb ≠ b) (hbw : b < w.heap.size) (hvw : vb < w.heap.size)
    (hcl : cs.length = n) (hvl : vs.length = 2)
    (hcs : ∀ j v, cs[j]? = some v → w.cell? ⟨b, j, none⟩ = some v) (hvs : ∀ j v, vs[j]? = some v → w.cell? ⟨vb, j, none⟩ = some v) (h1c : ∀ v ∈ cs, v.oneCell' = true) (h1v : ∀ v ∈ vs, v.oneCell' = true)
    (hsp : ∀ j, j < n + 1 → (w.cell? ⟨b, j, none⟩).isSome = true) (hfz : ∀ j, w.frozen? ⟨b, j, none⟩ = false)
    (tA tB : TypeId) (kA kB : Nat) (hsa : w.shape? b = some (tA, kA)) (hsb : w.shape? vb = some (tB, kB)) (hkB : kB ≠ 0) :
    Calls Try.prog 45 #[.slice (some ⟨b, 0, none⟩) n c, .int .i64 (i : Nat), .int .i64 ((i + 1 : Nat) : Int), .slice (some ⟨vb, 0, none⟩) 2 2] w fun e w' =>
      e = .returned (.slice (some ⟨b, 0, none⟩) (n + 1) c) ∧ ∃ W : World, Below w.heap.size w W ∧ w' = (W.setCells b (i + 2) (cs.drop (i + 1))).setCells b i vs := by
  have hij : (((i : Nat) : Int) == ((i + 1 : Nat) : Int)) = false := beq_eq_false_iff_ne.2 (by omega)
  have hjn : (((i + 1 : Nat) : Int) == ((n : Nat) : Int)) = false := beq_eq_false_iff_ne.2 (by omega)
  have h1 : ((i : Nat) : Int) ≤ ((i + 1 : Nat) : Int) := by omega
  have h2 : ((i + 1 : Nat) : Int) ≤ (n : Int) := by omega
  have h3 : (n : Int) ≤ (c : Int) := by omega
  have h4 : ((i : Nat) : Int) ≤ (n : Int) := by omega
  have h5 : ((i : Nat) : Int) ≤ (c : Int) := by omega
  have h6 : ((i + 1 : Nat) : Int) ≤ (c : Int) := by omega
  have hw1 : IntKind.i64.wrap ((i : Int) + 2) = ((i + 2 : Nat) : Int) := by rw [IntKind.wrap_i64]; omega
  have ht : (i : Int) + 2 + ((n - (i + 1) : Nat) : Int) = ((n + 1 : Nat) : Int) := by omega
  have hsz : (Try.prog.info? 37).map (·.size) = some 1 := by kernel_rfl
  have HT := Aside0.mk ht
  have HCS := Aside0.mk hcs
  have HSP := Aside0.mk hsp
  have HFZ := Aside0.mk hfz
  have HVS := Aside0.mk hvs
  have HSH := Aside0.mk (And.intro hsa hsb)
  have H1C := Aside0.mk h1c
  have H1V := Aside0.mk h1v
  clear hsa hsb hfz hsp hcs hvs h1c h1v ht
  go_enter Try.func45, Try.ntmps45
  go_wp2
  go_quiet (fail)
  have HB := Aside0.mk (pw_below_drewN (Below.refl w.heap.size w) nq)
  rw [HT.out]
  generalize w.drewN nq = W at HB ⊢
  have k1 : ((n + 1 : Nat) : Int) ≤ (c : Int) := by omega
  have k2 : ¬ ((i + 2 : Nat) : Int) ≤ ((i + 1 : Nat) : Int) := by omega
  have k3 : ((i + 2 : Nat) : Int) ≤ ((n + 1 : Nat) : Int) := by omega
  have k4 : ¬ c = i + 2 := by omega
  have k5 : ¬ c = i + 1 := by omega
  have k6 : ¬ c = i := by omega
  have k7 : ((i : Nat) : Int) ≤ ((n + 1 : Nat) : Int) := by omega
  have hov : ∀ la ca, (callFunc 66 #[.slice (some ⟨b, i + 2, none⟩) la ca, .slice (some ⟨vb, 0, none⟩) 2 2]).run Try.prog W = .ok (.value (.bool false)) W := fun la ca => by
    rw [run_callFunc_extern Try.func66 (by kernel_rfl) (by kernel_rfl) (by kernel_rfl) (e := Extern.SlicesOverlaps.overlaps #[31, 31] #[4]) (by kernel_rfl),
      Lib.run_overlaps_apart W 31 4 37 Try.underlying31 1 (fun w => by go_simp) ⟨b, i + 2, none⟩ ⟨vb, 0, none⟩ la ca 2 2 (fun h => hvb h.symm) tA tB kA kB (by rw [shape_blk (HB.out.block b hbw)]; exact HSH.out.1) (by rw [shape_blk (HB.out.block vb hvw)]; exact HSH.out.2) hkB (by rw [frozen_blk (HB.out.block b hbw)]; exact HFZ.out _) (by rw [frozen_blk (HB.out.block b hbw)]; exact HFZ.out _)]
    rfl
  have hdl : (cs.drop (i + 1)).length = n - (i + 1) := by rw [List.length_drop, hcl]
  have hcp1 : ∀ (W' : World), Below w.heap.size w W' → ∀ ty dc sc, (Builtin.copy_ #[31, 31] ty #[.slice (some ⟨b, i + 2, none⟩) (n - (i + 1)) dc, .slice (some ⟨b, i + 1, none⟩) (n - (i + 1)) sc]).run Try.prog W' = .ok (goInt (cs.drop (i + 1)).length) (W'.setCells b (i + 2) (cs.drop (i + 1))) := fun W' hW ty dc sc =>
    run_copy_cells W' _ _ ty 37 b (i + 2) (n - (i + 1)) dc ⟨b, i + 1, none⟩ (n - (i + 1)) sc (cs.drop (i + 1)) Try.underlying31 hsz (by rw [hdl]; simp only [Nat.min_def]; split <;> omega)
      (fun j v hj => by rw [Addr.add_lit, cell_blk (hW.block b hbw)]; exact HCS.out (i + 1 + j) v (by rwa [List.getElem?_drop] at hj))
      (fun j hj => by rw [cell_blk (hW.block b hbw)]; exact HSP.out _ (by omega)) (fun j hj => by rw [frozen_blk (hW.block b hbw)]; exact HFZ.out _) (fun v hv => H1C.out v (List.mem_of_mem_drop hv))
  have hcp2 : ∀ (W' : World), Below w.heap.size w W' → ∀ ty dc, (Builtin.copy_ #[31, 31] ty #[.slice (some ⟨b, i, none⟩) (n + 1 - i) dc, .slice (some ⟨vb, 0, none⟩) 2 2]).run Try.prog (W'.setCells b (i + 2) (cs.drop (i + 1))) = .ok (goInt vs.length) ((W'.setCells b (i + 2) (cs.drop (i + 1))).setCells b i vs) := fun W' hW ty dc =>
    run_copy_cells _ _ _ ty 37 b i (n + 1 - i) dc ⟨vb, 0, none⟩ 2 2 vs Try.underlying31 hsz (by rw [hvl]; simp only [Nat.min_def]; split <;> omega)
      (fun j v hj => by
        rw [Addr.add_lit, World.cell?_setCells_out b _ _ _ _ (fun h _ => absurd h hvb), cell_blk (hW.block vb hvw), Nat.zero_add]
        exact HVS.out j v hj)
      (fun j hj => isSome_setCells b _ _ _ (fun t ht => by rw [cell_blk (hW.block b hbw)]; exact HSP.out _ (by omega)) _ (by rw [cell_blk (hW.block b hbw)]; exact HSP.out _ (by omega))) (fun j hj => by rw [World.frozen?_setCells, frozen_blk (hW.block b hbw)]; exact HFZ.out _) H1V.out
  have g1 : 0 ≤ (i : Int) + 2 := by omega
  have g2 : (i : Int) + 2 ≤ (n : Int) + 1 := by omega
  have g3 : ((i : Int) + 2).toNat = i + 2 := by omega
  have g4 : 0 ≤ (i : Int) + 1 := by omega
  have g5 : ((i : Int) + 1).toNat = i + 1 := by omega
  have g6 : (i : Int) + 1 ≤ (n : Int) := by omega
  have g7 : (i : Int) ≤ (n : Int) + 1 := by omega
  go_wp2_with (simp only [hov])
  refine Bx.start_any (n := 10) (S := fun _ => True) (ds := []) #[false, false, false, false, false, false, false, false, false, false] (by kernel_rfl) rfl rfl trivial (fun w2 hb hHeld => ?_)
  replace HB := Aside0.mk (below_step HB.out hb)
  clear hb
  refine pure_ (i := 0) (N := some 121) (v := ?_) (a' := ?_) #[true, false, false, false, false, false, false, false, false, false] rfl rfl (by kernel_rfl) (fun _ _ _ h => h) (Or.inl ⟨by rfl, ?_⟩) ?_ ?_
  rotate_left
  · intro w'
    go_simp
    with_reducible rfl
  rotate_left
  · simp only [Act.put, List.setIfInBounds_toArray, List.set_cons_zero, List.set_cons_succ, i64_w, i32_w]
    rfl
  refine pure_ (i := 1) (N := some 122) (v := ?_) (a' := ?_) #[true, true, false, false, false, false, false, false, false, false] rfl rfl (by kernel_rfl) (fun _ _ _ h => h) (Or.inl ⟨by rfl, ?_⟩) ?_ ?_
  rotate_left
  · intro w'
    go_simp
    with_reducible rfl
  rotate_left
  · simp only [Act.put, List.setIfInBounds_toArray, List.set_cons_zero, List.set_cons_succ, i64_w, i32_w]
    rfl
  refine pure_ (i := 2) (N := some 123) (v := ?_) (a' := ?_) #[true, true, true, false, false, false, false, false, false, false] rfl rfl (by kernel_rfl) (fun _ _ _ h => h) (Or.inl ⟨by rfl, ?_⟩) ?_ ?_
  rotate_left
  · intro w'
    go_simp
    with_reducible rfl
  rotate_left
  · simp only [Act.put, List.setIfInBounds_toArray, List.set_cons_zero, List.set_cons_succ, i64_w, i32_w]
    rfl
  refine pure_ (i := 3) (N := some 124) (v := ?_) (a' := ?_) #[true, true, true, true, false, false, false, false, false, false] rfl rfl (by kernel_rfl) (fun _ _ _ h => h) (Or.inl ⟨by rfl, ?_⟩) ?_ ?_
  rotate_left
  · intro w'
    go_simp
    with_reducible rfl
  rotate_left
  · simp only [Act.put, List.setIfInBounds_toArray, List.set_cons_zero, List.set_cons_succ, i64_w, i32_w]
    rfl
  refine pure_ (i := 4) (N := some 125) (v := ?_) (a' := ?_) #[true, true, true, true, true, false, false, false, false, false] rfl rfl (by kernel_rfl) (fun _ _ _ h => h) (Or.inl ⟨by rfl, ?_⟩) ?_ ?_
  rotate_left
  · intro w'
    go_simp
    with_reducible rfl
  rotate_left
  · simp only [Act.put, List.setIfInBounds_toArray, List.set_cons_zero, List.set_cons_succ, i64_w, i32_w]
    rfl
  refine pure_ (i := 5) (N := some 126) (v := ?_) (a' := ?_) #[true, true, true, true, true, true, false, false, false, false] rfl rfl (by kernel_rfl) (fun _ _ _ h => h) (Or.inl ⟨by rfl, ?_⟩) ?_ ?_
  rotate_left
  · intro w'
    go_simp
    with_reducible rfl
  rotate_left
  · simp only [Act.put, List.setIfInBounds_toArray, List.set_cons_zero, List.set_cons_succ, i64_w, i32_w]
    rfl
  refine pure_ (i := 6) (N := some 127) (v := ?_) (a' := ?_) #[true, true, true, true, true, true, true, false, false, false] rfl rfl (by kernel_rfl) (fun _ _ _ h => h) (Or.inl ⟨by rfl, ?_⟩) ?_ ?_
  rotate_left
  · intro w'
    go_simp
    with_reducible rfl
  rotate_left
  · simp only [Act.put, List.setIfInBounds_toArray, List.set_cons_zero, List.set_cons_succ, i64_w, i32_w]
    rfl
  refine pure_ (i := 7) (N := some 128) (v := ?_) (a' := ?_) #[true, true, true, true, true, true, true, true, false, false] rfl rfl (by kernel_rfl) (fun _ _ _ h => h) (Or.inl ⟨by rfl, ?_⟩) ?_ ?_
  rotate_left
  · intro w'
    go_simp
    with_reducible rfl
  rotate_left
  · simp only [Act.put, List.setIfInBounds_toArray, List.set_cons_zero, List.set_cons_succ, i64_w, i32_w]
    rfl
  refine pure_ (i := 8) (N := some 129) (v := ?_) (a' := ?_) #[true, true, true, true, true, true, true, true, true, false] rfl rfl (by kernel_rfl) (fun _ _ _ h => h) (Or.inl ⟨by rfl, ?_⟩) ?_ ?_
  rotate_left
  · intro w'
    go_simp
    with_reducible rfl
  rotate_left
  · simp only [Act.put, List.setIfInBounds_toArray, List.set_cons_zero, List.set_cons_succ, i64_w, i32_w]
    rfl
  refine one_ (i := 9) (N := some 130) #[true, true, true, true, true, true, true, true, true, true] rfl rfl (by kernel_rfl) (by decide) (fun K hK => ?_)
  refine step_copy_runI rfl _ _ 31 31 rfl (.slice (some ⟨b, i + 2, none⟩) (n - (i + 1)) (c - (i + 2))) (.slice (some ⟨b, i + 1, none⟩) (n - (i + 1)) (c - (i + 1))) rfl rfl (hcp1 w2 HB.out _ _ _) ?_
  refine hK.out _ _ trivial (fun hHeld => ?_)
  clear hK K
  refine norm_ (a' := ?_) ?_ ?_
  rotate_left
  · simp only [Act.put, List.setIfInBounds_toArray, List.set_cons_zero, List.set_cons_succ, i64_w, i32_w]
    rfl
  refine done_ (by kernel_rfl) ?_
  have hcp3 := fun ty dc => hcp2 w2 HB.out ty dc
  go_wp2_with (simp only [hcp3])
  go_ret
  exact ⟨rfl, _, HB.out, rfl⟩
set_option maxHeartbeats 8000000 in
set_option maxRecDepth 100000 in
theorem repl_grow (b n c i vb : Nat) (cs vs : List Value) (w : World) (hi : i + 1 < n) (hnc : n ≤ c) (hroom : c < n + 1) (hc63 : c ≤ 9223372036854775807) (hvb : vb ≠ b) (hbw : b < w.heap.size) (hvw : vb < w.heap.size)
    (hcl : cs.length = n) (hvl : vs.length = 2)
    (hcs : ∀ j v, cs[j]? = some v → w.cell? ⟨b, j, none⟩ = some v) (hvs : ∀ j v, vs[j]? = some v → w.cell? ⟨vb, j, none⟩ = some v) (h1c : ∀ v ∈ cs, v.oneCell' = true) (h1v : ∀ v ∈ vs, v.oneCell' = true) (hbig : (n + 1) * 24 ≤ 140737488355328) :
    Calls Try.prog 45 #[.slice (some ⟨b, 0, none⟩) n c, .int .i64 (i : Nat), .int .i64 ((i + 1 : Nat) : Int), .slice (some ⟨vb, 0, none⟩) 2 2] w fun e w' =>
      ∃ (W W3 : World) (cap : Nat) (row : Array Value), e = .returned (.slice (some ⟨W.heap.size, 0, none⟩) (n + 1) cap) ∧ Below w.heap.size w W ∧ n + 1 ≤ cap ∧ cap ≤ maxLen ∧ row.size = cap ∧ row.toList.take i = cs.take i ∧
        Below (W.heap.size + 1) ((W.drew.alloc (.cells row 37)).setCells W.heap.size i vs) W3 ∧ w' = W3.setCells W.heap.size (i + 2) (cs.drop (i + 1)) := by
  have hij : (((i : Nat) : Int) == ((i + 1 : Nat) : Int)) = false := beq_eq_false_iff_ne.2 (by omega)
  have hjn : (((i + 1 : Nat) : Int) == ((n : Nat) : Int)) = false := beq_eq_false_iff_ne.2 (by omega)
  have h1 : ((i : Nat) : Int) ≤ ((i + 1 : Nat) : Int) := by omega
  have h2 : ((i + 1 : Nat) : Int) ≤ (n : Int) := by omega
  have h3 : (n : Int) ≤ (c : Int) := by omega
  have h4 : ((i : Nat) : Int) ≤ (n : Int) := by omega
  have h5 : ((i : Nat) : Int) ≤ (c : Int) := by omega
  have h6 : ((i + 1 : Nat) : Int) ≤ (c : Int) := by omega
  have hw1 : IntKind.i64.wrap ((i : Int) + 2) = ((i + 2 : Nat) : Int) := by rw [IntKind.wrap_i64]; omega
  have ht : (i : Int) + 2 + ((n - (i + 1) : Nat) : Int) = ((n + 1 : Nat) : Int) := by omega
  have hsz : (Try.prog.info? 37).map (·.size) = some 1 := by kernel_rfl
  have HT := Aside0.mk ht
  have HCS := Aside0.mk hcs
  have HVS := Aside0.mk hvs
  have H1C := Aside0.mk h1c
  have H1V := Aside0.mk h1v
  obtain ⟨i0, hi0, hz0, hzs, hzb⟩ := info_parts Pr.info37
  have hik : i + (n + 1 - i) = n + 1 := by omega
  clear hcs hvs h1c h1v ht
  go_enter Try.func45, Try.ntmps45
  go_wp2
  go_quiet (fail)
  have HB := Aside0.mk (pw_below_drewN (Below.refl w.heap.size w) nq)
  rw [HT.out]
  generalize w.drewN nq = W at HB ⊢
  have k1 : ¬ ((n + 1 : Nat) : Int) ≤ (c : Int) := by omega
  have k1' : (c : Int) < ((n + 1 : Nat) : Int) := by omega
  have hkk : (n : Int) + 1 - (i : Int) = ((n + 1 - i : Nat) : Int) := by omega
  have hold : (Builtin.firstCells i0.size i (.slice (some ⟨b, 0, none⟩) i c)).run Try.prog W.drew = .ok (cs.take i).toArray W.drew := by
    rw [hzs]
    exact run_firstCells_some W.drew 1 i ⟨b, 0, none⟩ i c (cs.take i) (by rw [List.length_take]; omega) (fun j v hj => by
      rw [Addr.add_lit, Nat.zero_add]
      rw [List.getElem?_take] at hj
      split at hj
      · show W.cell? _ = _
        rw [cell_blk (HB.out.block b hbw)]; exact HCS.out j v hj
      · cases hj)
  have hrz : ∀ ty, (Builtin.append_ #[31, 3] ty #[.slice (some ⟨b, 0, none⟩) i c, .int .i64 ((n : Int) + 1 - (i : Int))]).run Try.prog W =
      .ok (.slice (some ⟨W.heap.size, 0, none⟩) (n + 1) (grownCap W (n + 1) c 37)) (W.drew.alloc (.cells ((cs.take i).toArray ++ Builtin.zeroCells (Value.slice none 0 0).cells (n + 1 - i) ++ Builtin.zeroCells (Value.slice none 0 0).cells (grownCap W (n + 1) c 37 - (n + 1))) 37)) := fun ty => by
    have h := Lib.run_append_grow_zeros W 31 3 ty 37 i0 _ .i64 .i64 Try.underlying31 Try.underlying3 hi0 hz0 (some ⟨b, 0, none⟩) i c (cs.take i) hold (n + 1 - i) (by omega) (by omega) (by omega) (by omega) (by rw [hzb]; omega) (by rw [hzb, hik]; exact growslice_fits hroom hbig)
    rw [hik] at h
    rw [hkk]
    exact h
  have hGn : n + 1 ≤ grownCap W (n + 1) c 37 := grownCap_ge W _ _ _
  have hGm : grownCap W (n + 1) c 37 ≤ maxLen := grownCap_le_maxLen W (n + 1) c 37 (by unfold maxLen; omega)
  generalize hG : grownCap W (n + 1) c 37 = G at hrz hGn hGm
  obtain ⟨ROW, hROW⟩ : ∃ ROW : Array Value, ROW = (cs.take i).toArray ++ Builtin.zeroCells (Value.slice none 0 0).cells (n + 1 - i) ++ Builtin.zeroCells (Value.slice none 0 0).cells (G - (n + 1)) := ⟨_, rfl⟩
  rw [← hROW] at hrz
  have hRs : ROW.size = G := by
    rw [hROW]
    have hmi : min i n = i := by omega
    simp [Builtin.zeroCells, Value.cells, hcl, hmi]
    omega
  have hRt : ROW.toList.take i = cs.take i := by
    rw [hROW]
    simp only [Array.toList_append, List.append_assoc]
    exact List.take_left' (by rw [List.length_take]; omega)
  have hG63 : G ≤ 9223372036854775807 := by unfold maxLen at hGm; omega
  clear hold hROW hG hkk
  have hbW : b < W.heap.size := Nat.lt_of_lt_of_le hbw HB.out.size
  have hvW : vb < W.heap.size := Nat.lt_of_lt_of_le hvw HB.out.size
  obtain ⟨W1, hW1⟩ : ∃ W1, W1 = W.drew.alloc (.cells ROW 37) := ⟨_, rfl⟩
  rw [← hW1] at hrz
  have hN : ∀ j, j < n + 1 → (W1.cell? ⟨W.heap.size, j, none⟩).isSome = true := fun j hj => by
    rw [hW1, World.cell?_alloc_at (w := W.drew) ROW _ W.heap.size j rfl, Array.getElem?_eq_getElem (by omega)]; rfl
  have hNf : ∀ j, W1.frozen? ⟨W.heap.size, j, none⟩ = false := fun j => by rw [hW1]; exact World.frozen?_alloc_at (w := W.drew) ROW _ W.heap.size j rfl
  have hWs : W1.heap.size = W.heap.size + 1 := by rw [hW1]; simp [World.alloc]
  have hOb : ∀ b', b' < W.heap.size → W1.heap[b']? = W.heap[b']? := fun b' hb' => by
    rw [hW1]; exact (below_alloc (Below.refl W.drew.heap.size W.drew) _).block b' hb'
  have hOc : ∀ b' j, b' < w.heap.size → W1.cell? ⟨b', j, none⟩ = w.cell? ⟨b', j, none⟩ := fun b' j hb' => by
    rw [cell_blk (hOb b' (Nat.lt_of_lt_of_le hb' HB.out.size)), cell_blk (HB.out.block b' hb')]
  have hcpA : ∀ ty dc, (Builtin.copy_ #[31, 31] ty #[.slice (some ⟨W.heap.size, i, none⟩) (n + 1 - i) dc, .slice (some ⟨vb, 0, none⟩) 2 2]).run Try.prog W1 = .ok (goInt vs.length) (W1.setCells W.heap.size i vs) := fun ty dc =>
    run_copy_cells W1 _ _ ty 37 W.heap.size i (n + 1 - i) dc ⟨vb, 0, none⟩ 2 2 vs Try.underlying31 hsz (by rw [hvl]; simp only [Nat.min_def]; split <;> omega)
      (fun j v hj => by rw [Addr.add_lit, Nat.zero_add, hOc vb _ hvw]; exact HVS.out _ _ hj)
      (fun j hj => hN _ (by omega)) (fun j hj => hNf _) H1V.out
  have hGi : ¬ (G = i) := by omega
  have hGim : ¬ (G = i + 2) := by omega
  have hGim1 : ¬ (G = i + 1) := by omega
  have hci : ¬ (c = i) := by omega
  have hci1 : ¬ (c = i + 1) := by omega
  have hbN : b ≠ W.heap.size := by omega
  have g1 : 0 ≤ (i : Int) + 2 := by omega
  have g2 : (i : Int) + 2 ≤ (n : Int) + 1 := by omega
  have g3 : ((i : Int) + 2).toNat = i + 2 := by omega
  have g4 : 0 ≤ (i : Int) + 1 := by omega
  have g5 : ((i : Int) + 1).toNat = i + 1 := by omega
  have g6 : (i : Int) + 1 ≤ (n : Int) := by omega
  have g7 : (i : Int) ≤ (n : Int) + 1 := by omega
  have hdl : (cs.drop (i + 1)).length = n - (i + 1) := by rw [List.length_drop, hcl]
  have hcpB : ∀ W2 : World, Below (W.heap.size + 1) (W1.setCells W.heap.size i vs) W2 → ∀ ty dc sc, (Builtin.copy_ #[31, 31] ty #[.slice (some ⟨W.heap.size, i + 2, none⟩) (n - (i + 1)) dc, .slice (some ⟨b, i + 1, none⟩) (n - (i + 1)) sc]).run Try.prog W2 = .ok (goInt (cs.drop (i + 1)).length) (W2.setCells W.heap.size (i + 2) (cs.drop (i + 1))) := fun W2 h2 ty dc sc =>
    run_copy_cells W2 _ _ ty 37 W.heap.size (i + 2) (n - (i + 1)) dc ⟨b, i + 1, none⟩ (n - (i + 1)) sc (cs.drop (i + 1)) Try.underlying31 hsz (by rw [hdl]; simp only [Nat.min_def]; split <;> omega)
      (fun j v hj => by
        rw [Addr.add_lit, cell_blk (h2.block b (by omega)), World.cell?_setCells_out _ _ _ _ _ (fun h _ => absurd h hbN), hOc b _ hbw]
        exact HCS.out _ v (by rwa [List.getElem?_drop] at hj))
      (fun j hj => by rw [cell_blk (h2.block _ (by omega))]; exact isSome_setCells _ _ _ _ (fun t ht => hN _ (by omega)) _ (hN _ (by omega)))
      (fun j hj => by rw [frozen_blk (h2.block _ (by omega)), World.frozen?_setCells]; exact hNf _) (fun v hv => H1C.out v (List.mem_of_mem_drop hv))
  have HW1 := Aside0.mk hW1
  have HX := Aside0.mk (show (W1.setCells W.heap.size i vs).heap.size = W.heap.size + 1 by rw [(setCells_same _ _ _ _).2.2.2, hWs])
  clear hN hNf hOb hOc hW1 hWs
  go_wp2_with (first
    | (at_builtin; refine Lib.wpList_append_run _ rfl _ _ _ _ rfl _ _ rfl rfl _ _ (hrz _) ?_)
    | (at_builtin; refine wpList_copy_runI _ rfl _ _ 31 31 rfl _ _ rfl rfl (hcpA _ _) ?_))
  have HB2 := Aside0.mk (Below.refl (W1.setCells W.heap.size i vs).heap.size (W1.setCells W.heap.size i vs))
  refine Bx.start_any (n := 10) (S := fun _ => True) (ds := []) #[false, false, false, false, false, false, false, false, false, false] (by kernel_rfl) rfl rfl trivial (fun w2 hb hHeld => ?_)
  replace HB2 := Aside0.mk (below_step HB2.out hb)
  clear hb
  refine pure_ (i := 0) (N := some 73) (v := ?_) (a' := ?_) #[true, false, false, false, false, false, false, false, false, false] rfl rfl (by kernel_rfl) (fun _ _ _ h => h) (Or.inl ⟨by rfl, ?_⟩) ?_ ?_
  rotate_left
  · intro w'
    go_simp
    with_reducible rfl
  rotate_left
  · simp only [Act.put, List.setIfInBounds_toArray, List.set_cons_zero, List.set_cons_succ, i64_w, i32_w]
    rfl
  refine pure_ (i := 1) (N := some 74) (v := ?_) (a' := ?_) #[true, true, false, false, false, false, false, false, false, false] rfl rfl (by kernel_rfl) (fun _ _ _ h => h) (Or.inl ⟨by rfl, ?_⟩) ?_ ?_
  rotate_left
  · intro w'
    go_simp
    with_reducible rfl
  rotate_left
  · simp only [Act.put, List.setIfInBounds_toArray, List.set_cons_zero, List.set_cons_succ, i64_w, i32_w]
    rfl
  refine pure_ (i := 2) (N := some 75) (v := ?_) (a' := ?_) #[true, true, true, false, false, false, false, false, false, false] rfl rfl (by kernel_rfl) (fun _ _ _ h => h) (Or.inl ⟨by rfl, ?_⟩) ?_ ?_
  rotate_left
  · intro w'
    go_simp
    with_reducible rfl
  rotate_left
  · simp only [Act.put, List.setIfInBounds_toArray, List.set_cons_zero, List.set_cons_succ, i64_w, i32_w]
    rfl
  refine pure_ (i := 3) (N := some 76) (v := ?_) (a' := ?_) #[true, true, true, true, false, false, false, false, false, false] rfl rfl (by kernel_rfl) (fun _ _ _ h => h) (Or.inl ⟨by rfl, ?_⟩) ?_ ?_
  rotate_left
  · intro w'
    go_simp
    with_reducible rfl
  rotate_left
  · simp only [Act.put, List.setIfInBounds_toArray, List.set_cons_zero, List.set_cons_succ, i64_w, i32_w]
    rfl
  refine pure_ (i := 4) (N := some 77) (v := ?_) (a' := ?_) #[true, true, true, true, true, false, false, false, false, false] rfl rfl (by kernel_rfl) (fun _ _ _ h => h) (Or.inl ⟨by rfl, ?_⟩) ?_ ?_
  rotate_left
  · intro w'
    go_simp
    with_reducible rfl
  rotate_left
  · simp only [Act.put, List.setIfInBounds_toArray, List.set_cons_zero, List.set_cons_succ, i64_w, i32_w]
    rfl
  refine pure_ (i := 5) (N := some 78) (v := ?_) (a' := ?_) #[true, true, true, true, true, true, false, false, false, false] rfl rfl (by kernel_rfl) (fun _ _ _ h => h) (Or.inl ⟨by rfl, ?_⟩) ?_ ?_
  rotate_left
  · intro w'
    go_simp
    with_reducible rfl
  rotate_left
  · simp only [Act.put, List.setIfInBounds_toArray, List.set_cons_zero, List.set_cons_succ, i64_w, i32_w]
    rfl
  refine pure_ (i := 6) (N := some 79) (v := ?_) (a' := ?_) #[true, true, true, true, true, true, true, false, false, false] rfl rfl (by kernel_rfl) (fun _ _ _ h => h) (Or.inl ⟨by rfl, ?_⟩) ?_ ?_
  rotate_left
  · intro w'
    go_simp
    with_reducible rfl
  rotate_left
  · simp only [Act.put, List.setIfInBounds_toArray, List.set_cons_zero, List.set_cons_succ, i64_w, i32_w]
    rfl
  refine pure_ (i := 7) (N := some 80) (v := ?_) (a' := ?_) #[true, true, true, true, true, true, true, true, false, false] rfl rfl (by kernel_rfl) (fun _ _ _ h => h) (Or.inl ⟨by rfl, ?_⟩) ?_ ?_
  rotate_left
  · intro w'
    go_simp
    with_reducible rfl
  rotate_left
  · simp only [Act.put, List.setIfInBounds_toArray, List.set_cons_zero, List.set_cons_succ, i64_w, i32_w]
    rfl
  refine pure_ (i := 8) (N := some 81) (v := ?_) (a' := ?_) #[true, true, true, true, true, true, true, true, true, false] rfl rfl (by kernel_rfl) (fun _ _ _ h => h) (Or.inl ⟨by rfl, ?_⟩) ?_ ?_
  rotate_left
  · intro w'
    go_simp
    with_reducible rfl
  rotate_left
  · simp only [Act.put, List.setIfInBounds_toArray, List.set_cons_zero, List.set_cons_succ, i64_w, i32_w]
    rfl
  refine one_ (i := 9) (N := some 82) #[true, true, true, true, true, true, true, true, true, true] rfl rfl (by kernel_rfl) (by decide) (fun K hK => ?_)
  refine step_copy_runI rfl _ _ 31 31 rfl (.slice (some ⟨W.heap.size, i + 2, none⟩) (n - (i + 1)) (G - (i + 2))) (.slice (some ⟨b, i + 1, none⟩) (n - (i + 1)) (c - (i + 1))) rfl rfl (hcpB w2 (by have h := HB2.out; rwa [HX.out] at h) _ _ _) ?_
  refine hK.out _ _ trivial (fun hHeld => ?_)
  clear hK K
  refine norm_ (a' := ?_) ?_ ?_
  rotate_left
  · simp only [Act.put, List.setIfInBounds_toArray, List.set_cons_zero, List.set_cons_succ, i64_w, i32_w]
    rfl
  refine done_ (by kernel_rfl) ?_
  go_wp2
  go_ret
  have hW1 := HW1.out
  subst hW1
  exact ⟨W, _, G, ROW, rfl, HB.out, hGn, hGm, hRs, hRt, (by have h := HB2.out; rwa [HX.out] at h), rfl⟩
end Go.Proofs.Ytdnidldinafakaa.Rp
