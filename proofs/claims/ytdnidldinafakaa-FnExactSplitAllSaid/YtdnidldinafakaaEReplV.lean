/- slices.Replace at rows of numbers, one element's place taken by two others: contract over a row of the call's own. Condition: a length that Go can make room for. -/

import Derived.Test.YtdnidldinafakaaEReplace
namespace Go.Proofs.Ytdnidldinafakaa.Rp
open Go.RowKit Go.Proofs.Ytdnidldinafakaa Go.Proofs.YtdnidldinafakaaW.PrintWords Go.Proofs.YtdnidldinafakaaW.PrintLast Go.Proofs.YtdnidldinafakaaW.PrintMore
set_option linter.unusedVariables false
set_option linter.unusedSimpArgs false
theorem put_room {α : Type} {cur cs vs : List α} {n i : Nat} (h : cur.take n = cs) (hi : i + 1 < n) (hn : n + 1 ≤ cur.length) (hv : vs.length = 2) :
    ((cur.take (i + 2) ++ cs.drop (i + 1) ++ cur.drop (i + 2 + (cs.drop (i + 1)).length)).take i ++ vs ++ (cur.take (i + 2) ++ cs.drop (i + 1) ++ cur.drop (i + 2 + (cs.drop (i + 1)).length)).drop (i + vs.length)).take (n + 1) = cs.take i ++ (vs ++ cs.drop (i + 1)) := by
  have hcl : cs.length = n := by rw [← h, List.length_take]; omega
  have e1 : (cur.take (i + 2) ++ cs.drop (i + 1) ++ cur.drop (i + 2 + (cs.drop (i + 1)).length)).take i = cs.take i := by
    rw [List.append_assoc, List.take_append_of_le_length (by rw [List.length_take]; omega), List.take_take, ← h, List.take_take]
    congr 1
    omega
  have e2 : (cur.take (i + 2) ++ cs.drop (i + 1) ++ cur.drop (i + 2 + (cs.drop (i + 1)).length)).drop (i + vs.length) = cs.drop (i + 1) ++ cur.drop (i + 2 + (cs.drop (i + 1)).length) := by
    rw [hv, List.append_assoc]
    exact List.drop_left' (by rw [List.length_take]; omega)
  rw [e1, e2, List.append_assoc, ← List.append_assoc vs, ← List.append_assoc]
  exact List.take_left' (by simp only [List.length_append, List.length_take, List.length_drop, hcl, hv]; omega)
theorem put_grow {α : Type} {row cs vs : List α} {n i : Nat} (h : row.take i = cs.take i) (hcl : cs.length = n) (hi : i + 1 < n) (hn : n + 1 ≤ row.length) (hv : vs.length = 2) :
    ((row.take i ++ vs ++ row.drop (i + vs.length)).take (i + 2) ++ cs.drop (i + 1) ++ (row.take i ++ vs ++ row.drop (i + vs.length)).drop (i + 2 + (cs.drop (i + 1)).length)).take (n + 1) = cs.take i ++ (vs ++ cs.drop (i + 1)) := by
  have e1 : (row.take i ++ vs ++ row.drop (i + vs.length)).take (i + 2) = cs.take i ++ vs := by
    rw [h]
    exact List.take_left' (by simp only [List.length_append, List.length_take, hcl, hv]; omega)
  rw [e1, ← List.append_assoc (cs.take i)]
  exact List.take_left' (by simp only [List.length_append, List.length_take, List.length_drop, hcl, hv]; omega)
theorem replV (base b c i vb n : Nat) (cs : List Value) (y1 y2 : Value) (w : World) (hown : w.ownsRow base 37 1 (.slice (some ⟨b, 0, none⟩) n c) n cs) (hi : i < n) (hbase : base ≤ w.heap.size)
    (hvb : w.heap[vb]? = some (.cells #[y1, y2] 37 (0, 0))) (hne : vb ≠ b) (h1c : ∀ v ∈ cs, v.oneCell' = true) (h1 : y1.oneCell' = true) (h2 : y2.oneCell' = true) (hbig : (n + 1) * 24 ≤ 140737488355328) :
    Calls Try.prog 45 #[.slice (some ⟨b, 0, none⟩) n c, .int .i64 (i : Nat), .int .i64 ((i + 1 : Nat) : Int), .slice (some ⟨vb, 0, none⟩) 2 2] w fun e w' =>
      ∃ v', e = .returned v' ∧ w'.ownsRow base 37 1 v' (n + 1) (cs.take i ++ ([y1, y2] ++ cs.drop (i + 1))) ∧ w.grownBy w' (some b) ∧ (v'.ownBlock = some b ∨ ∃ g, v'.ownBlock = some g ∧ w.heap.size ≤ g) := by
  have hvw : vb < w.heap.size := blk_lt hvb
  have hvs : ∀ j v, [y1, y2][j]? = some v → w.cell? ⟨vb, j, none⟩ = some v := fun j v hj => by
    rw [blk_cell hvb j]
    simpa using hj
  have h1v : ∀ v ∈ [y1, y2], v.oneCell' = true := fun v hv => by
    simp only [List.mem_cons, List.not_mem_nil, or_false] at hv
    rcases hv with rfl | rfl
    · exact h1
    · exact h2
  have hown0 := hown
  obtain ⟨hcl, ho⟩ := hown
  rcases ho with ⟨hv, _⟩ | ⟨g, cap, cur, hv, hb, hh, hnc, hcm, hcs, ht⟩
  · cases hv
  injection hv with ha _ hc
  injection ha with ha
  injection ha with hg
  subst hg; subst hc
  rw [Nat.mul_one] at hcl hcs ht
  have hbw : b < w.heap.size := blk_lt hh
  have hc63 : c ≤ 9223372036854775807 := by unfold maxLen at hcm; omega
  have hcc : ∀ j v, cs[j]? = some v → w.cell? ⟨b, j, none⟩ = some v := fun j v hj => by
    rw [blk_cell hh j, ← Array.getElem?_toList]
    rw [← ht, List.getElem?_take] at hj
    split at hj
    · exact hj
    · cases hj
  rcases Nat.lt_or_ge (i + 1) n with hlt | hge
  · rcases Nat.lt_or_ge c (n + 1) with hroom | hroom
    · refine (repl_grow b n c i vb cs [y1, y2] w hlt hnc hroom hc63 hne hbw hvw hcl rfl hcc hvs h1c h1v hbig).mono ?_
      rintro e w' ⟨W, W3, cap, row, rfl, hB, hn1, hcap, hrs, hrt, hB3, rfl⟩
      have hnew : (W.drew.alloc (.cells row 37)).heap[W.heap.size]? = some (.cells row 37 (0, 0)) := blk_new W.drew _
      obtain ⟨r1, a1, a2, a3⟩ := setCells_row [y1, y2] i _ row hnew (by rw [hrs]; simp only [List.length_cons, List.length_nil]; omega)
      have s1 := setCells_same W.heap.size [y1, y2] i (W.drew.alloc (.cells row 37))
      have a4 := (hB3.block W.heap.size (by omega)).trans a1
      obtain ⟨r2, b1, b2, b3⟩ := setCells_row (cs.drop (i + 1)) (i + 2) _ r1 a4 (by rw [a2, hrs, List.length_drop, hcl]; omega)
      have s2 := setCells_same W.heap.size (cs.drop (i + 1)) (i + 2) W3
      have hBa : Below W.heap.size W (W.drew.alloc (.cells row 37)) := below_alloc (below_drew (Below.refl _ _)) _
      refine ⟨_, rfl, ⟨?_, .inr ⟨W.heap.size, cap, r2, rfl, Nat.le_trans hbase hB.size, b1, hn1, hcap, by rw [b2, a2, hrs, Nat.mul_one], ?_⟩⟩, ⟨?_, ?_, ?_, ?_, ?_⟩, .inr ⟨W.heap.size, rfl, hB.size⟩⟩
      · simp only [List.length_append, List.length_take, List.length_drop, List.length_cons, List.length_nil, hcl, Nat.mul_one]; omega
      · rw [b3, a3, Nat.mul_one]
        exact put_grow hrt hcl hlt (by rw [Array.length_toList, hrs]; exact hn1) rfl
      · rw [s2.1, hB3.os, s1.1, hBa.os, hB.os]
      · rw [s2.2.1, hB3.tape, s1.2.1, hBa.tape, hB.tape]
      · rw [s2.2.2.1, hB3.output, s1.2.2.1, hBa.output, hB.output]
      · rw [s2.2.2.2]
        have k1 := hB3.size
        rw [s1.2.2.2] at k1
        exact Nat.le_trans (Nat.le_trans hB.size hBa.size) k1
      · intro k hk _
        have hkW : k < W.heap.size := Nat.lt_of_lt_of_le hk hB.size
        rw [setCells_far _ _ k (by omega), hB3.block k (by omega), setCells_far _ _ k (by omega), hBa.block k hkW, hB.block k hk]
    · refine (repl_room b n c i vb cs [y1, y2] w hlt hroom hc63 hne hbw hvw hcl rfl hcc hvs h1c h1v (fun j hj => by rw [blk_cell hh j, Array.getElem?_eq_getElem (by omega)]; rfl) (fun j => blk_frozen hh j) 37 37 cur.size 2 (by simp only [World.shape?, hh]) (by simp only [World.shape?, hvb]; rfl) (by decide)).mono ?_
      rintro e w' ⟨rfl, W, hB, rfl⟩
      have hW := (hB.block b hbw).trans hh
      obtain ⟨r1, a1, a2, a3⟩ := setCells_row (cs.drop (i + 1)) (i + 2) W cur hW (by rw [hcs, List.length_drop, hcl]; omega)
      have s1 := setCells_same b (cs.drop (i + 1)) (i + 2) W
      obtain ⟨r2, b1, b2, b3⟩ := setCells_row [y1, y2] i _ r1 a1 (by rw [a2, hcs]; simp only [List.length_cons, List.length_nil]; omega)
      have s2 := setCells_same b [y1, y2] i (W.setCells b (i + 2) (cs.drop (i + 1)))
      refine ⟨_, rfl, ⟨?_, .inr ⟨b, c, r2, rfl, hb, b1, hroom, hcm, by rw [b2, a2, hcs, Nat.mul_one], ?_⟩⟩, ⟨?_, ?_, ?_, ?_, ?_⟩, .inl rfl⟩
      · simp only [List.length_append, List.length_take, List.length_drop, List.length_cons, List.length_nil, hcl, Nat.mul_one]; omega
      · rw [b3, a3, Nat.mul_one]
        exact put_room ht hlt (by rw [Array.length_toList, hcs]; exact hroom) rfl
      · rw [s2.1, s1.1, hB.os]
      · rw [s2.2.1, s1.2.1, hB.tape]
      · rw [s2.2.2.1, s1.2.2.1, hB.output]
      · rw [s2.2.2.2, s1.2.2.2]
        exact hB.size
      · intro k hk hkb
        rw [setCells_far _ _ k (fun h => hkb (by rw [h])), setCells_far _ _ k (fun h => hkb (by rw [h])), hB.block k hk]
  · obtain rfl : n = i + 1 := by omega
    refine (repl_end base b c i vb cs [y1, y2] w hown0 hbase rfl hvs h1v hbig).mono ?_
    rintro e w' ⟨v', rfl, h3, h4, h5⟩
    refine ⟨v', rfl, ?_, h4, h5⟩
    rw [List.drop_eq_nil_of_le (by omega), List.append_nil]
    exact h3
end Go.Proofs.Ytdnidldinafakaa.Rp
