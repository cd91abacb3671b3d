/- Rows of numbers of the call's own in a row of the call's own, all apart; one of them replaced by two new ones. Condition: a length that Go can make room for. -/

import Derived.Test.YtdnidldinafakaaEReplV
import Derived.Test.YtdnidldinafakaaWApart
import Derived.Lib.LazyBuf
namespace Go.Proofs.Ytdnidldinafakaa.Rp
open Go.RowKit Go.Proofs.Ytdnidldinafakaa Go.Proofs.YtdnidldinafakaaW.PrintWords Go.Proofs.YtdnidldinafakaaW.PrintLast Go.Proofs.YtdnidldinafakaaW.PrintMore
set_option linter.unusedVariables false
set_option linter.unusedSimpArgs false
section
variable {α : Type} {xs : List α} {y1 y2 x : α} {i j : Nat}
theorem at_old {j0 : Nat} (hi : i < xs.length) (hj : j0 ≠ i) : (xs.take i ++ ([y1, y2] ++ xs.drop (i + 1)))[if j0 < i then j0 else j0 + 1]? = xs[j0]? := by
  have hl : (xs.take i).length = i := by rw [List.length_take]; omega
  split
  · rename_i h
    rw [List.getElem?_append_left (by omega), List.getElem?_take_of_lt h]
  · rw [List.getElem?_append_right (by omega), hl, List.getElem?_append_right (by simp; omega), List.getElem?_drop]
    congr 1
    simp only [List.length_cons, List.length_nil]
    omega
theorem at_y1 (hi : i < xs.length) : (xs.take i ++ ([y1, y2] ++ xs.drop (i + 1)))[i]? = some y1 := by
  have hl : (xs.take i).length = i := by rw [List.length_take]; omega
  rw [List.getElem?_append_right (by omega), hl, Nat.sub_self]
  rfl
theorem at_y2 (hi : i < xs.length) : (xs.take i ++ ([y1, y2] ++ xs.drop (i + 1)))[i + 1]? = some y2 := by
  have hl : (xs.take i).length = i := by rw [List.length_take]; omega
  rw [List.getElem?_append_right (by omega), hl, Nat.add_sub_cancel_left]
  rfl
theorem at_cases (hi : i < xs.length) (h : (xs.take i ++ ([y1, y2] ++ xs.drop (i + 1)))[j]? = some x) : (∃ j0, xs[j0]? = some x ∧ j0 ≠ i ∧ j = if j0 < i then j0 else j0 + 1) ∨ (j = i ∧ x = y1) ∨ (j = i + 1 ∧ x = y2) := by
  rcases Nat.lt_or_ge j i with h1 | h1
  · have := at_old (y1 := y1) (y2 := y2) hi (show j ≠ i by omega)
    rw [if_pos h1, h] at this
    exact .inl ⟨j, this.symm, by omega, by rw [if_pos h1]⟩
  · rcases Nat.lt_or_ge j (i + 2) with h2 | h2
    · rcases Nat.lt_or_ge j (i + 1) with h3 | h3
      · obtain rfl : j = i := by omega
        rw [at_y1 hi] at h
        injection h with h
        exact .inr (.inl ⟨rfl, h.symm⟩)
      · obtain rfl : j = i + 1 := by omega
        rw [at_y2 hi] at h
        injection h with h
        exact .inr (.inr ⟨rfl, h.symm⟩)
    · have := at_old (y1 := y1) (y2 := y2) hi (show j - 1 ≠ i by omega)
      rw [if_neg (by omega), show j - 1 + 1 = j by omega, h] at this
      exact .inl ⟨j - 1, this.symm, by omega, by rw [if_neg (by omega)]; omega⟩
end
abbrev kN : Kd Int := Kd.int .i64
def OwnSS (W : World) (base : Nat) (v : Value) (ps : List (List Int)) : Prop :=
  ∃ xs : List Value, W.ownsRow base 37 1 v ps.length xs ∧ (∀ (j : Nat) (p : List Int), ps[j]? = some p → ∃ x, xs[j]? = some x ∧ kN.R 3 W base (fun k => some k = x.ownBlock) x p ∧ ∀ k, x.ownBlock = some k → some k ≠ v.ownBlock) ∧
    ∀ (i j : Nat) (x y : Value) (k : Nat), xs[i]? = some x → xs[j]? = some y → x.ownBlock = some k → y.ownBlock = some k → i = j
theorem OwnSS_below {W W1 : World} {base : Nat} {v : Value} {ps : List (List Int)} (h : OwnSS W base v ps) (hb : Below W.heap.size W W1) : OwnSS W1 base v ps := by
  obtain ⟨xs, h1, h2, h3⟩ := h
  refine ⟨xs, own_move h1 (fun k hk => hb.block k (own_lt h1 k hk)), fun j p hj => ?_, h3⟩
  obtain ⟨x, a1, a2, a3⟩ := h2 j p hj
  exact ⟨x, a1, Kd.R_below a2 hb, a3⟩
theorem OwnSS_form {W : World} {base : Nat} {v : Value} {ps : List (List Int)} (h : OwnSS W base v ps) (hp : 0 < ps.length) : ∃ g c, v = .slice (some ⟨g, 0, none⟩) ps.length c ∧ base ≤ g ∧ g < W.heap.size ∧ ps.length ≤ c ∧ c ≤ maxLen := by
  obtain ⟨xs, h1, h2, h3⟩ := h
  rcases h1.2 with ⟨_, h0⟩ | ⟨g, cap, cur, rfl, hb, hh, k1, k2, k3, k4⟩
  · omega
  · exact ⟨g, cap, rfl, hb, blk_lt hh, k1, k2⟩
theorem OwnSS_at {W : World} {base g c n : Nat} {ps : List (List Int)} (h : OwnSS W base (.slice (some ⟨g, 0, none⟩) n c) ps) {j : Nat} {p : List Int} (hj : ps[j]? = some p) : ∃ A cp, W.cell? ⟨g, j, none⟩ = some (.slice A p.length cp) ∧ p.length ≤ cp ∧ kN.C W A p.length p := by
  obtain ⟨xs, h1, h2, h3⟩ := h
  obtain ⟨x, a1, a2, a3⟩ := h2 j p hj
  obtain ⟨A, cp, rfl, hl, hC⟩ := Kd.R_reads a2
  refine ⟨A, cp, ?_, hl, hC⟩
  rcases h1.2 with ⟨hv, _⟩ | ⟨g', cap, cur, hv, hb, hh, k1, k2, k3, k4⟩
  · cases hv
  injection hv with ha _ _
  injection ha with ha
  injection ha with hg
  subst hg
  rw [blk_cell hh j, ← Array.getElem?_toList]
  rw [← k4, List.getElem?_take] at a1
  split at a1
  · exact a1
  · cases a1
theorem OwnSS_S {W : World} {base : Nat} {v : Value} {ps : List (List Int)} (h : OwnSS W base v ps) : Kd.S (Kd.slice 3 kN) 37 W base (fun _ => True) v ps := by
  obtain ⟨xs, h1, h2, h3⟩ := h
  obtain ⟨f, hr⟩ := Kd.reps_tag (d := Kd.slice 3 kN) (w := W) (base := base) (ok := fun k => True ∧ some k ≠ v.ownBlock) (xs := ps) (inner := xs) (fun j k => ∃ x, xs[j]? = some x ∧ x.ownBlock = some k ∧ some k ≠ v.ownBlock)
    (fun i j k ⟨x, a1, a2, _⟩ ⟨y, b1, b2, _⟩ => h3 i j x y k a1 b1 a2 b2) (fun j k ⟨_, _, _, hk⟩ => ⟨trivial, hk⟩) h1.1 (fun j p hj => by
      obtain ⟨x, a1, a2, a3⟩ := h2 j p hj
      obtain ⟨hl, he⟩ := List.getElem?_eq_some_iff.1 a1
      refine ⟨x, ?_, Kd.R_mono a2 (fun k hk => ⟨x, a1, hk.symm, a3 k hk.symm⟩)⟩
      show ((xs.drop (j * 1)).take 1) = [x]
      rw [Nat.mul_one, List.drop_eq_getElem_cons hl, he]
      rfl)
  exact ⟨f, fun k hk => trivial, xs, by rw [List.length_zipIdx]; exact h1, hr⟩
theorem OwnSS_one {W : World} {base : Nat} {x : Value} {p : List Int} (hx : kN.R 3 W base (fun _ => True) x p) (hbase : base ≤ W.heap.size) : OwnSS (W.alloc (.cells #[x] 37)) base (.slice (some ⟨W.heap.size, 0, none⟩) 1 1) [p] := by
  refine ⟨[x], World.ownsRow_lit (base := base) (e := 37) (size := 1) W #[x] 1 hbase (by simp [maxLen]) rfl, fun j q hj => ?_, fun i j a b k hi hj _ _ => ?_⟩
  · obtain ⟨rfl, rfl⟩ : j = 0 ∧ p = q := by
      cases j with
      | zero => exact ⟨rfl, by simpa using hj⟩
      | succ j => simp at hj
    refine ⟨x, rfl, Kd.R_below (Kd.R_tight rfl hx) (below_alloc (Below.refl _ _) _), fun k hk e => ?_⟩
    have := Kd.R_lt hx k hk
    have e2 : W.heap.size = k := by simpa [Value.ownBlock] using e.symm
    omega
  · have h1 : i < 1 := by obtain ⟨h, _⟩ := List.getElem?_eq_some_iff.1 hi; simpa using h
    have h2 : j < 1 := by obtain ⟨h, _⟩ := List.getElem?_eq_some_iff.1 hj; simpa using h
    omega
theorem replSS (base i vb m : Nat) (v : Value) (ps : List (List Int)) (p1 p2 : List Int) (y1 y2 : Value) (w0 w1 w : World) (hw0 : Below w0.heap.size w0 w) (hw0b : base = w0.heap.size) (hSS : OwnSS w1 base v ps) (hb1 : Below w1.heap.size w1 w) (hbase : base ≤ w1.heap.size) (hi : i < ps.length)
    (hy1 : kN.R 3 w w1.heap.size (fun _ => True) y1 p1) (hy1m : ∀ k, y1.ownBlock = some k → k < m) (hy2 : kN.R 3 w m (fun _ => True) y2 p2) (hm : w1.heap.size ≤ m) (hvb : w.heap[vb]? = some (.cells #[y1, y2] 37 (0, 0))) (hvb1 : w1.heap.size ≤ vb) (hbig : (ps.length + 1) * 24 ≤ 140737488355328) :
    Calls Try.prog 45 #[v, .int .i64 (i : Nat), .int .i64 ((i + 1 : Nat) : Int), .slice (some ⟨vb, 0, none⟩) 2 2] w fun e w' =>
      ∃ v', e = .returned v' ∧ OwnSS w' base v' (ps.take i ++ ([p1, p2] ++ ps.drop (i + 1))) ∧ Below w0.heap.size w0 w' := by
  subst hw0b
  obtain ⟨g, c, rfl, hg, hgl, hpc, hcm⟩ := OwnSS_form hSS (by omega)
  have hSSw := OwnSS_below hSS hb1
  obtain ⟨xs, h1, h2, h3⟩ := hSSw
  have hlt : ∀ (j : Nat) (x : Value) (k : Nat), xs[j]? = some x → x.ownBlock = some k → k < w1.heap.size := fun j x k hj hk => by
    obtain ⟨ys, g1, g2, g3⟩ := hSS
    have hxl : xs.length = ps.length := by have := h1.1; omega
    obtain ⟨hjl, _⟩ := List.getElem?_eq_some_iff.1 hj
    obtain ⟨y, a1, a2, a3⟩ := g2 j ps[j] (List.getElem?_eq_getElem (by omega))
    have hxy : xs = ys := by
      rcases h1.2 with ⟨hv, _⟩ | ⟨q1, cap1, cur1, hv1, _, hh1, _, _, _, t1⟩
      · cases hv
      rcases g1.2 with ⟨hv, _⟩ | ⟨q2, cap2, cur2, hv2, _, hh2, _, _, _, t2⟩
      · cases hv
      have e1 : g = q1 := by injection hv1 with ha _ _; injection ha with ha; injection ha
      have e2 : g = q2 := by injection hv2 with ha _ _; injection ha with ha; injection ha
      subst e1; subst e2
      rw [hb1.block g hgl, hh2] at hh1
      injection hh1 with hh1
      injection hh1 with hh1
      subst hh1
      rw [← t1, ← t2]
    subst hxy
    rw [hj] at a1
    injection a1 with a1
    subst a1
    exact Kd.R_lt a2 k hk
  have h1c : ∀ x ∈ xs, x.oneCell' = true := fun x hx => by
    obtain ⟨j, hj⟩ := List.mem_iff_getElem?.1 hx
    have hxl : xs.length = ps.length := by have := h1.1; omega
    obtain ⟨hjl, _⟩ := List.getElem?_eq_some_iff.1 hj
    obtain ⟨y, a1, a2, a3⟩ := h2 j ps[j] (List.getElem?_eq_getElem (by omega))
    rw [hj] at a1
    injection a1 with a1
    subst a1
    exact (Kd.R_val a2).2
  have hxl : xs.length = ps.length := by have := h1.1; omega
  refine (replV w0.heap.size g c i vb ps.length xs y1 y2 w h1 hi (Nat.le_trans hbase hb1.size) hvb (by omega) h1c (Kd.R_val hy1).2 (Kd.R_val hy2).2 hbig).mono ?_
  rintro e w' ⟨v', rfl, ho, hgr, hat⟩
  have hi' : i < xs.length := by omega
  have hne : ∀ k, v'.ownBlock = some k → k = g ∨ w.heap.size ≤ k := fun k hk => by
    rcases hat with h | ⟨q, h, hq⟩
    · rw [hk] at h; injection h with h; exact .inl h
    · rw [hk] at h; injection h with h; exact .inr (by omega)
  have hmove : ∀ (x : Value) (p : List Int), kN.R 3 w w0.heap.size (fun k => some k = x.ownBlock) x p → (∀ k, x.ownBlock = some k → k ≠ g) → kN.R 3 w' w0.heap.size (fun k => some k = x.ownBlock) x p ∧ ∀ k, x.ownBlock = some k → some k ≠ v'.ownBlock := fun x p hx hxg =>
    ⟨Kd.R_grown hx hgr (fun k hk e => hxg k hk.symm (by injection e)), fun k hk e => by
      rcases hne k e.symm with h | h
      · exact hxg k hk h
      · have := Kd.R_lt hx k hk; omega⟩
  have hY1 := hmove y1 p1 (Kd.R_lower (Kd.R_tight rfl hy1) hbase) (fun k hk => by have := Kd.R_base hy1 k hk; omega)
  have hY2 := hmove y2 p2 (Kd.R_lower (Kd.R_tight rfl hy2) (Nat.le_trans hbase hm)) (fun k hk => by have := Kd.R_base hy2 k hk; omega)
  refine ⟨v', rfl, ⟨xs.take i ++ ([y1, y2] ++ xs.drop (i + 1)), ?_, fun j p hj => ?_, fun a b x y k ha hb hka hkb => ?_⟩, pw_below_grown hw0 (some g) hw0.size hgr (fun k hk => by injection hk with hk; rw [← hk]; exact hg)⟩
  · have hl : (ps.take i ++ ([p1, p2] ++ ps.drop (i + 1))).length = ps.length + 1 := by
      simp only [List.length_append, List.length_take, List.length_drop, List.length_cons, List.length_nil]; omega
    rw [hl]
    exact ho
  · rcases at_cases hi hj with ⟨j0, e1, e2, rfl⟩ | ⟨rfl, rfl⟩ | ⟨rfl, rfl⟩
    · obtain ⟨x, a1, a2, a3⟩ := h2 j0 p e1
      exact ⟨x, (at_old hi' e2).trans a1, hmove x p a2 (fun k hk e => a3 k hk (by rw [e]; rfl))⟩
    · exact ⟨y1, at_y1 hi', hY1⟩
    · exact ⟨y2, at_y2 hi', hY2⟩
  · have by1 : ∀ k, y1.ownBlock = some k → w1.heap.size ≤ k := fun k hk => Kd.R_base hy1 k hk
    have by2 : ∀ k, y2.ownBlock = some k → m ≤ k := fun k hk => Kd.R_base hy2 k hk
    rcases at_cases hi' ha with ⟨a0, ea, na, rfl⟩ | ⟨rfl, rfl⟩ | ⟨rfl, rfl⟩ <;> rcases at_cases hi' hb with ⟨b0, eb, nb, rfl⟩ | ⟨rfl, rfl⟩ | ⟨rfl, rfl⟩
    · rw [h3 a0 b0 x y k ea eb hka hkb]
    · have := hlt _ _ _ ea hka; have := by1 k hkb; omega
    · have := hlt _ _ _ ea hka; have := by2 k hkb; omega
    · have := hlt _ _ _ eb hkb; have := by1 k hka; omega
    · rfl
    · have := hy1m k hka; have := by2 k hkb; omega
    · have := hlt _ _ _ eb hkb; have := by2 k hka; omega
    · have := hy1m k hkb; have := by2 k hka; omega
    · rfl
end Go.Proofs.Ytdnidldinafakaa.Rp
