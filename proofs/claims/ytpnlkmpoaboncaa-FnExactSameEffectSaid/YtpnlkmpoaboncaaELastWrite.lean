/- impl.lastWrite: the number of the last Write of an item, -1 for none. Condition: a length that Go can hold. -/
import Derived.Test.YtpnlkmpoaboncaaPr0
import Derived.Test.YtpnlkmpoaboncaaFBack
namespace Go.Proofs.Ytpnlkmpoaboncaa.Pr
open Go.RowKit Go.Shelf Go.Proofs Go.Proofs.YtpnlkmpoaboncaaW.PrintWords Go.Proofs.YtpnlkmpoaboncaaW.PrintLast Go.Proofs.YtpnlkmpoaboncaaW.PrintMore
set_option linter.unusedVariables false
set_option linter.unusedSimpArgs false
attribute [local go_sem] Oper.semAt_some
def isW (it : Int) (x : S44) : Bool := x.f2 && decide (x.f1 = it)
/-- The last of the first m elements that is such a Write. -/
def lwN (l : List S44) (it : Int) : Nat → Int
  | 0 => -1
  | m + 1 => if isW it (l.getD m z44) then (m : Int) else lwN l it m
theorem lwN_none (l : List S44) (it : Int) : ∀ m, (∀ j, j < m → isW it (l.getD j z44) = false) → lwN l it m = -1
  | 0, _ => rfl
  | m + 1, h => by
    rw [lwN, h m (by omega)]
    exact lwN_none l it m (fun j hj => h j (by omega))
theorem lwN_hit (l : List S44) (it : Int) (j : Nat) (hj : isW it (l.getD j z44) = true) : ∀ m, j < m → (∀ i, j < i → i < m → isW it (l.getD i z44) = false) → lwN l it m = j
  | 0, h, _ => absurd h (Nat.not_lt_zero _)
  | m + 1, h, hn => by
    rw [lwN]
    by_cases e : j = m
    · subst e
      rw [hj]
      rfl
    · rw [hn m (by omega) (by omega)]
      exact lwN_hit l it j hj m (by omega) (fun i h1 h2 => hn i h1 (by omega))
def impl_lastWrite.f (l0 : List S44) (a1 : Int) : Option Int := if l0.length < 9223372036854775807 then some (lwN l0 a1 l0.length) else none
theorem own_blk {β : Type} (B : Nat) (q : Nat → Prop) (a : Nat → Act) (cs : Array Value) (t : TypeId) (a' : Act) : OwnFrom B (fun (_ : β) W => ∃ Bx, q Bx ∧ W.heap[Bx]? = some (.cells cs t (0, 0)) ∧ a' = a Bx) := by
  rintro s X Y row ⟨Bx, hq, hb, rfl⟩ hg hr
  refine ⟨Bx, hq, (hg.block Bx (Array.getElem?_eq_some_iff.1 hb).1 (fun e => ?_)).trans hb, rfl⟩
  obtain ⟨_, o, ho, hc⟩ := hr Bx e.symm
  rw [hb] at ho
  cases ho
  cases hc
set_option maxRecDepth 100000 in
set_option maxHeartbeats 4000000 in
theorem lastWrite_in (A : Option Addr) (c : Nat) (l : List S44) (it : Int) (w : World) (hlen : l.length < 9223372036854775807) (hr : Kd.C k44 w A l.length l) :
    CallsIn Fence.wide 3 Try.prog 28 #[.slice A l.length c, .int .i64 it] w fun e w' => e = .returned (.int .i64 (lwN l it l.length)) ∧ Below w.heap.size w w' := by
  have hro : Fence.wide.round = none := rfl
  refine callsIn_of_wp_marks Try.func28 rfl trivial ?_ hro
  simp only [Try.ntmps28, List.size_toArray, List.length_cons, List.length_nil, Nat.reduceAdd, Nat.reduceSub, Array.replicate_succ, Array.replicate_zero, List.push_toArray, List.append_toArray, List.nil_append, List.cons_append]
  have hfb : Fence.wide.fn 47 := trivial
  gi_wp2_with (gi_at_call 47; refine (back_in Fence.wide 2 trivial hro _ _ _ _).mono ?_; rintro e w' ⟨rfl, rfl⟩)
  have b0 : (((w.alloc (.cells #[.int .i64 it] 3)).alloc (.cells #[.int .i64 0] 3)).alloc (.cells #[.slice A l.length c] 27)).heap[w.heap.size]? = some (.cells #[.int .i64 it] 3 (0, 0)) := blk_alloc (blk_alloc (blk_new w _) _) _
  have b1 : (((w.alloc (.cells #[.int .i64 it] 3)).alloc (.cells #[.int .i64 0] 3)).alloc (.cells #[.slice A l.length c] 27)).heap[w.heap.size + 1]? = some (.cells #[.int .i64 0] 3 (0, 0)) := by
    have := blk_alloc (blk_new (w.alloc (.cells #[.int .i64 it] 3)) (.cells #[.int .i64 0] 3)) (.cells #[.slice A l.length c] 27)
    rwa [boxed_size] at this
  have b2 : (((w.alloc (.cells #[.int .i64 it] 3)).alloc (.cells #[.int .i64 0] 3)).alloc (.cells #[.slice A l.length c] 27)).heap[w.heap.size + 1 + 1]? = some (.cells #[.slice A l.length c] 27 (0, 0)) := by
    have := blk_new ((w.alloc (.cells #[.int .i64 it] 3)).alloc (.cells #[.int .i64 0] 3)) (.cells #[.slice A l.length c] 27)
    rwa [boxed_size, boxed_size] at this
  have hB0 := below_alloc (below_alloc (below_alloc (Below.refl w.heap.size w) (.cells #[.int .i64 it] 3)) (.cells #[.int .i64 0] 3)) (.cells #[.slice A l.length c] 27)
  have hsz : (((w.alloc (.cells #[.int .i64 it] 3)).alloc (.cells #[.int .i64 0] 3)).alloc (.cells #[.slice A l.length c] 27)).heap.size = w.heap.size + 3 := by rw [boxed_size, boxed_size, boxed_size]
  have hsb : ((w.alloc (.cells #[.int .i64 it] 3)).alloc (.cells #[.int .i64 0] 3)).heap.size = w.heap.size + 2 := by rw [boxed_size, boxed_size]
  have hsa : (w.alloc (.cells #[.int .i64 it] 3)).heap.size = w.heap.size + 1 := by rw [boxed_size]
  generalize ((w.alloc (.cells #[.int .i64 it] 3)).alloc (.cells #[.int .i64 0] 3)).alloc (.cells #[.slice A l.length c] 27) = W0 at b0 b1 b2 hB0 hsz ⊢
  clear hsb hsa
  have hXX : ∀ X, Below W0.heap.size W0 X → X.cell? ⟨w.heap.size + 1 + 1, 0, none⟩ = some (.slice A l.length c) ∧ Kd.C k44 X A l.length l := fun X hb => ⟨(blk_cell (blk_below b2 hb) 0).trans rfl, Kd.C_below hr (below_step hB0 hb)⟩
  refine wpIn_rangeFunc_ownH hro (show 1 ≤ 3 by decide) (gf := 59) (lb := #[.pointer (some ⟨w.heap.size + 1 + 1, 0, none⟩)]) rfl trivial (enters_of Try.func59 (by kernel_rfl) rfl)
    (back_stops Fence.wide 2 trivial hro (by decide) (w.heap.size + 1 + 1) W0.heap.size c A l hlen W0 (Nat.le_refl _) hXX) belowK_t (belowK_b (Nat.le_refl _)) (Below.refl _ _) (fun _ => rfl)
    (fun pre W => (∀ x ∈ pre, isW it x.2 = false) ∧ Below W0.heap.size W0 W)
    (fun cd pre W => cd = .ret ∧ ∃ ini last, pre = ini ++ [last] ∧ (∀ x ∈ ini, isW it x.2 = false) ∧ isW it last.2 = true ∧ W.heap[w.heap.size + 1]? = some (.cells #[.int .i64 last.1] 3 (0, 0)) ∧ Below w.heap.size w W)
    (OwnFrom.and (ownFrom_pure _ _) (ownFrom_below (Nat.le_refl _) (Nat.le_refl _)))
    (fun cd => by
      rintro s X Y row ⟨h1, ini, last, h2, h3, h4, h5, h6⟩ hg hro'
      refine ⟨h1, ini, last, h2, h3, h4, (hg.block _ (Array.getElem?_eq_some_iff.1 h5).1 (fun e => ?_)).trans h5, ownFrom_below (B := W0.heap.size) (Nat.le_refl _) (by omega) () X Y row h6 hg hro'⟩
      obtain ⟨_, o, ho, hc⟩ := hro' _ e.symm
      rw [h5] at ho
      cases ho
      cases hc)
    ⟨by simp, Below.refl _ _⟩
    (fun x a' W => ∃ Bx, W0.heap.size ≤ Bx ∧ W.heap[Bx]? = some (.cells #[.int .i64 x.2.f0, .int .i64 x.2.f1, .bool x.2.f2] 44 (0, 0)) ∧ a' = { tmps := #[.slice A l.length c, .int .i64 it, undef, .pointer (some ⟨w.heap.size, 0, none⟩), .pointer (some ⟨w.heap.size + 1, 0, none⟩), .int .i64 x.1, .pointer (some ⟨Bx, 0, none⟩), .slice A l.length c, .func (.func 59) #[] #[.pointer (some ⟨w.heap.size + 1 + 1, 0, none⟩)], .int .i64 x.1, .agg #[.int .i64 x.2.f0, .int .i64 x.2.f1, .bool x.2.f2], undef, undef, undef, undef, undef, undef, undef, undef, undef], defers := [] })
    (fun x a' => own_blk _ _ _ _ _ _) ?assign ?body ?done ?stop
  case assign =>
    rintro ly pre x W K ⟨hp, hB⟩ hK
    gi_wp2
    exact hK _ _ ((KeepsOthers.alloc _ _).from _) ((Below.refl _ W).alloc hB.size _) ⟨hp, hB.alloc hB.size _⟩ ⟨W.heap.size, hB.size, blk_new W _, rfl⟩
  case body =>
    rintro ly pre x a' W hl - ⟨hp, hB⟩ ⟨Bx, hBx, bX, rfl⟩ hlt
    have c1 : W.cell? ⟨Bx, 1, none⟩ = some (.int .i64 x.2.f1) := (blk_cell bX 1).trans rfl
    have c2 : W.cell? ⟨Bx, 2, none⟩ = some (.bool x.2.f2) := (blk_cell bX 2).trans rfl
    have d0 : W.cell? ⟨w.heap.size, 0, none⟩ = some (.int .i64 it) := (blk_cell (blk_below b0 hB) 0).trans rfl
    have e0 := blk_below b1 hB
    have d1 : W.cell? ⟨w.heap.size + 1, 0, none⟩ = some (.int .i64 0) := (blk_cell e0 0).trans rfl
    have d2 := blk_frozen e0 0
    have hsn : ∀ q, isW it x.2 = q → (∀ y ∈ pre, isW it y.2 = false) → q = false → ∀ y ∈ pre ++ [x], isW it y.2 = false := fun q h1 h2 h3 y hy => by
      rcases List.mem_append.1 hy with hy | hy
      · exact h2 y hy
      · rw [List.mem_singleton.1 hy, h1, h3]
    cases h2 : x.2.f2 with
    | false =>
      have hw : isW it x.2 = false := by simp [isW, h2]
      rw [h2] at c2
      have HP := Aside0.mk (hsn _ hw hp rfl)
      have HB := Aside0.mk hB
      clear hsn hw hp h2 hB
      gi_wp2
      exact ⟨KeepsFrom.refl _ _, Below.refl _ _, HP.out, HB.out⟩
    | true =>
      rw [h2] at c2
      by_cases h1 : x.2.f1 = it
      · have hw : isW it x.2 = true := by simp [isW, h2, h1]
        have hb1 : (x.2.f1 == it) = true := beq_iff_eq.2 h1
        have HP := Aside0.mk hp
        have HW := Aside0.mk hw
        have HB := Aside0.mk hB
        have HE := Aside0.mk e0
        clear hsn hw hp h2 h1 hB e0
        gi_wp2
        refine ⟨(KeepsOthers.setCell _ _ _).from _, rfl, pre, x, rfl, HP.out, HW.out, blk_put HE.out 0 _ rfl, ?_⟩
        exact (below_step hB0 HB.out).setCell (p := ⟨w.heap.size + 1, 0, none⟩) (Nat.le_succ _) _
      · have hw : isW it x.2 = false := by simp [isW, h1]
        have hb1 : (x.2.f1 == it) = false := beq_eq_false_iff_ne.2 h1
        have HP := Aside0.mk (hsn _ hw hp rfl)
        have HB := Aside0.mk hB
        clear hsn hw hp h2 h1 hB e0
        gi_wp2
        exact ⟨KeepsFrom.refl _ _, Below.refl _ _, HP.out, HB.out⟩
  case done =>
    rintro D ys W hD rfl ⟨hne, hB⟩ hK
    have e0 := blk_below b1 hB
    have d1 : W.cell? ⟨w.heap.size + 1, 0, none⟩ = some (.int .i64 0) := (blk_cell e0 0).trans rfl
    have d2 := blk_frozen e0 0
    have hres : lwN l it l.length = -1 := lwN_none l it _ (fun j hj => by
      have := hne (((j : Nat) : Int), l.getD j z44) (by
        simp only [bk, List.mem_map, List.mem_range]
        exact ⟨l.length - 1 - j, by omega, by rw [show l.length - 1 - (l.length - 1 - j) = j by omega]⟩)
      exact this)
    have HRS := Aside0.mk hres
    clear hres hne
    gi_wp2
    have hK' := (KeepsOthers.setCell W ⟨w.heap.size + 1, 0, none⟩ (.int .i64 (-1))).same D _ hK rfl
    refine ⟨by simp, .inl ⟨_, _, rfl, run_takeDeferred hK', ?_⟩⟩
    have hc5 := _root_.Go.cell_kept (World.cell?_setCell_same' W ⟨w.heap.size + 1, 0, none⟩ (.int .i64 (-1)) (by rw [d1]; rfl)) (grownBy_putObj' _ D (.deferred none)) (fun r e => by cases e; exact ⟨_, hK', rfl⟩)
    refine ⟨.int .i64 (-1), ?_, by rw [HRS.out], ((below_step hB0 hB).setCell (p := ⟨w.heap.size + 1, 0, none⟩) (Nat.le_succ _) _).trans (belowK_b (w := w) (Nat.le_refl _) _ D _ _ (by omega) hK' rfl rfl)⟩
    simp [results, Try.f28, go_sem, hc5]
  case stop =>
    rintro D cd pre W hD ⟨k, hk, rfl⟩ ⟨rfl, ini, last, e1, e2, e3, hcr, hB⟩ hK
    gi_wp2
    refine ⟨by simp, .inl ⟨_, _, rfl, run_takeDeferred hK, ?_⟩⟩
    have hc5 := _root_.Go.cell_kept ((blk_cell hcr 0).trans rfl) (grownBy_putObj' _ D (.deferred none)) (fun r e => by cases e; exact ⟨_, hK, rfl⟩)
    obtain ⟨k', rfl⟩ : ∃ k', k = k' + 1 := by
      cases k with
      | zero => simp [bk] at e1
      | succ k' => exact ⟨k', rfl⟩
    rw [bk_succ] at e1
    obtain ⟨rfl, e5⟩ := List.append_inj' e1 rfl
    obtain rfl : (((l.length - 1 - k' : Nat) : Int), l.getD (l.length - 1 - k') z44) = last := by simpa using e5
    have hres : lwN l it l.length = ((l.length - 1 - k' : Nat) : Int) := lwN_hit l it _ e3 _ (by omega) (fun i h1 h2 => by
      have := e2 (((i : Nat) : Int), l.getD i z44) (by
        simp only [bk, List.mem_map, List.mem_range]
        exact ⟨l.length - 1 - i, by omega, by rw [show l.length - 1 - (l.length - 1 - i) = i by omega]⟩)
      exact this)
    rw [hres]
    refine ⟨.int .i64 ((l.length - 1 - k' : Nat) : Int), ?_, rfl, hB.trans (belowK_b (w := w) (Nat.le_refl _) W D _ _ (by omega) hK rfl rfl)⟩
    simp [results, Try.f28, go_sem, hc5]
theorem impl_lastWrite.calls (A0 : Option Addr) (c0 : Nat) (l0 : List S44) (a1 : Int) (r : Int) (w : World) (hr0 : Kd.C k44 w A0 l0.length l0) (hc0 : l0.length ≤ c0) (h : impl_lastWrite.f l0 a1 = some r) :
    Calls Try.prog 28 #[.slice A0 l0.length c0, .int .i64 a1] w fun e w' => e = .returned (.int .i64 r) ∧ Below w.heap.size w w' := by
  unfold impl_lastWrite.f at h
  split at h
  · rename_i hl
    obtain rfl := Option.some.inj h
    exact callsIn_wide.1 (lastWrite_in A0 c0 l0 a1 w hl hr0)
  · cases h
end Go.Proofs.Ytpnlkmpoaboncaa.Pr
