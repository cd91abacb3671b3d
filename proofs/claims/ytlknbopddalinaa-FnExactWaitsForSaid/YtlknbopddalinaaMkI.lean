/- The marks in rows of numbers, and in rows of such rows, of the call's own: contracts. Conditions: marks that Go can hold. -/
import Derived.Test.YtlknbopddalinaaPr2
import Derived.Test.YtlknbopddalinaaIv
import Derived.Test.YtlknbopddalinaaMkA
namespace Go.Proofs.Ytlknbopddalinaa.Mk
open Go.RowKit Go.Proofs.Ytlknbopddalinaa Go.Proofs.Ytlknbopddalinaa.Pr Go.Proofs.Ytlknbopddalinaa.Pl Go.Proofs.YtlknbopddalinaaW.PrintWords Go.Proofs.YtlknbopddalinaaW.PrintLast Go.Proofs.YtlknbopddalinaaW.PrintMore
set_option linter.unusedVariables false
set_option linter.unusedSimpArgs false
theorem R_base_up {k : IntKind} {e b b' : Nat} {w : World} {ok : Nat → Prop} {v : Value} {xs : List Int} (h : (Kd.int k).R e w b ok v xs) (hb : ∀ k, v.ownBlock = some k → b' ≤ k) : (Kd.int k).R e w b' ok v xs :=
  Kd.R_raise (d := Kd.int k) (b := b) (b' := b') (fun _ _ _ _ h_ => h_) h hb
set_option maxHeartbeats 1000000 in
theorem markIntS_R (w0 w : World) (base : Nat) (ok : Nat → Prop) (m M : Int) (v : Value) (l : List Int) (hB : Below w0.heap.size w0 w) (hb : w0.heap.size ≤ base)
    (ho : (Kd.int .i64).R 3 w base ok v l) (h0 : 0 ≤ m) (h1 : m + (Ax.cntIntS l : Nat) = M ∧ M < 9223372036854775807) :
    Calls Try.prog 16 #[v, .int .i64 m] w fun e w' => e = .returned (.int .i64 M) ∧ (Kd.int .i64).R 3 w' base ok v (Ax.mkIntS l m) ∧ Below w0.heap.size w0 w' ∧ Kept w w' (fun k => some k = v.ownBlock) := by
  obtain ⟨rfl, hM⟩ := h1
  obtain ⟨k, hk⟩ := Ev.rounds (Ax.markIntS_ev l m h0 hM)
  refine (laws_markIntS.calls k (fun k => some k = v.ownBlock) v l m _ _ w0 w hB (Kd.R_lower (Kd.R_tight rfl ho) hb) hk).mono ?_
  rintro e w' ⟨rfl, h2, h3, h4⟩
  refine ⟨rfl, ?_, h3, h4⟩
  exact R_base_up (Kd.R_reok rfl h2 (fun k hk => ho.1 k hk)) (fun k hk => Kd.R_base ho k hk)
/-- Of a row's own block nothing but its bounds is told. -/
theorem own_in {α : Type} {d : Kd α} {e lo hi : Nat} {q : Nat → Prop} {w : World} {v : Value} {xs : List α} (o : Iv.Ob d e w lo hi q v xs) : ∀ k, some k = v.ownBlock → lo ≤ k ∧ k < hi := fun k hk => o.lo_le k hk.symm
set_option maxHeartbeats 1000000 in
theorem markIntS (w0 w : World) (lo hi : Nat) (m M : Int) (v : Value) (l : List Int) {q : Nat → Prop} (hB : Below w0.heap.size w0 w) (hlo : w0.heap.size ≤ lo) (o : Iv.Ob (Kd.int .i64) 3 w lo hi q v l) (h0 : 0 ≤ m) (h1 : m + (Ax.cntIntS l : Nat) = M ∧ M < 9223372036854775807) :
    Calls Try.prog 16 #[v, .int .i64 m] w fun e w' => e = .returned (.int .i64 M) ∧ Iv.Ob (Kd.int .i64) 3 w' lo hi q v (Ax.mkIntS l m) ∧ Below w0.heap.size w0 w' ∧ Kept w w' (fun k => lo ≤ k ∧ k < hi) := by
  refine (markIntS_R w0 w lo _ m M v l hB hlo o.R h0 h1).mono ?_
  rintro e w' ⟨rfl, h2, h3, h4⟩
  refine ⟨rfl, ⟨Kd.S_bare (d := Kd.int .i64) (show (Kd.bare (Kd.int .i64)).R 3 w' lo _ v _ from h2), Nat.le_trans o.2 h4.1⟩, h3, h4.mono (own_in o)⟩
set_option maxHeartbeats 4000000 in
set_option maxRecDepth 100000 in
theorem markIntSS_S (w0 w : World) (base : Nat) (ok : Nat → Prop) (m M : Int) (v : Value) (l : List (List Int)) (hB : Below w0.heap.size w0 w) (hb : w0.heap.size ≤ base)
    (ho : Kd.S (Kd.slice 3 (Kd.int .i64)) 23 w base ok v l) (h0 : 0 ≤ m) (h1 : m + (Ax.cntIntSS l : Nat) = M ∧ M < 9223372036854775807) :
    Calls Try.prog 22 #[v, .int .i64 m] w fun e w' => e = .returned (.int .i64 M) ∧ Kd.S (Kd.slice 3 (Kd.int .i64)) 23 w' base ok v (Ax.mkIntSS l m) ∧ Below w0.heap.size w0 w' ∧ Kept w w' ok := by
  obtain ⟨A, c, rfl⟩ := Kd.S_slice ho
  obtain ⟨rfl, hM⟩ := h1
  have HN := Aside0.mk (Kd.S_reads' ho).2.2.2.1
  have HO := Aside0.mk ho
  have HB := Aside0.mk hB
  have HBB := Aside0.mk hb
  have H0 := Aside0.mk h0
  have HM := Aside0.mk hM
  clear ho hB hb h0 hM
  go_enter Try.func22, Try.ntmps22
  go_wp2
  go_loopg [1, 5] (l.length + 1) (fun gg v1 v5 wr => ∃ (pre post : List (List Int)) (m1 : Int), v1 = .int .i64 m1 ∧ v5 = .int .i64 (pre.length : Nat) ∧ Aside0 (m1 = m + (Ax.cntIntSS pre : Nat)) ∧ Aside0 (l = pre ++ post) ∧ Aside0 (post.length + 1 ≤ gg) ∧
    Aside0 (Kd.S (Kd.slice 3 (Kd.int .i64)) 23 wr base ok (.slice A l.length c) (Ax.mkIntSS pre m ++ post)) ∧ Aside0 (Kept w wr ok) ∧ Aside0 (Below w0.heap.size w0 wr))
  case atStart => exact ⟨[], l, m, rfl, rfl, ⟨by simp [Ax.cntOf]⟩, ⟨rfl⟩, ⟨Nat.le_refl _⟩, HO, ⟨Kept.refl _ _⟩, HB⟩
  case round =>
    clear HO HB
    obtain ⟨pre, post, m1, rfl, rfl, HM1, HL, HG, HO, HK, HB⟩ := hrel
    cases post with
    | nil =>
      have hlen : l.length = pre.length := by rw [HL.out]; simp
      have h1 : ¬ ((pre.length : Nat) : Int) < (l.length : Int) := by omega
      have hE : pre = l := by rw [HL.out]; simp
      have HE := Aside0.mk hE
      clear hE hlen
      go_wp2
      go_ret
      refine ⟨?_, ?_, HB.out, HK.out⟩
      · rw [HM1.out, HE.out]
        rfl
      · have := HO.out
        rwa [HE.out, List.append_nil] at this
    | cons y post =>
      have hlen : l.length = pre.length + (post.length + 1) := by rw [HL.out]; simp
      have h1 : ((pre.length : Nat) : Int) < (l.length : Int) := by omega
      have hml : (Ax.mkIntSS pre m ++ y :: post).length = l.length := by rw [List.length_append, Ax.mkOf_length, hlen]; rfl
      obtain ⟨g, cap, hv, hg, hgl, _, _⟩ := Kd.S_form HO.out (by omega)
      injection hv with hv1 hv2 hv3
      subst hv1; subst hv3
      obtain ⟨oki, cs, hcl, hMd, hcc, hoki, hH⟩ := Kd.S_lend HO.out ([] : List Int) ((pre.length : Nat) : Int) (by omega) (by omega)
      obtain ⟨vi, rfl, hR⟩ := hMd
      have x0 := hcc 0 vi rfl
      simp only [Int.toNat_natCast, show (Kd.slice 3 (Kd.int .i64)).sz = 1 from rfl, Nat.mul_one, Nat.add_zero] at x0
      rw [Int.toNat_natCast, Ax.mkOf_at] at hR
      have hcnt : Ax.cntIntSS l = Ax.cntIntSS pre + (Ax.cntIntS y + Ax.cntIntSS post) := by rw [HL.out]; exact Ax.cntOf_append pre (y :: post)
      have hw5 : wrap64 (((pre.length : Nat) : Int) + 1) = ((pre.length + 1 : Nat) : Int) := Pl.wrap_succ (by have := HN.out; omega)
      have HW5 := Aside0.mk hw5
      have HOK := Aside0.mk hoki
      have HH := Aside0.mk hH
      have HLN := Aside0.mk hlen
      have hcall := markIntS_R w0 wr base oki m1 (m1 + (Ax.cntIntS y : Nat)) vi y HB.out HBB.out hR (by have := HM1.out; have := H0.out; omega) ⟨rfl, by have := HM1.out; have := HM.out; omega⟩
      have HR := Aside0.mk hR
      obtain ⟨Ai, ci, rfl⟩ := Kd.R_slice hR
      clear hw5 hoki hH hcc hml hlen hcnt hR hv2 hg hgl hcl
      go_wp2_with (first | (go_at_call 16; refine hcall.mono ?_; rintro e w2 ⟨rfl, hR2, hB2, hK2⟩; have HR2 := Aside0.mk hR2; have HB2 := Aside0.mk hB2; have HK2 := Aside0.mk hK2; clear hR2 hB2 hK2 hcall))
      go_roundg (post.length + 1)
      case measure => have := HG.out; simp at this; omega
      case rel =>
        have hsub : ∀ k, some k = (Value.slice Ai y.length ci).ownBlock → oki k := fun k hk => HR.out.1 k hk.symm
        refine ⟨pre ++ [y], post, _, rfl, ?_, ⟨?_⟩, ⟨?_⟩, ⟨Nat.le_refl _⟩, ⟨?_⟩, ⟨?_⟩, HB2⟩
        · rw [HW5.out]; simp
        · rw [HM1.out]; simp only [Ax.cntIntSS, Ax.cntOf_snoc]; omega
        · rw [HL.out]; simp
        · have hb2 := Kd.H_back (Kd.H_kept HH.out (S := fun k => some k = (Value.slice Ai y.length ci).ownBlock) HK2.out (fun k hk hn hs => hn (hsub k hs))) (x' := Ax.mkIntS y m1) (okp := oki) ⟨_, rfl, HR2.out⟩ (fun _ h => h)
          rw [Int.toNat_natCast, HM1.out, Ax.mkOf_set] at hb2
          exact hb2
        · exact HK.out.then_ HK2.out (fun k hk => .inl (HOK.out k (hsub k hk)).1)
theorem markIntSS (w0 w : World) (lo hi : Nat) (m M : Int) (v : Value) (l : List (List Int)) {q : Nat → Prop} (hB : Below w0.heap.size w0 w) (hlo : w0.heap.size ≤ lo) (o : Iv.Ob (Kd.slice 3 (Kd.int .i64)) 23 w lo hi q v l) (h0 : 0 ≤ m) (h1 : m + (Ax.cntIntSS l : Nat) = M ∧ M < 9223372036854775807) :
    Calls Try.prog 22 #[v, .int .i64 m] w fun e w' => e = .returned (.int .i64 M) ∧ Iv.Ob (Kd.slice 3 (Kd.int .i64)) 23 w' lo hi q v (Ax.mkIntSS l m) ∧ Below w0.heap.size w0 w' ∧ Kept w w' (fun k => lo ≤ k ∧ k < hi) := by
  refine (markIntSS_S w0 w lo _ m M v l hB hlo (Kd.S_bound o.1) h0 h1).mono ?_
  rintro e w' ⟨rfl, h2, h3, h4⟩
  exact ⟨rfl, ⟨Kd.S_mono h2 (fun k hk => hk.1), Nat.le_trans o.2 h4.1⟩, h3, h4.mono (fun k hk => ⟨hk.2.1, hk.1.1⟩)⟩
/-- A row of numbers that has been written: of its own block nothing else is told. -/
theorem ob_of {lo hi : Nat} {q : Nat → Prop} {w w' : World} {v : Value} {l l' : List Int} (o : Iv.Ob (Kd.int .i64) 3 w lo hi q v l) (h : (Kd.int .i64).R 3 w' lo (fun k => some k = v.ownBlock) v l') (hs : w.heap.size ≤ w'.heap.size) : Iv.Ob (Kd.int .i64) 3 w' lo hi q v l' :=
  ⟨Kd.S_bare (d := Kd.int .i64) (show (Kd.bare (Kd.int .i64)).R 3 w' lo _ v l' from Kd.R_reok rfl h (fun k hk => o.R.1 k hk)), Nat.le_trans o.2 hs⟩
theorem Ob_tight {lo hi : Nat} {q : Nat → Prop} {w : World} {v : Value} {l : List Int} (o : Iv.Ob (Kd.int .i64) 3 w lo hi q v l) : (Kd.int .i64).R 3 w lo (fun k => some k = v.ownBlock) v l := Kd.R_tight rfl o.R
end Go.Proofs.Ytlknbopddalinaa.Mk
