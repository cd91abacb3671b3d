/- The marks in a row of table rows of the call's own (a key and a list of values each): contract. Conditions: marks that Go can hold. -/
import Derived.Test.YtfafegglmmkmbaaPr0
import Derived.Test.YtfafegglmmkmbaaPr2
import Derived.Test.YtfafegglmmkmbaaIv
import Derived.Test.YtfafegglmmkmbaaMkA
import Derived.Test.YtfafegglmmkmbaaCv
namespace Go.Proofs.Ytfafegglmmkmbaa.Ax
open Go.Proofs.Ytfafegglmmkmbaa.Pr
set_option linter.unusedVariables false
def cntValueS (l : List S25) : Nat := 2 * l.length
def mkValueS (l : List S25) (m : Int) : List S25 := mkValue l.length m
def cW (r : S65) : Nat := 1 + cntValueS r.f1
def mW (r : S65) (m : Int) : S65 := ⟨m, mkValueS r.f1 (m + 1)⟩
abbrev cntRowS : List S65 → Nat := cntOf cW
abbrev mkRowS : List S65 → Int → List S65 := mkOf cW mW
end Go.Proofs.Ytfafegglmmkmbaa.Ax
namespace Go.Proofs.Ytfafegglmmkmbaa.Mk
open Go.RowKit Go.Proofs.Ytfafegglmmkmbaa Go.Proofs.Ytfafegglmmkmbaa.Pr Go.Proofs.Ytfafegglmmkmbaa.Pl Go.Proofs.YtfafegglmmkmbaaW.PrintWords Go.Proofs.YtfafegglmmkmbaaW.PrintLast Go.Proofs.YtfafegglmmkmbaaW.PrintMore
set_option linter.unusedVariables false
set_option linter.unusedSimpArgs false
set_option maxHeartbeats 1000000 in
theorem markValueS_R (w0 w : World) (base : Nat) (ok : Nat → Prop) (m M : Int) (v : Value) (l : List S25) (hB : Below w0.heap.size w0 w) (hb : w0.heap.size ≤ base)
    (ho : k25.R 25 w base ok v l) (h0 : 0 ≤ m) (h1 : m + (Ax.cntValueS l : Nat) = M ∧ M < 9223372036854775807) :
    Calls Try.prog 24 #[v, .int .i64 m] w fun e w' => e = .returned (.int .i64 M) ∧ k25.R 25 w' base ok v (Ax.mkValueS l m) ∧ Below w0.heap.size w0 w' ∧ Kept w w' (fun k => some k = v.ownBlock) := by
  obtain ⟨rfl, hM⟩ := h1
  have hcv : (Ax.cntValueS l : Int) = 2 * (l.length : Int) := by simp [Ax.cntValueS]
  obtain ⟨k, hk⟩ := Ev.rounds (Ax.markValueS_ev l m h0 (by omega))
  refine (laws_markValueS.calls k (fun k => some k = v.ownBlock) v l m _ _ w0 w hB (Kd.R_lower (Kd.R_tight rfl ho) hb) hk).mono ?_
  rintro e w' ⟨rfl, h2, h3, h4⟩
  refine ⟨by rw [hcv], ?_, h3, h4⟩
  have h5 := Kd.R_reok (ok := ok) rfl h2 (fun k hk => ho.1 k hk)
  exact Kd.R_raise (d := k25) (b := w0.heap.size) (b' := base) (fun _ _ _ _ h_ => h_) h5 (fun k hk => Kd.R_base ho k hk)
set_option maxHeartbeats 4000000 in
set_option maxRecDepth 100000 in
theorem markRowS_S (w0 w : World) (base : Nat) (ok : Nat → Prop) (m M : Int) (v : Value) (l : List S65) (hB : Below w0.heap.size w0 w) (hb : w0.heap.size ≤ base)
    (ho : Kd.S k65 65 w base ok v l) (h0 : 0 ≤ m) (h1 : m + (Ax.cntRowS l : Nat) = M ∧ M < 9223372036854775807) :
    Calls Try.prog 19 #[v, .int .i64 m] w fun e w' => e = .returned (.int .i64 M) ∧ Kd.S k65 65 w' base ok v (Ax.mkRowS l m) ∧ Below w0.heap.size w0 w' ∧ Kept w w' ok := by
  obtain ⟨A, c, rfl⟩ := Kd.S_slice ho
  obtain ⟨rfl, hM⟩ := h1
  have HN := Aside0.mk (Kd.S_reads' ho).2.2.2.1
  have HO := Aside0.mk ho
  have HB := Aside0.mk hB
  have HBB := Aside0.mk hb
  have H0 := Aside0.mk h0
  have HM := Aside0.mk hM
  clear ho hB hb h0 hM
  go_enter Try.func19, Try.ntmps19
  go_wp2
  go_loopg [1, 5] (l.length + 1) (fun gg v1 v5 wr => ∃ (pre post : List S65) (m1 : Int), v1 = .int .i64 m1 ∧ v5 = .int .i64 (pre.length : Nat) ∧ Aside0 (m1 = m + (Ax.cntRowS pre : Nat)) ∧ Aside0 (l = pre ++ post) ∧ Aside0 (post.length + 1 ≤ gg) ∧
    Aside0 (Kd.S k65 65 wr base ok (.slice A l.length c) (Ax.mkRowS pre m ++ post)) ∧ Aside0 (Kept w wr ok) ∧ Aside0 (Below w0.heap.size w0 wr))
  case atStart => exact ⟨[], l, m, rfl, rfl, ⟨by simp [Ax.cntOf]⟩, ⟨rfl⟩, ⟨Nat.le_refl _⟩, HO, ⟨Kept.refl _ _⟩, HB⟩
  case round =>
    clear HO HB
    obtain ⟨pre, post, m1, rfl, rfl, HM1, HL, HG, HO, HK, HB⟩ := hrel
    cases post with
    | nil =>
      have hlen : l.length = pre.length := by rw [HL.out]; simp
      have h1 : ¬ ((pre.length : Nat) : Int) < (l.length : Int) := by omega
      have hE : pre = l := by rw [HL.out]; simp
      have HE := Aside0.mk hE
      clear hE hlen
      go_wp2
      go_ret
      refine ⟨?_, ?_, HB.out, HK.out⟩
      · rw [HM1.out, HE.out]
        rfl
      · have := HO.out
        rwa [HE.out, List.append_nil] at this
    | cons y post =>
      have hlen : l.length = pre.length + (post.length + 1) := by rw [HL.out]; simp
      have h1 : ((pre.length : Nat) : Int) < (l.length : Int) := by omega
      have hml : (Ax.mkRowS pre m ++ y :: post).length = l.length := by rw [List.length_append, Ax.mkOf_length, hlen]; rfl
      obtain ⟨g, cap, hv, hg, hgl, _, _⟩ := Kd.S_form HO.out (by omega)
      injection hv with hv1 hv2 hv3
      subst hv1; subst hv3
      obtain ⟨oki, cs, hcl, hMd, hcc, hfr, hoki, hH⟩ := Kd.S_elem HO.out (z65 : S65) ((pre.length : Nat) : Int) (by omega) (by omega)
      rw [Int.toNat_natCast, Ax.mkOf_at] at hMd
      obtain ⟨v1, rfl, hR1⟩ := k65_openM hMd
      have x0 := hcc 0 _ rfl
      have x1 := hcc 1 _ rfl
      have f0 := hfr 0
      simp only [Int.toNat_natCast, show k65.sz = 2 from rfl, Nat.add_zero] at x0 x1 f0
      have hcnt : Ax.cntRowS l = Ax.cntRowS pre + (Ax.cW y + Ax.cntRowS post) := by rw [HL.out]; exact Ax.cntOf_append pre (y :: post)
      have hcy : Ax.cW y = 1 + Ax.cntValueS y.f1 := rfl
      have hw5 : wrap64 (((pre.length : Nat) : Int) + 1) = ((pre.length + 1 : Nat) : Int) := Pl.wrap_succ (by have := HN.out; omega)
      have hw1 : wrap64 (m1 + 1) = m1 + 1 := Pl.wrap_in (by have := HM1.out; have := H0.out; omega) (by have := HM1.out; have := HM.out; omega)
      have hseg := Kd.H_seg hH (Int.natCast_nonneg _) h1 (seg := [.int .i64 m1]) (j := 0) (show 0 + 1 ≤ 2 by omega) (by simp [Value.oneCell'])
      rw [Int.toNat_natCast, show wr.setCells g (pre.length * k65.sz + 0) [.int .i64 m1] = wr.setCell ⟨g, pre.length * 2, none⟩ (.int .i64 m1) from rfl, show List.take 0 [Value.int .i64 y.f0, v1] ++ [Value.int .i64 m1] ++ List.drop (0 + [Value.int .i64 m1].length) [Value.int .i64 y.f0, v1] = [.int .i64 m1, v1] from rfl] at hseg
      obtain ⟨hH2, hgr⟩ := hseg
      have hgo : ∀ k, oki k → ok k ∧ k ≠ g := hoki
      have hgok : ok g := by
        have := (Kd.S_R HO.out).1 g rfl
        exact this
      have hB1 : Below w0.heap.size w0 (wr.setCell ⟨g, pre.length * 2, none⟩ (.int .i64 m1)) := below_set HB.out (Nat.le_trans HBB.out hg)
      have hK1 : Kept w (wr.setCell ⟨g, pre.length * 2, none⟩ (.int .i64 m1)) ok := Kept.setCell HK.out (.inl hgok) _
      have hR2 : k25.R 25 (wr.setCell ⟨g, pre.length * 2, none⟩ (.int .i64 m1)) base oki v1 y.f1 := Kd.R_far hR1 (fun k hk => (hoki k hk).2) _
      have x1b : (wr.setCell ⟨g, pre.length * 2, none⟩ (.int .i64 m1)).cell? ⟨g, pre.length * 2 + 1, none⟩ = some v1 := (World.cell?_setCell_other _ _ _ _ (by intro h_; injection h_ with _ h_ _; omega)).trans x1
      have hcall := markValueS_R w0 _ base oki (m1 + 1) (m1 + 1 + (Ax.cntValueS y.f1 : Nat)) v1 y.f1 hB1 HBB.out hR2 (by have := HM1.out; have := H0.out; omega) ⟨rfl, by have := HM1.out; have := HM.out; omega⟩
      obtain ⟨Ai, ci, rfl⟩ := Kd.R_slice hR1
      have HW5 := Aside0.mk hw5
      have HH2 := Aside0.mk hH2
      have HOK := Aside0.mk hoki
      have HK1 := Aside0.mk hK1
      have HR1 := Aside0.mk hR1
      have HC := Aside0.mk hcall
      have HCY := Aside0.mk hcy
      clear hw5 hH2 hoki hK1 hR1 hcall hcy hcc hfr hH hgr hgo hgok hB1 hR2 hcnt hml hlen hcl hg hgl hv2 hMd
      go_wp2_with (first | (go_at_call 24; refine HC.out.mono ?_; clear HC; rintro e w2 ⟨rfl, hR3, hB3, hK3⟩; have HR3 := Aside0.mk hR3; have HB3 := Aside0.mk hB3; have HK3 := Aside0.mk hK3; clear hR3 hB3 hK3))
      go_roundg (post.length + 1)
      case measure => have := HG.out; simp at this; omega
      case rel =>
        have hs1 : ∀ k, some k = (Value.slice Ai y.f1.length ci).ownBlock → oki k := fun k hk => HR1.out.1 k hk.symm
        refine ⟨pre ++ [y], post, _, rfl, ?_, ⟨?_⟩, ⟨?_⟩, ⟨Nat.le_refl _⟩, ⟨?_⟩, ⟨?_⟩, HB3⟩
        · rw [HW5.out]; simp
        · rw [HM1.out]; simp only [Ax.cntRowS, Ax.cntOf_snoc, HCY.out]; omega
        · rw [HL.out]; simp
        · have hb2 := Kd.H_back (Kd.H_kept HH2.out HK3.out (fun k hk hn hs => hn (hs1 k hs))) (x' := Ax.mW y m1) (okp := oki) (k65_mkM _ _ _ (Ax.mW y m1) HR3.out) (fun _ h => h)
          rw [Int.toNat_natCast, HM1.out, Ax.mkOf_set] at hb2
          exact hb2
        · exact HK1.out.then_ HK3.out (fun k hk => .inl (HOK.out k (hs1 k hk)).1)
theorem markRowS (w0 w : World) (lo hi : Nat) (m M : Int) (v : Value) (l : List S65) {q : Nat → Prop} (hB : Below w0.heap.size w0 w) (hlo : w0.heap.size ≤ lo) (o : Iv.Ob k65 65 w lo hi q v l) (h0 : 0 ≤ m) (h1 : m + (Ax.cntRowS l : Nat) = M ∧ M < 9223372036854775807) :
    Calls Try.prog 19 #[v, .int .i64 m] w fun e w' => e = .returned (.int .i64 M) ∧ Iv.Ob k65 65 w' lo hi q v (Ax.mkRowS l m) ∧ Below w0.heap.size w0 w' ∧ Kept w w' (fun k => lo ≤ k ∧ k < hi) := by
  refine (markRowS_S w0 w lo _ m M v l hB hlo (Kd.S_bound o.1) h0 h1).mono ?_
  rintro e w' ⟨rfl, h2, h3, h4⟩
  exact ⟨rfl, ⟨Kd.S_mono h2 (fun k hk => hk.1), Nat.le_trans o.2 h4.1⟩, h3, h4.mono (fun k hk => ⟨hk.2.1, hk.1.1⟩)⟩
end Go.Proofs.Ytfafegglmmkmbaa.Mk
