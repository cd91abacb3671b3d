/- Several small texts together: Mx3, MkDS. No condition but those they name. -/
import Derived.Test.YtdnidldinafakaaPr0
import Derived.Test.YtdnidldinafakaaPr1
import Derived.Test.YtdnidldinafakaaACl
import Derived.Test.YtdnidldinafakaaMx10
import Derived.Test.YtdnidldinafakaaMx17
import Derived.Test.YtdnidldinafakaaPr5
import Derived.Test.YtdnidldinafakaaEToDepSA
/- Several small texts together: Mx0, A6i. No condition but those they name. -/
/- Several small texts together: A60, MkD0. No condition but those they name. -/
/- Good columns and sentences, told both ways. Conditions: lengths that Go can hold. -/
namespace Go.Proofs.Ytdnidldinafakaa.Ax
open Go.RowKit Go.Proofs.Ytdnidldinafakaa.Pr Go.Proofs.Ytdnidldinafakaa.Pl Go.Proofs.YtdnidldinafakaaW.PrintWords Go.Proofs.YtdnidldinafakaaW.PrintLast Go.Proofs.YtdnidldinafakaaW.PrintMore
set_option linter.unusedVariables false
set_option linter.unusedSimpArgs false
end Go.Proofs.Ytdnidldinafakaa.Ax

/- How many marks a sentence takes, and which. No condition. -/

namespace Go.Proofs.Ytdnidldinafakaa.Ax
set_option linter.unusedVariables false
open Go.Proofs.Ytdnidldinafakaa.Pr
abbrev cntDep (l0 l1 : List Int) : Nat := cntIntS l0 + cntIntS l1
abbrev mkDep_0 (l0 l1 : List Int) (m : Int) : List Int := mkIntS l0 m
abbrev mkDep_1 (l0 l1 : List Int) (m : Int) : List Int := mkIntS l1 (m + (cntIntS l0 : Nat))
end Go.Proofs.Ytdnidldinafakaa.Ax

/- Whether a dependency follows, in the reference. Conditions: lengths that Go can hold. -/
namespace Go.Proofs.Ytdnidldinafakaa.Ax
open Go.RowKit Go.Proofs.Ytdnidldinafakaa.Pr Go.Proofs.Ytdnidldinafakaa.Pl Go.Proofs.YtdnidldinafakaaW.PrintWords Go.Proofs.YtdnidldinafakaaW.PrintLast Go.Proofs.YtdnidldinafakaaW.PrintMore
set_option linter.unusedVariables false
set_option linter.unusedSimpArgs false
theorem implies_ev {a : Int} (h1 : 1 ≤ a) (h6 : a ≤ 6) {l : List S42} (hl : GDs a l) {f : List Int} (t : List Int) (hf : GL a f) : Ev (fun k => impl_implies.f k l f t) (sub t (clo l f)) := by
  simp only [impl_implies.f]
  refine Ev.bind (icl_ev h1 h6 hl hf) ?_
  simp only [impl_hasAll.f, Option.bind_some]
  exact ev_now rfl
end Go.Proofs.Ytdnidldinafakaa.Ax

/- The marks in a row of sentences of the call's own, whose lists lie apart: contract. Conditions: marks that Go can hold. -/
namespace Go.Proofs.Ytdnidldinafakaa.Ax
set_option linter.unusedVariables false
open Go.Proofs.Ytdnidldinafakaa.Pr
def cD (d : S42) : Nat := cntDep d.f0 d.f1
def mD (d : S42) (m : Int) : S42 := ⟨mkDep_0 d.f0 d.f1 m, mkDep_1 d.f0 d.f1 m⟩
abbrev cntDepS : List S42 → Nat := cntOf cD
abbrev mkDepS : List S42 → Int → List S42 := mkOf cD mD
end Go.Proofs.Ytdnidldinafakaa.Ax
namespace Go.Proofs.Ytdnidldinafakaa.Mk
open Go.RowKit Go.Proofs.Ytdnidldinafakaa Go.Proofs.Ytdnidldinafakaa.Pr Go.Proofs.Ytdnidldinafakaa.Pl Go.Proofs.YtdnidldinafakaaW.PrintWords Go.Proofs.YtdnidldinafakaaW.PrintLast Go.Proofs.YtdnidldinafakaaW.PrintMore
set_option linter.unusedVariables false
set_option linter.unusedSimpArgs false
set_option maxHeartbeats 4000000 in
set_option maxRecDepth 100000 in
theorem markDepS_S (w0 w : World) (base : Nat) (ok : Nat → Prop) (m M : Int) (v : Value) (l : List S42) (hB : Below w0.heap.size w0 w) (hb : w0.heap.size ≤ base)
    (ho : Kd.S kA 42 w base ok v l) (h0 : 0 ≤ m) (h1 : m + (Ax.cntDepS l : Nat) = M ∧ M < 9223372036854775807) :
    Calls Try.prog 11 #[v, .int .i64 m] w fun e w' => e = .returned (.int .i64 M) ∧ Kd.S kA 42 w' base ok v (Ax.mkDepS l m) ∧ Below w0.heap.size w0 w' ∧ Kept w w' ok := by
  obtain ⟨A, c, rfl⟩ := Kd.S_slice ho
  obtain ⟨rfl, hM⟩ := h1
  have HN := Aside0.mk (Kd.S_reads' ho).2.2.2.1
  have HO := Aside0.mk ho
  have HB := Aside0.mk hB
  have HBB := Aside0.mk hb
  have H0 := Aside0.mk h0
  have HM := Aside0.mk hM
  clear ho hB hb h0 hM
  go_enter Try.func11, Try.ntmps11
  go_wp2
  go_loopg [1, 5] (l.length + 1) (fun gg v1 v5 wr => ∃ (pre post : List S42) (m1 : Int), v1 = .int .i64 m1 ∧ v5 = .int .i64 (pre.length : Nat) ∧ Aside0 (m1 = m + (Ax.cntDepS pre : Nat)) ∧ Aside0 (l = pre ++ post) ∧ Aside0 (post.length + 1 ≤ gg) ∧
    Aside0 (Kd.S kA 42 wr base ok (.slice A l.length c) (Ax.mkDepS pre m ++ post)) ∧ Aside0 (Kept w wr ok) ∧ Aside0 (Below w0.heap.size w0 wr))
  case atStart => exact ⟨[], l, m, rfl, rfl, ⟨by simp [Ax.cntOf]⟩, ⟨rfl⟩, ⟨Nat.le_refl _⟩, HO, ⟨Kept.refl _ _⟩, HB⟩
  case round =>
    clear HO HB
    obtain ⟨pre, post, m1, rfl, rfl, HM1, HL, HG, HO, HK, HB⟩ := hrel
    cases post with
    | nil =>
      have hlen : l.length = pre.length := by rw [HL.out]; simp
      have h1 : ¬ ((pre.length : Nat) : Int) < (l.length : Int) := by omega
      have hE : pre = l := by rw [HL.out]; simp
      have HE := Aside0.mk hE
      clear hE hlen
      go_wp2
      go_ret
      refine ⟨?_, ?_, HB.out, HK.out⟩
      · rw [HM1.out, HE.out]
        rfl
      · have := HO.out
        rwa [HE.out, List.append_nil] at this
    | cons y post =>
      have hlen : l.length = pre.length + (post.length + 1) := by rw [HL.out]; simp
      have h1 : ((pre.length : Nat) : Int) < (l.length : Int) := by omega
      have hml : (Ax.mkDepS pre m ++ y :: post).length = l.length := by rw [List.length_append, Ax.mkOf_length, hlen]; rfl
      obtain ⟨g, cap, hv, hg, hgl, _, _⟩ := Kd.S_form HO.out (by omega)
      injection hv with hv1 hv2 hv3
      subst hv1; subst hv3
      obtain ⟨oki, cs, hcl, hMd, hcc, hoki, hH⟩ := Kd.S_lend HO.out (z42 : S42) ((pre.length : Nat) : Int) (by omega) (by omega)
      rw [Int.toNat_natCast, Ax.mkOf_at] at hMd
      obtain ⟨gt, c0_, c1_, rfl, ⟨v0, rfl, hR0⟩, ⟨v1, rfl, hR1⟩⟩ := hMd
      have x0 := hcc 0 v0 rfl
      have x1 := hcc 1 v1 rfl
      simp only [Int.toNat_natCast, show kA.sz = 2 from rfl, Nat.add_zero] at x0 x1
      have hcnt : Ax.cntDepS l = Ax.cntDepS pre + (Ax.cD y + Ax.cntDepS post) := by rw [HL.out]; exact Ax.cntOf_append pre (y :: post)
      have hcy : Ax.cD y = Ax.cntIntS y.f0 + Ax.cntIntS y.f1 := rfl
      have hw5 : wrap64 (((pre.length : Nat) : Int) + 1) = ((pre.length + 1 : Nat) : Int) := Pl.wrap_succ (by have := HN.out; omega)
      have HW5 := Aside0.mk hw5
      have HOK := Aside0.mk hoki
      have HH := Aside0.mk hH
      have HLN := Aside0.mk hlen
      have hcall := markIntS_R w0 wr base _ m1 (m1 + (Ax.cntIntS y.f0 : Nat)) v0 y.f0 HB.out HBB.out hR0 (by have := HM1.out; have := H0.out; omega) ⟨rfl, by have := HM1.out; have := HM.out; omega⟩
      have hcall2 := fun (W : World) (hB' : Below w0.heap.size w0 W) (h : (Kd.int .i64).R 3 W base (fun k => oki k ∧ gt k = true) v1 y.f1) => markIntS_R w0 W base _ (m1 + (Ax.cntIntS y.f0 : Nat)) (m1 + (Ax.cntIntS y.f0 : Nat) + (Ax.cntIntS y.f1 : Nat)) v1 y.f1 hB' HBB.out h (by have := HM1.out; have := H0.out; omega) ⟨rfl, by have := HM1.out; have := HM.out; omega⟩
      have HCY := Aside0.mk hcy
      have HR0 := Aside0.mk hR0
      have HR1 := Aside0.mk hR1
      obtain ⟨Ai, ci, rfl⟩ := Kd.R_slice hR0
      obtain ⟨Aj, cj, rfl⟩ := Kd.R_slice hR1
      have X1 := Aside0.mk x1
      have HC1 := Aside0.mk hcall
      have HC2 := Aside0.mk hcall2
      clear hw5 hoki hH hcc hml hlen hcnt hcy hR0 hR1 hv2 hg hgl hcl x1 hcall hcall2
      go_wp2_with (first | (go_at_call 31; refine HC1.out.mono ?_; clear HC1; rintro e w2 ⟨rfl, hR2, hB2, hK2⟩; have HR2 := Aside0.mk hR2; have HB2 := Aside0.mk hB2; have HK2 := Aside0.mk hK2; have x1 := cell_kept X1.out hK2 (fun hs => (HOK.out _ (HR0.out.1 _ hs.symm).1).2 rfl); clear hR2 hB2 hK2))
      go_wp2_with (first | (go_at_call 31; refine (HC2.out w2 HB2.out (Kd.R_kept HR1.out HK2.out (fun k hk hs => by have := (HR0.out.1 k hs.symm).2; rw [hk.2] at this; cases this))).mono ?_; clear HC2; rintro e w3 ⟨rfl, hR3, hB3, hK3⟩; have HR3 := Aside0.mk hR3; have HB3 := Aside0.mk hB3; have HK3 := Aside0.mk hK3; clear hR3 hB3 hK3))
      go_roundg (post.length + 1)
      case measure => have := HG.out; simp at this; omega
      case rel =>
        have hs0 : ∀ k, some k = (Value.slice Ai y.f0.length ci).ownBlock → oki k ∧ gt k = false := fun k hk => HR0.out.1 k hk.symm
        have hs1 : ∀ k, some k = (Value.slice Aj y.f1.length cj).ownBlock → oki k ∧ gt k = true := fun k hk => HR1.out.1 k hk.symm
        refine ⟨pre ++ [y], post, _, rfl, ?_, ⟨?_⟩, ⟨?_⟩, ⟨Nat.le_refl _⟩, ⟨?_⟩, ⟨?_⟩, HB3⟩
        · rw [HW5.out]; simp
        · rw [HM1.out]; simp only [Ax.cntDepS, Ax.cntOf_snoc, HCY.out]; omega
        · rw [HL.out]; simp
        · have k0 := Kd.R_kept HR2.out HK3.out (fun k hk hs => by have := (hs1 k hs).2; rw [hk.2] at this; cases this)
          have hb2 := Kd.H_back (Kd.H_kept (Kd.H_kept HH.out HK2.out (fun k hk hn hs => hn (hs0 k hs).1)) HK3.out (fun k hk hn hs => hn (hs1 k hs).1)) (x' := Ax.mD y m1) (okp := oki) (show kA.M w3 base oki (Ax.mD y m1) [Value.slice Ai y.f0.length ci, Value.slice Aj y.f1.length cj] from ⟨gt, [_], [_], rfl, ⟨_, rfl, k0⟩, ⟨_, rfl, HR3.out⟩⟩) (fun _ h => h)
          rw [Int.toNat_natCast, HM1.out, Ax.mkOf_set] at hb2
          exact hb2
        · exact (HK.out.then_ HK2.out (fun k hk => .inl (HOK.out k (hs0 k hk).1).1)).then_ HK3.out (fun k hk => .inl (HOK.out k (hs1 k hk).1).1)
theorem markDepS (w0 w : World) (lo hi : Nat) (m M : Int) (v : Value) (l : List S42) {q : Nat → Prop} (hB : Below w0.heap.size w0 w) (hlo : w0.heap.size ≤ lo) (o : Iv.Ob kA 42 w lo hi q v l) (h0 : 0 ≤ m) (h1 : m + (Ax.cntDepS l : Nat) = M ∧ M < 9223372036854775807) :
    Calls Try.prog 11 #[v, .int .i64 m] w fun e w' => e = .returned (.int .i64 M) ∧ Iv.Ob kA 42 w' lo hi q v (Ax.mkDepS l m) ∧ Below w0.heap.size w0 w' ∧ Kept w w' (fun k => lo ≤ k ∧ k < hi) := by
  refine (markDepS_S w0 w lo _ m M v l hB hlo (Kd.S_bound o.1) h0 h1).mono ?_
  rintro e w' ⟨rfl, h2, h3, h4⟩
  exact ⟨rfl, ⟨Kd.S_mono h2 (fun k hk => hk.1), Nat.le_trans o.2 h4.1⟩, h3, h4.mono (fun k hk => ⟨hk.2.1, hk.1.1⟩)⟩
end Go.Proofs.Ytdnidldinafakaa.Mk
