/- The marks in rows of numbers of the call's own: contracts. Conditions: marks that Go can hold. -/
import Derived.Test.YtfafegglmmkmbaaPr2
import Derived.Test.YtfafegglmmkmbaaIv
import Derived.Test.YtfafegglmmkmbaaMkA
namespace Go.Proofs.Ytfafegglmmkmbaa.Mk
open Go.RowKit Go.Proofs.Ytfafegglmmkmbaa Go.Proofs.Ytfafegglmmkmbaa.Pr Go.Proofs.Ytfafegglmmkmbaa.Pl Go.Proofs.YtfafegglmmkmbaaW.PrintWords Go.Proofs.YtfafegglmmkmbaaW.PrintLast Go.Proofs.YtfafegglmmkmbaaW.PrintMore
set_option linter.unusedVariables false
set_option linter.unusedSimpArgs false
theorem R_base_up {k : IntKind} {e b b' : Nat} {w : World} {ok : Nat → Prop} {v : Value} {xs : List Int} (h : (Kd.int k).R e w b ok v xs) (hb : ∀ k, v.ownBlock = some k → b' ≤ k) : (Kd.int k).R e w b' ok v xs :=
  Kd.R_raise (d := Kd.int k) (b := b) (b' := b') (fun _ _ _ _ h_ => h_) h hb
set_option maxHeartbeats 1000000 in
theorem markIntS_R (w0 w : World) (base : Nat) (ok : Nat → Prop) (m M : Int) (v : Value) (l : List Int) (hB : Below w0.heap.size w0 w) (hb : w0.heap.size ≤ base)
    (ho : (Kd.int .i64).R 3 w base ok v l) (h0 : 0 ≤ m) (h1 : m + (Ax.cntIntS l : Nat) = M ∧ M < 9223372036854775807) :
    Calls Try.prog 20 #[v, .int .i64 m] w fun e w' => e = .returned (.int .i64 M) ∧ (Kd.int .i64).R 3 w' base ok v (Ax.mkIntS l m) ∧ Below w0.heap.size w0 w' ∧ Kept w w' (fun k => some k = v.ownBlock) := by
  obtain ⟨rfl, hM⟩ := h1
  obtain ⟨k, hk⟩ := Ev.rounds (Ax.markIntS_ev l m h0 hM)
  refine (laws_markIntS.calls k (fun k => some k = v.ownBlock) v l m _ _ w0 w hB (Kd.R_lower (Kd.R_tight rfl ho) hb) hk).mono ?_
  rintro e w' ⟨rfl, h2, h3, h4⟩
  refine ⟨rfl, ?_, h3, h4⟩
  exact R_base_up (Kd.R_reok rfl h2 (fun k hk => ho.1 k hk)) (fun k hk => Kd.R_base ho k hk)
/-- Of a row's own block nothing but its bounds is told. -/
theorem own_in {α : Type} {d : Kd α} {e lo hi : Nat} {q : Nat → Prop} {w : World} {v : Value} {xs : List α} (o : Iv.Ob d e w lo hi q v xs) : ∀ k, some k = v.ownBlock → lo ≤ k ∧ k < hi := fun k hk => o.lo_le k hk.symm
set_option maxHeartbeats 1000000 in
theorem markIntS (w0 w : World) (lo hi : Nat) (m M : Int) (v : Value) (l : List Int) {q : Nat → Prop} (hB : Below w0.heap.size w0 w) (hlo : w0.heap.size ≤ lo) (o : Iv.Ob (Kd.int .i64) 3 w lo hi q v l) (h0 : 0 ≤ m) (h1 : m + (Ax.cntIntS l : Nat) = M ∧ M < 9223372036854775807) :
    Calls Try.prog 20 #[v, .int .i64 m] w fun e w' => e = .returned (.int .i64 M) ∧ Iv.Ob (Kd.int .i64) 3 w' lo hi q v (Ax.mkIntS l m) ∧ Below w0.heap.size w0 w' ∧ Kept w w' (fun k => lo ≤ k ∧ k < hi) := by
  refine (markIntS_R w0 w lo _ m M v l hB hlo o.R h0 h1).mono ?_
  rintro e w' ⟨rfl, h2, h3, h4⟩
  refine ⟨rfl, ⟨Kd.S_bare (d := Kd.int .i64) (show (Kd.bare (Kd.int .i64)).R 3 w' lo _ v _ from h2), Nat.le_trans o.2 h4.1⟩, h3, h4.mono (own_in o)⟩
end Go.Proofs.Ytfafegglmmkmbaa.Mk
