/- Several small texts together: Mx4, UCoverOf. No condition but those they name. -/
import Derived.Test.YtdnidldinafakaaPr12
import Derived.Test.YtdnidldinafakaaMx14
import Derived.Test.YtdnidldinafakaaCv
import Derived.Test.YtdnidldinafakaaMx16
import Derived.Test.YtdnidldinafakaaPr0
import Derived.Test.YtdnidldinafakaaPr9
import Derived.Test.YtdnidldinafakaaECoverOf
/- Several small texts together: Mx1, MkBDepS. No condition but those they name. -/
/- Several small texts together: MkB, MkBDep. No condition but those they name. -/
/- How many marks a value takes, and that those of numbers are found again. No condition. -/
namespace Go.Proofs.Ytdnidldinafakaa.Ax
open Go.RowKit Go.Proofs.Ytdnidldinafakaa.Pr Go.Proofs.Ytdnidldinafakaa.Pl Go.Proofs.YtdnidldinafakaaW.PrintWords Go.Proofs.YtdnidldinafakaaW.PrintLast Go.Proofs.YtdnidldinafakaaW.PrintMore
set_option linter.unusedVariables false
theorem cntIntS_bd {l : List Int} (h : BdIntS l) : cntIntS l ≤ 1048576 := h.1
theorem heldIntS_ev' (l : List Int) (m : Int) (h0 : 0 ≤ m) (hb : m + (cntIntS l : Nat) < 9223372036854775807) : Ev (fun k => laws_heldIntS.f k (mkIntS l m) m) (m + (cntIntS l : Nat)) := heldIntS_ev l.length m h0 hb
end Go.Proofs.Ytdnidldinafakaa.Ax

/- How many marks a sentence takes. No condition. -/

namespace Go.Proofs.Ytdnidldinafakaa.Ax
open Go.RowKit Go.Proofs.Ytdnidldinafakaa.Pr Go.Proofs.Ytdnidldinafakaa.Pl Go.Proofs.YtdnidldinafakaaW.PrintWords Go.Proofs.YtdnidldinafakaaW.PrintLast Go.Proofs.YtdnidldinafakaaW.PrintMore
set_option linter.unusedVariables false
theorem cntDep_bd {l0 l1 : List Int} (h0 : BdIntS l0) (h1 : BdIntS l1) : cntDep l0 l1 ≤ 2097152 := by
  have := cntIntS_bd h0
  have := cntIntS_bd h1
  unfold cntDep
  omega
end Go.Proofs.Ytdnidldinafakaa.Ax

/- How many marks a row of sentences takes. No condition. -/
namespace Go.Proofs.Ytdnidldinafakaa.Ax
open Go.RowKit Go.Proofs.Ytdnidldinafakaa.Pr Go.Proofs.Ytdnidldinafakaa.Pl Go.Proofs.YtdnidldinafakaaW.PrintWords Go.Proofs.YtdnidldinafakaaW.PrintLast Go.Proofs.YtdnidldinafakaaW.PrintMore
set_option linter.unusedVariables false
theorem cntDepS_bd {l : List S39} (h : BdDepS l) : cntDepS (l.map cvDep) ≤ 2199023255552 := by
  have h1 := cnt_le (c := cD) 2097152 (l.map cvDep) (fun x hx => by
    obtain ⟨y, hy, rfl⟩ := List.mem_map.1 hx
    exact cntDep_bd (h.2 y hy).1 (h.2 y hy).2)
  rw [List.length_map] at h1
  exact Nat.le_trans h1 (Nat.mul_le_mul_right 2097152 h.1)
def BdDS (y : List S42) : Prop := y.length ≤ 1048576 ∧ ∀ d ∈ y, BdIntS d.f0 ∧ BdIntS d.f1
theorem ok_DS {y : List S42} (h : BdDS y) : OkDepS y := ⟨by have := h.1; omega, fun d hd => ⟨ok_IntS (h.2 d hd).1, ok_IntS (h.2 d hd).2⟩⟩
theorem cntDS_bd {y : List S42} (h : BdDS y) : cntDepS y ≤ 2199023255552 :=
  Nat.le_trans (cnt_le (c := cD) 2097152 y (fun x hx => cntDep_bd (h.2 x hx).1 (h.2 x hx).2)) (Nat.mul_le_mul_right 2097152 h.1)
end Go.Proofs.Ytdnidldinafakaa.Ax

/- The law FnExactCoverOf: what both sides come to, over numbers and lists alone. No condition. -/
namespace Go.Proofs.Ytdnidldinafakaa.Pu
open Go.RowKit Go.Proofs.Ytdnidldinafakaa.Pr Go.Proofs.Ytdnidldinafakaa.Pl Go.Proofs.Ytdnidldinafakaa.Ax Go.Proofs.Ytdnidldinafakaa.Ops Go.Proofs.YtdnidldinafakaaW.PrintWords Go.Proofs.YtdnidldinafakaaW.PrintLast Go.Proofs.YtdnidldinafakaaW.PrintMore
set_option linter.unusedVariables false
set_option linter.unusedSimpArgs false
def covV : Nat → List S42 → Nat → List S42
  | 0, L, _ => L
  | n + 1, L, i => if i < L.length then (if sub (rd_T42 L (i : Int)).f1 (clo (L.eraseIdx i) (rd_T42 L (i : Int)).f0) = true then covV n (L.eraseIdx i) i else covV n L (i + 1)) else L
section
variable {a : Int} {L : List S42}
theorem GDs_erase (h : GDs a L) (i : Nat) : GDs a (L.eraseIdx i) := ⟨Nat.le_trans (List.length_eraseIdx_le _ _) h.1, fun d hd => h.2 d (List.mem_of_mem_eraseIdx hd)⟩
theorem rd_mem {i : Nat} (h : i < L.length) : rd_T42 L (i : Int) ∈ L := by
  simp only [rd_T42, Int.toNat_natCast, List.getD_eq_getElem?_getD, List.getElem?_eq_getElem h, Option.getD_some]
  exact List.getElem_mem h
end
theorem covV_GD {a : Int} : ∀ (n : Nat) (L : List S42) (i : Nat), GDs a L → GDs a (covV n L i)
  | 0, L, i, h => h
  | n + 1, L, i, h => by
    unfold covV
    split
    · split
      · exact covV_GD n _ _ (GDs_erase h i)
      · exact covV_GD n _ _ h
    · exact h
theorem covI_ev {a : Int} (h1 : 1 ≤ a) (h6 : a ≤ 6) : ∀ (n : Nat) (L : List S42) (i : Nat), GDs a L → L.length - i < n → Ev (fun k => cov1 k n L i) (covV n L i)
  | 0, L, i, hl, hn => absurd hn (Nat.not_lt_zero _)
  | n + 1, L, i, hl, hn => by
    simp only [cov1, covV]
    by_cases hi : i < L.length
    · simp only [if_pos hi]
      have hd := hl.2 _ (rd_mem hi)
      refine Ev.bind (implies_ev h1 h6 (GDs_erase hl i) _ hd.1) ?_
      cases e : sub (rd_T42 L (i : Int)).f1 (clo (L.eraseIdx i) (rd_T42 L (i : Int)).f0)
      · simp only [Bool.false_eq_true, if_false]
        exact covI_ev h1 h6 n L (i + 1) hl (by omega)
      · simp only [if_true]
        exact covI_ev h1 h6 n (L.eraseIdx i) i (GDs_erase hl i) (by rw [List.length_eraseIdx_of_lt hi]; omega)
    · simp only [if_neg hi]
      exact ev_now rfl
theorem covS_l1 {a : Int} {L : List S42} (h6 : a ≤ 6) (h1 : 1 ≤ a) (hl : GDs a L) : ∀ (ys : List S42) (j : Nat) (out : List S42), L.drop j = ys → out.length = j → Ev (fun k => spec_CoverOf.l1 k out L (L.length : Int) (j : Int)) (out ++ ys, true)
  | [], j, out, h, ho => by
    have h2 := drop_nil h
    refine ev_succ ?_
    simp only [spec_CoverOf.l1, if_neg (show ¬ ((j : Int) < (L.length : Int)) by omega)]
    exact ev_now (by simp)
  | y :: ys, j, out, h, ho => by
    obtain ⟨g1, g2, g3⟩ := drop_cons h
    have hb := hl.1
    have hy := hl.2 y (List.mem_of_getElem? g2)
    have b0 := GL_len (by omega) hy.1
    have b1 := GL_len (by omega) hy.2
    refine ev_succ ?_
    simp only [spec_CoverOf.l1, if_pos (show (j : Int) < (L.length : Int) by omega), if_pos (show (0 : Int) ≤ (j : Int) by omega), rd_T42_drop h, Option.bind_some, List.length_nil, Nat.zero_add, List.nil_append, if_pos (show y.f0.length < 17592186044416 by omega), if_pos (show y.f1.length < 17592186044416 by omega), if_pos (show out.length < 2932031007402 by omega), wrap_succ (show j < 9223372036854775807 by omega)]
    have ih := covS_l1 h6 h1 hl ys (j + 1) (out ++ [y]) g3 (by simp [ho])
    rw [List.append_assoc] at ih
    exact ih
theorem covS_l0 {a : Int} (h1 : 1 ≤ a) (h6 : a ≤ 6) {r : List S42 × Bool} : ∀ (n : Nat) (L : List S42) (i : Nat), GDs a L → L.length - i < n → i ≤ L.length → Ev (fun k => spec_CoverOf.l1 k [] (covV n L i) ((covV n L i).length : Int) 0) r → Ev (fun k => spec_CoverOf.l0 k L (i : Int)) r
  | 0, L, i, hl, hn, hi, hr => absurd hn (Nat.not_lt_zero _)
  | n + 1, L, i, hl, hn, hil, hr => by
    have hb := hl.1
    refine ev_succ ?_
    simp only [covV] at hr
    by_cases hi : i < L.length
    · simp only [if_pos hi] at hr
      have hd := hl.2 _ (rd_mem hi)
      have b0 := GL_len (by omega) hd.1
      have b1 := GL_len (by omega) hd.2
      have hE := GDs_erase hl i
      have hc := clo_GL hE hd.1
      have bc := GL_len (by omega) hc
      simp only [spec_CoverOf.l0, if_pos (show (i : Int) < (L.length : Int) by omega), if_pos (show (0 : Int) ≤ (i : Int) by omega), if_pos (show (i : Int) ≤ (L.length : Int) by omega), Option.bind_some, Int.toNat_natCast, List.length_nil, Nat.zero_add, List.nil_append, wrap_succ (show i < 9223372036854775807 by omega), if_pos (show (0 : Int) ≤ ((i + 1 : Nat) : Int) by omega), if_pos (show ((i + 1 : Nat) : Int) ≤ (L.length : Int) by omega), if_pos (show (L.take i).length < 2932031007402 by rw [List.length_take]; omega), if_pos (show (L.take i).length + (L.drop (i + 1)).length < 2932031007402 by rw [List.length_take, List.length_drop]; omega), ← List.eraseIdx_eq_take_drop_succ]
      refine Ev.bind (scl_ev h1 h6 hE hd.1) ?_
      refine Ev.bind (l5Sub_ev _ _ (by omega) (by omega)) ?_
      cases e : sub (rd_T42 L (i : Int)).f1 (clo (L.eraseIdx i) (rd_T42 L (i : Int)).f0)
      · simp only [e, Bool.false_eq_true, if_false] at hr ⊢
        exact covS_l0 h1 h6 n L (i + 1) hl (by omega) hi hr
      · simp only [e, if_true] at hr ⊢
        exact covS_l0 h1 h6 n (L.eraseIdx i) i hE (by rw [List.length_eraseIdx_of_lt hi]; omega) (by rw [List.length_eraseIdx_of_lt hi]; omega) hr
    · simp only [if_neg hi] at hr
      simp only [spec_CoverOf.l0, if_neg (show ¬ ((i : Int) < (L.length : Int)) by omega)]
      exact hr
theorem CoverOf_both (a : Int) (l : List S42) (hO : OkDepS l) : ∃ (y : List S42) (b : Bool), Ev (fun k => spec_CoverOf.f k a l) (y, b) ∧ Ev (fun k => impl_CoverOf.f k a l) (y, b) ∧ BdDS y := by
  cases e : gdV a l with
  | false =>
    refine ⟨[], false, ?_, ?_, ⟨by simp, by simp⟩⟩
    · simp only [spec_CoverOf.f]
      refine Ev.bind (sGD_ev a l hO) ?_
      rw [e]
      exact ev_now rfl
    · unfold impl_CoverOf.f
      simp only [impl_GoodDeps.f, Option.bind_some]
      rw [show (win a 1 6 && (decide (l.length ≤ 8) && l.all (okD a))) = false from e]
      exact ev_now rfl
  | true =>
    obtain ⟨⟨h1, h6⟩, hl⟩ := GDs_of e
    have hb := hl.1
    have hV := covV_GD (l.length + 1) l 0 hl
    refine ⟨covV (l.length + 1) l 0, true, ?_, ?_, ⟨by have := hV.1; omega, fun d hd => ?_⟩⟩
    · simp only [spec_CoverOf.f]
      refine Ev.bind (sGD_ev a l hO) ?_
      rw [e]
      simp only [if_true, Option.bind_some, List.length_nil, Nat.zero_add, List.nil_append, if_pos (show l.length < 2932031007402 by omega)]
      have := covS_l1 h6 h1 hV _ 0 [] rfl rfl
      rw [List.nil_append] at this
      exact covS_l0 h1 h6 (l.length + 1) l 0 hl (by omega) (Nat.zero_le _) this
    · unfold impl_CoverOf.f
      simp only [impl_GoodDeps.f, Option.bind_some]
      rw [show (win a 1 6 && (decide (l.length ≤ 8) && l.all (okD a))) = true from e]
      simp only [if_true]
      have hall : l.all covOk = true := by
        rw [List.all_eq_true]
        intro d hd
        have b0 := GL_len (by omega) (hl.2 d hd).1
        have b1 := GL_len (by omega) (hl.2 d hd).2
        simp only [covOk, Bool.and_eq_true, decide_eq_true_eq]
        omega
      simp only [if_pos (show (l.length + 1) * 48 ≤ 140737488355328 ∧ l.all covOk = true from ⟨by omega, hall⟩)]
      exact Ev.bind (covI_ev h1 h6 (l.length + 1) l 0 hl (by omega)) (ev_now rfl)
    · have b0 := GL_len (by omega) (hV.2 d hd).1
      have b1 := GL_len (by omega) (hV.2 d hd).2
      exact ⟨⟨by omega, fun _ _ => trivial⟩, ⟨by omega, fun _ _ => trivial⟩⟩
end Go.Proofs.Ytdnidldinafakaa.Pu
