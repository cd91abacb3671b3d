/- Several small texts together: ATab, ABad. No condition but those they name. -/
import Derived.Test.YtdnidldinafakaaPr1
import Derived.Test.YtdnidldinafakaaPr7
import Derived.Test.YtdnidldinafakaaMerge0
import Derived.Test.YtdnidldinafakaaPr0
import Derived.Test.YtdnidldinafakaaPr8
/- Lists of columns by their numbers: finite tables. No condition. -/
namespace Go.Proofs.Ytdnidldinafakaa.Ax
open Go.RowKit Go.Proofs.Ytdnidldinafakaa.Pr Go.Proofs.Ytdnidldinafakaa.Pl Go.Proofs.YtdnidldinafakaaW.PrintWords Go.Proofs.YtdnidldinafakaaW.PrintLast Go.Proofs.YtdnidldinafakaaW.PrintMore
set_option linter.unusedVariables false
set_option linter.unusedSimpArgs false
def lo6 (x : Nat) : List Int := ((List.range 6).filter fun i => x.testBit i).map Int.ofNat
def sub6 (n : Nat) : List (List Int) := ((List.range (n + 1)).filter fun x => x &&& n == x).map lo6
set_option maxRecDepth 100000 in
theorem tab_list : ∀ n : Nat, n < 64 → spec_l5List.f 10 (n : Int) = some (lo6 n) := by decide +kernel
set_option maxRecDepth 100000 in
theorem tab_subs : ∀ n : Nat, n < 64 → impl_lists.f 600 (lo6 n) = some (sub6 n) := by decide +kernel
theorem tab_rise : ∀ x : Nat, x < 64 → (lo6 x).Pairwise (· < ·) := by decide +kernel
theorem Ev_if {α : Type} {c : Prop} [Decidable c] {g h : Nat → Option α} {r1 r2 : α} (h1 : Ev g r1) (h2 : Ev h r2) : Ev (fun k => if c then g k else h k) (if c then r1 else r2) := by
  by_cases hc : c
  · simp only [if_pos hc]
    exact h1
  · simp only [if_neg hc]
    exact h2
end Go.Proofs.Ytdnidldinafakaa.Ax

/- What badIn comes to on both sides. Conditions: good sentences. -/
namespace Go.Proofs.Ytdnidldinafakaa.Ax
open Go.RowKit Go.Proofs.Ytdnidldinafakaa.Pr Go.Proofs.Ytdnidldinafakaa.Pl Go.Proofs.YtdnidldinafakaaW.PrintWords Go.Proofs.YtdnidldinafakaaW.PrintLast Go.Proofs.YtdnidldinafakaaW.PrintMore
set_option linter.unusedVariables false
set_option linter.unusedSimpArgs false
set_option maxRecDepth 100000 in
theorem tab_num : ∀ n : Nat, n < 64 → spec_l6Number.f 10 (lo6 n) = some (n : Int) := by decide +kernel
set_option maxRecDepth 100000 in
theorem tab_bits : ∀ n : Nat, n < 64 → ∀ x : Nat, x < 64 → (decide (Go.bits .and .i64 (x : Int) (n : Int) = (x : Int)) = (x &&& n == x)) := by decide +kernel
theorem tab_all : ∀ b0 b1 b2 b3 b4 b5 : Bool, ∃ x, x < 64 ∧ (([0, 1, 2, 3, 4, 5] : List Int).filter fun i => if i = 0 then b0 else if i = 1 then b1 else if i = 2 then b2 else if i = 3 then b3 else if i = 4 then b4 else b5) = lo6 x := by decide +kernel
theorem tab_sub0 : ∀ n : Nat, n < 64 → ∀ x : Nat, x < 64 → (!(x &&& n == x) || (lo6 x).all fun e => (lo6 n).contains e) = true := by decide +kernel
theorem tab_sub (n : Nat) (hn : n < 64) (x : Nat) (hx : x < 64) (h : (x &&& n == x) = true) : ∀ e ∈ lo6 x, e ∈ lo6 n := by
  have := tab_sub0 n hn x hx
  rw [h] at this
  simpa using this
theorem p_lo6 {a : Int} {p : List Int} (h6 : a ≤ 6) (hp : GL a p) : ∃ x, x < 64 ∧ p = lo6 x := by
  have h : p = ([0, 1, 2, 3, 4, 5] : List Int).filter (fun i => decide (i ∈ p)) := by
    refine rising_uniq hp.1 (List.Pairwise.filter _ (by decide)) (fun x => ?_)
    simp only [List.mem_filter, decide_eq_true_eq]
    constructor
    · intro hx
      have := hp.2 x hx
      refine ⟨?_, hx⟩
      have h3 : x = 0 ∨ x = 1 ∨ x = 2 ∨ x = 3 ∨ x = 4 ∨ x = 5 := by omega
      simpa using h3
    · exact fun hx => hx.2
  obtain ⟨x, hx, e⟩ := tab_all (decide ((0 : Int) ∈ p)) (decide ((1 : Int) ∈ p)) (decide ((2 : Int) ∈ p)) (decide ((3 : Int) ∈ p)) (decide ((4 : Int) ∈ p)) (decide ((5 : Int) ∈ p))
  refine ⟨x, hx, h.trans (Eq.trans (List.filter_congr (fun i hi => ?_)) e)⟩
  simp only [List.mem_cons, List.not_mem_nil, or_false] at hi
  rcases hi with rfl | rfl | rfl | rfl | rfl | rfl <;> rfl
def cutOf (l : List S42) (p s : List Int) : List Int := p.filter fun x => (clo l s).contains x
def bad (l : List S42) (p : List Int) : List (List Int) → List Int × List Int × Bool
  | [] => ([], [], false)
  | s :: ss => if ((cutOf l p s).length : Int) > (s.length : Int) then (if ((cutOf l p s).length : Int) < (p.length : Int) then (s, (cutOf l p s).filter fun x => !s.contains x, true) else bad l p ss) else bad l p ss
theorem badI_l0 {a : Int} (h1 : 1 ≤ a) (h6 : a ≤ 6) {l : List S42} (hl : GDs a l) {p : List Int} (hp : p.length ≤ 6) (X : List (List Int)) (hX : X.length < 9223372036854775807) : ∀ (ys : List (List Int)) (j : Nat), X.drop j = ys → (∀ s ∈ ys, GL a s) →
    Ev (fun k => impl_badIn.l0 k l p X (X.length : Int) (j : Int)) (bad l p ys)
  | [], j, h, _ => by
    have := drop_nil h
    refine ev_succ ?_
    simp only [impl_badIn.l0, if_neg (show ¬ ((j : Int) < (X.length : Int)) by omega)]
    exact ev_now rfl
  | s :: ys, j, h, hs => by
    obtain ⟨hj, h2, h3⟩ := drop_cons h
    have ih := badI_l0 h1 h6 hl hp X hX ys (j + 1) h3 (fun x hx => hs x (by simp [hx]))
    have hsl := GL_len (by omega) (hs s (by simp))
    have hcl : (cutOf l p s).length ≤ p.length := List.length_filter_le _ _
    refine ev_succ ?_
    simp only [impl_badIn.l0, if_pos (show (j : Int) < (X.length : Int) by omega), if_pos (show (0 : Int) ≤ (j : Int) by omega), rd_L1_drop h, wrap_succ (show j < 9223372036854775807 by omega)]
    refine Ev.bind (icl_ev h1 h6 hl (hs s (by simp))) ?_
    simp only [impl_both.f, if_pos (show p.length * 8 ≤ 140737488355328 by omega), Option.bind_some]
    unfold bad
    refine Ev_if ?_ ?_
    · refine Ev_if ?_ ?_
      · simp only [impl_without.f, if_pos (show ((p.filter fun x => (clo l s).contains x)).length * 8 ≤ 140737488355328 by unfold cutOf at hcl; omega), Option.bind_some]
        exact ev_now rfl
      · exact ih
    · exact ih
theorem badS_l0 {a : Int} (h1 : 1 ≤ a) (h6 : a ≤ 6) {l : List S42} (hl : GDs a l) {N : Nat} (hN : N < 64) (hp : GL a (lo6 N)) : ∀ (m j : Nat), j + m = N + 1 →
    Ev (fun k => spec_l6Bad.l0 k l (lo6 N) (N : Int) (j : Int)) (bad l (lo6 N) (((List.range' j m).filter fun x => x &&& N == x).map lo6))
  | 0, j, h => by
    refine ev_succ ?_
    simp only [spec_l6Bad.l0, if_neg (show ¬ ((j : Int) ≤ (N : Int)) by omega)]
    exact ev_now rfl
  | m + 1, j, h => by
    have ih := badS_l0 h1 h6 hl hN hp m (j + 1) (by omega)
    have hb := tab_bits N hN j (by omega)
    refine ev_succ ?_
    simp only [spec_l6Bad.l0, if_pos (show (j : Int) ≤ (N : Int) by omega), wrap_succ (show j < 9223372036854775807 by omega)]
    rw [List.range'_succ, List.filter_cons]
    cases e : (j &&& N == j) with
    | false =>
      rw [e] at hb
      simp only [if_neg (of_decide_eq_false hb), Bool.false_eq_true, if_false]
      exact ih
    | true =>
      rw [e] at hb
      have hs : GL a (lo6 j) := ⟨tab_rise j (by omega), fun x hx => hp.2 x (tab_sub N hN j (by omega) e x hx)⟩
      have hsl := GL_len (by omega) hs
      have hpl := GL_len (by omega) hp
      have hcl := GL_len (by omega) (clo_GL hl hs)
      have hct : (cutOf l (lo6 N) (lo6 j)).length ≤ (lo6 N).length := List.length_filter_le _ _
      simp only [if_pos (of_decide_eq_true hb), if_true, List.map_cons]
      refine Ev.bind (Ev.of (fun k => spec_l5List.mono _ k) (tab_list j (by omega))) ?_
      refine Ev.bind (scl_ev h1 h6 hl hs) ?_
      refine Ev.bind (l6Both_ev (lo6 N) (clo l (lo6 j)) (by omega) (by omega)) ?_
      unfold bad
      refine Ev_if ?_ ?_
      · refine Ev_if ?_ ?_
        · exact Ev.bind (l6Less_ev (cutOf l (lo6 N) (lo6 j)) (lo6 j) (by omega) (by omega)) (ev_now rfl)
        · exact ih
      · exact ih
end Go.Proofs.Ytdnidldinafakaa.Ax
