/- The law FnExactSplitAll over numbers and lists alone. No condition. -/
import Derived.Test.YtdnidldinafakaaPr0
import Derived.Test.YtdnidldinafakaaPr1
import Derived.Test.YtdnidldinafakaaPr7
import Derived.Test.YtdnidldinafakaaPr8
import Derived.Test.YtdnidldinafakaaPr9
import Derived.Test.YtdnidldinafakaaMx5
import Derived.Test.YtdnidldinafakaaMx7
import Derived.Test.YtdnidldinafakaaESplitAll
namespace Go.Proofs.Ytdnidldinafakaa.Pu
open Go.RowKit Go.Proofs.Ytdnidldinafakaa.Pr Go.Proofs.Ytdnidldinafakaa.Pl Go.Proofs.Ytdnidldinafakaa.Ax Go.Proofs.Ytdnidldinafakaa.Ops Go.Proofs.YtdnidldinafakaaW.PrintWords Go.Proofs.YtdnidldinafakaaW.PrintLast Go.Proofs.YtdnidldinafakaaW.PrintMore
set_option linter.unusedVariables false
set_option linter.unusedSimpArgs false
set_option linter.unusedSectionVars false
theorem tab_cols : ∀ n : Nat, n < 7 → impl_allColumns.f 10 (n : Int) = some (lo6 (2 ^ n - 1)) := by decide +kernel
theorem tab_shl : ∀ n : Nat, n < 7 → 0 ≤ IntKind.u64.wrap (n : Int) ∧ shl .i64 1 (IntKind.u64.wrap (n : Int)) = ((2 ^ n : Nat) : Int) := by decide +kernel
theorem tab_mem : ∀ x : Nat, x < 64 → ∀ n : Nat, n < 7 → x < 2 ^ n → lo6 x = ((List.range n).filter fun i => x.testBit i).map Int.ofNat := by decide +kernel
theorem tab_pow : ∀ n : Nat, n < 7 → 1 ≤ 2 ^ n ∧ 2 ^ n ≤ 64 := by decide +kernel
theorem lo6_GL {n : Nat} (hn : n < 7) {x : Nat} (hx : x < 2 ^ n) : GL (n : Int) (lo6 x) := by
  have h64 := tab_pow n hn
  refine ⟨tab_rise x (by omega), fun y hy => ?_⟩
  rw [tab_mem x (by omega) n hn hx] at hy
  obtain ⟨i, hi, rfl⟩ := List.mem_map.1 hy
  have := List.mem_range.1 (List.mem_filter.1 hi).1
  exact ⟨Int.natCast_nonneg i, by show (i : Int) < n; omega⟩
def numOf (p : List Int) : Nat := ((List.range 64).find? fun x => lo6 x == p).getD 0
theorem numOf_spec {a : Int} {p : List Int} (h6 : a ≤ 6) (hp : GL a p) : numOf p < 64 ∧ p = lo6 (numOf p) := by
  obtain ⟨x, hx, he⟩ := p_lo6 h6 hp
  unfold numOf
  cases e : (List.range 64).find? fun x => lo6 x == p with
  | none =>
    have := List.find?_eq_none.1 e x (List.mem_range.2 hx)
    simp [he] at this
  | some y =>
    have h1 := List.find?_some e
    have h2 := List.mem_range.1 (List.mem_of_find?_eq_some e)
    exact ⟨h2, (eq_of_beq h1).symm⟩
def badP (l : List S42) (p : List Int) : List Int × List Int × Bool := bad l p (sub6 (numOf p))
def part1 (l : List S42) (p : List Int) : List Int := puts (badP l p).1 (badP l p).2.1
def part2 (l : List S42) (p : List Int) : List Int := p.filter fun x => !(badP l p).2.1.contains x
theorem bad_true (l : List S42) (p : List Int) : ∀ ss : List (List Int), (bad l p ss).2.2 = true → ∃ s ∈ ss, bad l p ss = (s, (cutOf l p s).filter (fun x => !s.contains x), true) ∧ s.length < (cutOf l p s).length ∧ (cutOf l p s).length < p.length
  | [], h => by simp [bad] at h
  | s :: ss, h => by
    have ih := bad_true l p ss
    unfold bad at h ⊢
    by_cases c1 : ((cutOf l p s).length : Int) > (s.length : Int)
    · rw [if_pos c1] at h ⊢
      by_cases c2 : ((cutOf l p s).length : Int) < (p.length : Int)
      · rw [if_pos c2]
        exact ⟨s, by simp, rfl, by omega, by omega⟩
      · rw [if_neg c2] at h ⊢
        obtain ⟨s', h1, h2⟩ := ih h
        exact ⟨s', by simp [h1], h2⟩
    · rw [if_neg c1] at h ⊢
      obtain ⟨s', h1, h2⟩ := ih h
      exact ⟨s', by simp [h1], h2⟩
section
variable {a : Int} {l : List S42} (h1 : 1 ≤ a) (h6 : a ≤ 6) (hl : GDs a l)
include h1 h6 hl
theorem sub6_GL {p : List Int} (hp : GL a p) : ∀ s ∈ sub6 (numOf p), GL a s ∧ ∀ y ∈ s, y ∈ p := fun s hs => by
  obtain ⟨hN, he⟩ := numOf_spec h6 hp
  unfold sub6 at hs
  obtain ⟨x, hx, rfl⟩ := List.mem_map.1 hs
  obtain ⟨hx1, hx2⟩ := List.mem_filter.1 hx
  have := List.mem_range.1 hx1
  have hs2 := tab_sub (numOf p) hN x (by omega) hx2
  rw [← he] at hs2
  exact ⟨⟨tab_rise x (by omega), fun y hy => hp.2 y (hs2 y hy)⟩, hs2⟩
theorem badI_ev {p : List Int} (hp : GL a p) : Ev (fun k => impl_badIn.f k l p) (badP l p) := by
  obtain ⟨hN, he⟩ := numOf_spec h6 hp
  have hpl := GL_len (by omega) hp
  have hXl : (sub6 (numOf p)).length ≤ 64 := by
    unfold sub6
    rw [List.length_map]
    have := List.length_filter_le (fun x => x &&& numOf p == x) (List.range (numOf p + 1))
    rw [List.length_range] at this
    omega
  have sI := badI_l0 h1 h6 hl (show p.length ≤ 6 by omega) (sub6 (numOf p)) (by omega) (sub6 (numOf p)) 0 rfl (fun s hs => (sub6_GL h1 h6 hl hp s hs).1)
  have hs := tab_subs (numOf p) hN
  rw [← he] at hs
  simp only [impl_badIn.f]
  exact Ev.bind (Ev.of (fun k => impl_lists.mono _ k) hs) sI
theorem badS_ev {p : List Int} (hp : GL a p) : Ev (fun k => spec_l6Bad.f k l p) (badP l p) := by
  obtain ⟨hN, he⟩ := numOf_spec h6 hp
  have hp' := hp
  rw [he] at hp'
  have sS := badS_l0 h1 h6 hl hN hp' (numOf p + 1) 0 (by omega)
  rw [show (List.range' 0 (numOf p + 1)) = List.range (numOf p + 1) from List.range_eq_range'.symm, ← he] at sS
  have hn := tab_num (numOf p) hN
  rw [← he] at hn
  simp only [spec_l6Bad.f]
  exact Ev.bind (Ev.of (fun k => spec_l6Number.mono _ k) hn) sS
theorem badP_ok {p : List Int} (hp : GL a p) (hb : (badP l p).2.2 = true) : GL a (badP l p).1 ∧ GL a (badP l p).2.1 ∧ GL a (part1 l p) ∧ GL a (part2 l p) ∧ (part1 l p).length < p.length ∧ (part2 l p).length < p.length := by
  obtain ⟨s, hs, e, k1, k2⟩ := bad_true l p (sub6 (numOf p)) hb
  obtain ⟨hsG, hsp⟩ := sub6_GL h1 h6 hl hp s hs
  have hcG : GL a (cutOf l p s) := filter_GL _ hp
  have hsc : ∀ x ∈ s, x ∈ cutOf l p s := fun x hx => List.mem_filter.2 ⟨hsp x hx, by
    have : x ∈ clo l s := (cloN_GL hl.2 7 s hsG).2 x hx
    simpa using this⟩
  have htG : GL a ((cutOf l p s).filter fun x => !s.contains x) := filter_GL _ hcG
  have e' : badP l p = (s, (cutOf l p s).filter (fun x => !s.contains x), true) := e
  have hp1 : part1 l p = puts s ((cutOf l p s).filter fun x => !s.contains x) := by unfold part1; rw [e']
  have hp2 : part2 l p = p.filter fun x => !((cutOf l p s).filter fun x => !s.contains x).contains x := by unfold part2; rw [e']
  rw [hp1, hp2, e']
  refine ⟨hsG, htG, puts_GL hsG htG, filter_GL _ hp, ?_, ?_⟩
  · refine Nat.lt_of_le_of_lt (sub_len (puts_GL hsG htG).1 hcG.1 (fun x hx => ?_)) k2
    rcases (mem_puts x _ _).1 hx with h | h
    · exact hsc x h
    · exact (List.mem_filter.1 h).1
  · obtain ⟨y, hy, hyn⟩ : ∃ y ∈ cutOf l p s, y ∉ s := by
      refine Classical.byContradiction fun hno => ?_
      have : ∀ y ∈ cutOf l p s, y ∈ s := fun y hy => Classical.byContradiction fun h => hno ⟨y, hy, h⟩
      have := sub_len hcG.1 hsG.1 this
      omega
    refine sub_lt (y := y) (filter_GL _ hp).1 hp.1 (fun x hx => (List.mem_filter.1 hx).1) (List.mem_filter.1 hy).1 (fun hn => ?_)
    have h2 := (List.mem_filter.1 hn).2
    have h3 : y ∈ (cutOf l p s).filter fun x => !s.contains x := List.mem_filter.2 ⟨hy, by simpa using hyn⟩
    simp only [Bool.not_eq_true', List.contains_eq_mem, decide_eq_false_iff_not] at h2
    exact h2 (by simpa using h3)
end
def fin (l : List S42) : Nat → List Int → List (List Int)
  | 0, p => [p]
  | n + 1, p => if (badP l p).2.2 = true then fin l n (part1 l p) ++ fin l n (part2 l p) else [p]
theorem fin_len (l : List S42) : ∀ (n : Nat) (p : List Int), (fin l n p).length ≤ 2 ^ n
  | 0, p => by simp [fin]
  | n + 1, p => by
    have i1 := fin_len l n (part1 l p)
    have i2 := fin_len l n (part2 l p)
    have : 2 ^ (n + 1) = 2 ^ n + 2 ^ n := by rw [Nat.pow_succ]; omega
    have hp : 0 < 2 ^ n := Nat.pos_of_ne_zero (by simp)
    unfold fin
    split
    · rw [List.length_append]; omega
    · simp only [List.length_cons, List.length_nil]; omega
section
variable {a : Int} {l : List S42} (h1 : 1 ≤ a) (h6 : a ≤ 6) (hl : GDs a l)
include h1 h6 hl
theorem fin_GL : ∀ (n : Nat) (p : List Int), GL a p → ∀ s ∈ fin l n p, GL a s
  | 0, p, hp, s, hs => by
    simp only [fin, List.mem_singleton] at hs
    rw [hs]; exact hp
  | n + 1, p, hp, s, hs => by
    unfold fin at hs
    split at hs
    · rename_i hb
      obtain ⟨_, _, g1, g2, _⟩ := badP_ok h1 h6 hl hp hb
      rcases List.mem_append.1 hs with h | h
      · exact fin_GL n _ g1 s h
      · exact fin_GL n _ g2 s h
    · rw [List.mem_singleton.1 hs]; exact hp
theorem walk (G : List (List Int) → Nat → Prop)
    (good : ∀ pre p rest, GL a p → pre.length + rest.length ≤ 1000000 → (badP l p).2.2 = false → G (pre ++ p :: rest) (pre.length + 1) → G (pre ++ p :: rest) pre.length)
    (cut : ∀ pre p rest, GL a p → pre.length + rest.length ≤ 1000000 → (badP l p).2.2 = true → G (pre ++ part1 l p :: part2 l p :: rest) pre.length → G (pre ++ p :: rest) pre.length) :
    ∀ (n : Nat) (p : List Int), GL a p → p.length ≤ n → ∀ pre rest, pre.length + 2 ^ n + rest.length ≤ 1000000 → G ((pre ++ fin l n p) ++ rest) (pre ++ fin l n p).length → G (pre ++ p :: rest) pre.length
  | 0, p, hp, hn, pre, rest, hb, h => by
    cases e : (badP l p).2.2 with
    | true => have := (badP_ok h1 h6 hl hp e).2.2.2.2.1; omega
    | false =>
      refine good pre p rest hp (by omega) e ?_
      simpa [fin] using h
  | n + 1, p, hp, hn, pre, rest, hb, h => by
    have h2 : 2 ^ (n + 1) = 2 ^ n + 2 ^ n := by rw [Nat.pow_succ]; omega
    have hp0 : 0 < 2 ^ n := Nat.pos_of_ne_zero (by simp)
    unfold fin at h
    cases e : (badP l p).2.2 with
    | false =>
      rw [e] at h
      refine good pre p rest hp (by omega) e ?_
      simpa using h
    | true =>
      rw [e] at h
      simp only [if_true] at h
      obtain ⟨_, _, g1, g2, k1, k2⟩ := badP_ok h1 h6 hl hp e
      have hf := fin_len l n (part1 l p)
      refine cut pre p rest hp (by omega) e ?_
      refine walk G good cut n (part1 l p) g1 (by omega) pre (part2 l p :: rest) (by simp only [List.length_cons]; omega) ?_
      refine walk G good cut n (part2 l p) g2 (by omega) (pre ++ fin l n (part1 l p)) rest (by rw [List.length_append]; omega) ?_
      rw [List.append_assoc pre]
      exact h
end
section
variable {pre rest : List (List Int)} {p : List Int}
theorem mid_len : (pre ++ p :: rest).length = pre.length + rest.length + 1 := by rw [List.length_append, List.length_cons]; omega
theorem mid_get : (pre ++ p :: rest).getD pre.length [] = p := by simp [List.getD_eq_getElem?_getD]
theorem mid_take : (pre ++ p :: rest).take pre.length = pre := List.take_left' rfl
theorem mid_drop : (pre ++ p :: rest).drop (pre.length + 1) = rest := by
  rw [show pre ++ p :: rest = (pre ++ [p]) ++ rest by simp]
  exact List.drop_left' (by simp)
theorem mid_rd : rd_L1 (pre ++ p :: rest) (pre.length : Int) = p := rd_L1_drop (ys := rest) (by rw [List.drop_left' rfl])
end
def Ev2 {α : Type} (g : Nat → Nat → Option α) (r : α) : Prop := ∃ K, ∀ k n, K ≤ k → K ≤ n → g k n = some r
section
variable {a : Int} {l : List S42} (h1 : 1 ≤ a) (h6 : a ≤ 6) (hl : GDs a l)
include h1 h6 hl
theorem iSplit {p : List Int} (hp : GL a p) (hlen : p.length ≤ 6) : Ev2 (fun k n => split1 k l n [p] 0) (fin l 6 p) := by
  refine walk h1 h6 hl (fun ps i => Ev2 (fun k n => split1 k l n ps i) (fin l 6 p)) ?_ ?_ 6 p hp hlen [] [] (by decide) ?_
  · intro pre q rest hq hb e h
    obtain ⟨K1, b1⟩ := badI_ev h1 h6 hl hq
    obtain ⟨K2, b2⟩ := h
    refine ⟨max K1 K2 + 1, fun k n hk hn => ?_⟩
    obtain ⟨m, rfl⟩ : ∃ m, n = m + 1 := ⟨n - 1, by omega⟩
    simp only [split1, mid_get, if_pos (show pre.length < (pre ++ q :: rest).length by rw [mid_len]; omega), b1 k (by omega), Option.bind_some, e, Bool.false_eq_true, if_false]
    exact b2 k m (by omega) (by omega)
  · intro pre q rest hq hb e h
    obtain ⟨K1, b1⟩ := badI_ev h1 h6 hl hq
    obtain ⟨K2, b2⟩ := h
    obtain ⟨g1, g2, _, _, _, _⟩ := badP_ok h1 h6 hl hq e
    have n1 := GL_len (by omega) g1
    have n2 := GL_len (by omega) g2
    have n3 := GL_len (by omega) hq
    refine ⟨max K1 K2 + 1, fun k n hk hn => ?_⟩
    obtain ⟨m, rfl⟩ : ∃ m, n = m + 1 := ⟨n - 1, by omega⟩
    simp only [split1, mid_get, if_pos (show pre.length < (pre ++ q :: rest).length by rw [mid_len]; omega), b1 k (by omega), Option.bind_some, e, if_true, if_pos (show ((pre ++ q :: rest).length + 1) * 24 ≤ 140737488355328 by rw [mid_len]; omega), impl_together.f, if_pos (show ((badP l q).1.length + (badP l q).2.1.length) * 8 ≤ 140737488351232 by omega), impl_without.f, if_pos (show q.length * 8 ≤ 140737488355328 by omega), tog_puts g1.1, mid_take, mid_drop]
    exact b2 k m (by omega) (by omega)
  · refine ⟨1, fun k n hk hn => ?_⟩
    obtain ⟨m, rfl⟩ : ∃ m, n = m + 1 := ⟨n - 1, by omega⟩
    simp only [split1, List.nil_append, List.append_nil, if_neg (Nat.lt_irrefl _)]
theorem sSplit_l1 (X : List (List Int)) (hX : X.length < 1000000) (hE : ∀ s ∈ X, s.length < 1000000) : ∀ (ys : List (List Int)) (j : Nat) (out : List (List Int)), X.drop j = ys → out.length ≤ j →
    Ev (fun k => spec_SplitAll.l1 k out X (X.length : Int) (j : Int)) (out ++ ys, true)
  | [], j, out, h, ho => by
    have := drop_nil h
    refine ev_succ ?_
    simp only [spec_SplitAll.l1, if_neg (show ¬ ((j : Int) < (X.length : Int)) by omega)]
    exact ev_now (by simp)
  | s :: ys, j, out, h, ho => by
    obtain ⟨i1, i2, i3⟩ := drop_cons h
    have hs := hE s (List.mem_of_getElem? i2)
    have ih := sSplit_l1 X hX hE ys (j + 1) (out ++ [s]) i3 (by simp; omega)
    refine ev_succ ?_
    simp only [spec_SplitAll.l1, if_pos (show (j : Int) < (X.length : Int) by omega), if_pos (show (0 : Int) ≤ (j : Int) by omega), rd_L1_drop h, wrap_succ (show j < 9223372036854775807 by omega), Option.bind_some, List.length_nil, List.nil_append, if_pos (show 0 + s.length < 17592186044416 by omega), if_pos (show out.length < 5864062014805 by omega)]
    rw [List.append_assoc] at ih
    exact ih
theorem sSplit {p : List Int} (hp : GL a p) (hlen : p.length ≤ 6) : Ev (fun k => spec_SplitAll.l0 k l [p] 0) (fin l 6 p, true) := by
  refine walk h1 h6 hl (fun ps i => Ev (fun k => spec_SplitAll.l0 k l ps (i : Int)) (fin l 6 p, true)) ?_ ?_ 6 p hp hlen [] [] (by decide) ?_
  · intro pre q rest hq hb e h
    refine ev_succ ?_
    simp only [spec_SplitAll.l0, mid_rd, mid_len, if_pos (show (pre.length : Int) < ((pre.length + rest.length + 1 : Nat) : Int) by omega), if_pos (show (0 : Int) ≤ (pre.length : Int) by omega)]
    refine Ev.bind (badS_ev h1 h6 hl hq) ?_
    simp only [e, Bool.false_eq_true, if_false, wrap_succ (show pre.length < 9223372036854775807 by omega)]
    exact h
  · intro pre q rest hq hb e h
    obtain ⟨g1, g2, _, _, _, _⟩ := badP_ok h1 h6 hl hq e
    have n1 := GL_len (by omega) g1
    have n2 := GL_len (by omega) g2
    have n3 := GL_len (by omega) hq
    refine ev_succ ?_
    simp only [spec_SplitAll.l0, mid_rd, mid_len, if_pos (show (pre.length : Int) < ((pre.length + rest.length + 1 : Nat) : Int) by omega), if_pos (show (0 : Int) ≤ (pre.length : Int) by omega)]
    refine Ev.bind (badS_ev h1 h6 hl hq) ?_
    simp only [e, if_true, Option.bind_some, List.length_nil, List.nil_append, Int.toNat_natCast, mid_take, wrap_succ (show pre.length < 9223372036854775807 by omega), if_pos (show (pre.length : Int) ≤ ((pre.length + rest.length + 1 : Nat) : Int) by omega), if_pos (show 0 + pre.length < 5864062014805 by omega)]
    refine Ev.bind (l6Either_ev _ _ (by omega)) ?_
    refine Ev.bind (l6Less_ev _ _ (by omega) (by omega)) ?_
    simp only [List.length_cons, List.length_nil, List.length_append, mid_drop, if_pos (show pre.length + (0 + 1 + 1) < 5864062014805 by omega), if_pos (show (0 : Int) ≤ ((pre.length + 1 : Nat) : Int) by omega), if_pos (show ((pre.length + 1 : Nat) : Int) ≤ ((pre.length + rest.length + 1 : Nat) : Int) by omega), if_pos (show pre.length + (0 + 1 + 1) + rest.length < 5864062014805 by omega)]
    have e2 : pre ++ [puts (badP l q).1 (badP l q).2.1, q.filter fun x => !(badP l q).2.1.contains x] ++ rest = pre ++ part1 l q :: part2 l q :: rest := by simp [part1, part2]
    rw [e2]
    exact h
  · have hf := fin_len l 6 p
    refine ev_succ ?_
    simp only [spec_SplitAll.l0, List.nil_append, List.append_nil, if_neg (Int.lt_irrefl _)]
    exact sSplit_l1 h1 h6 hl (fin l 6 p) (by omega) (fun s hs => by have := GL_len (by omega) (fin_GL h1 h6 hl 6 p hp s hs); omega) (fin l 6 p) 0 [] rfl (by simp)
end
theorem SplitAll_both (a : Int) (l : List S42) (hO : OkDepS l) : ∃ (y : List (List Int)) (b : Bool), Ev (fun k => spec_SplitAll.f k a l) (y, b) ∧ Ev (fun k => impl_SplitAll.f k a l) (y, b) ∧ BdIntSS y := by
  cases e : gdV a l with
  | false =>
    refine ⟨[], false, ?_, ?_, ⟨by simp, by simp⟩⟩
    · simp only [spec_SplitAll.f]
      refine Ev.bind (sGD_ev a l hO) ?_
      rw [e]
      exact ev_now rfl
    · unfold impl_SplitAll.f
      simp only [impl_GoodDeps.f, Option.bind_some]
      rw [show (win a 1 6 && (decide (l.length ≤ 8) && l.all (okD a))) = false from e]
      exact ev_now rfl
  | true =>
    obtain ⟨⟨h1, h6⟩, hl⟩ := GDs_of e
    obtain ⟨n, rfl⟩ : ∃ n : Nat, a = n := ⟨a.toNat, by omega⟩
    obtain ⟨p1, p64⟩ := tab_pow n (by omega)
    have hG := lo6_GL (n := n) (by omega) (x := 2 ^ n - 1) (by omega)
    have hGl := GL_len (by omega) hG
    have hf := fin_len l 6 (lo6 (2 ^ n - 1))
    refine ⟨fin l 6 (lo6 (2 ^ n - 1)), true, ?_, ?_, ⟨by omega, fun s hs => ?_⟩⟩
    · simp only [spec_SplitAll.f]
      refine Ev.bind (sGD_ev (n : Int) l hO) ?_
      rw [e]
      obtain ⟨g1, g2⟩ := tab_shl n (by omega)
      simp only [if_true, if_pos g1, g2, show ((2 ^ n : Nat) : Int) - 1 = ((2 ^ n - 1 : Nat) : Int) by omega, wrap_nat (show 2 ^ n - 1 < 9223372036854775808 by omega)]
      refine Ev.bind (Ev.of (fun k => spec_l5List.mono _ k) (tab_list (2 ^ n - 1) (by omega))) ?_
      exact sSplit h1 h6 hl hG (by omega)
    · unfold impl_SplitAll.f
      simp only [impl_GoodDeps.f, Option.bind_some]
      rw [show (win (n : Int) 1 6 && (decide (l.length ≤ 8) && l.all (okD (n : Int)))) = true from e]
      simp only [if_true]
      refine Ev.bind (Ev.of (fun k => impl_allColumns.mono _ k) (tab_cols n (by omega))) ?_
      obtain ⟨K, hK⟩ := iSplit h1 h6 hl hG (by omega)
      exact Ev.bind ⟨K, fun k hk => hK k k hk hk⟩ (ev_now rfl)
    · have := GL_len (by omega) (fin_GL h1 h6 hl 6 _ hG s hs)
      exact ⟨by omega, fun _ _ => trivial⟩
end Go.Proofs.Ytdnidldinafakaa.Pu
