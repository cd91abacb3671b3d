/- The law FnExactKeysFor over numbers and lists alone. No condition. -/
import Derived.Test.YtdnidldinafakaaPr0
import Derived.Test.YtdnidldinafakaaPr1
import Derived.Test.YtdnidldinafakaaPr5
import Derived.Test.YtdnidldinafakaaPr6
import Derived.Test.YtdnidldinafakaaMx1
import Derived.Test.YtdnidldinafakaaATab
import Derived.Test.YtdnidldinafakaaEKeysFor
namespace Go.Proofs.Ytdnidldinafakaa.Pu
open Go.RowKit Go.Proofs.Ytdnidldinafakaa.Pr Go.Proofs.Ytdnidldinafakaa.Pl Go.Proofs.Ytdnidldinafakaa.Ax Go.Proofs.Ytdnidldinafakaa.Ops Go.Proofs.YtdnidldinafakaaW.PrintWords Go.Proofs.YtdnidldinafakaaW.PrintLast Go.Proofs.YtdnidldinafakaaW.PrintMore
set_option linter.unusedVariables false
set_option linter.unusedSimpArgs false
theorem tab_cols : ∀ n : Nat, n < 7 → impl_allColumns.f 10 (n : Int) = some (lo6 (2 ^ n - 1)) := by decide +kernel
theorem tab_whole : ∀ n : Nat, n < 7 → sub6 (2 ^ n - 1) = (List.range (2 ^ n)).map lo6 := by decide +kernel
theorem tab_shl : ∀ n : Nat, n < 7 → 0 ≤ IntKind.u64.wrap (n : Int) ∧ shl .i64 1 (IntKind.u64.wrap (n : Int)) = ((2 ^ n : Nat) : Int) := by decide +kernel
theorem tab_bit : ∀ x : Nat, x < 64 → ∀ i : Nat, i < 6 → decide (Go.bits .and .i64 (shr .i64 (x : Int) (IntKind.u64.wrap (i : Int))) 1 = 0) = !x.testBit i := by decide +kernel
theorem tab_less : ∀ x : Nat, x < 64 → ∀ i : Nat, i < 6 → x.testBit i = true → 2 ^ i ≤ x ∧ wrap64 ((x : Int) - shl .i64 1 (IntKind.u64.wrap (i : Int))) = ((x - 2 ^ i : Nat) : Int) ∧ lessOne (lo6 x) (i : Int) = lo6 (x - 2 ^ i) := by decide +kernel
theorem tab_mem : ∀ x : Nat, x < 64 → ∀ n : Nat, n < 7 → x < 2 ^ n → lo6 x = ((List.range n).filter fun i => x.testBit i).map Int.ofNat := by decide +kernel
theorem tab_pow : ∀ n : Nat, n < 7 → 2 ^ n ≤ 64 := by decide +kernel
section
variable {a : Int} {n : Nat} {l : List S42}
def wh (l : List S42) (n x : Nat) : Bool := decide ((clo l (lo6 x)).length = n)
def isF (l : List S42) (n x : Nat) (i : Nat) : Bool := !x.testBit i || !wh l n (x - 2 ^ i)
def keyB (l : List S42) (n x : Nat) : Bool := wh l n x && (List.range n).all (isF l n x)
theorem lo6_GL (hn : n < 7) {x : Nat} (hx : x < 2 ^ n) : GL (n : Int) (lo6 x) := by
  have h64 := tab_pow n hn
  refine ⟨tab_rise x (by omega), fun y hy => ?_⟩
  rw [tab_mem x (by omega) n hn hx] at hy
  obtain ⟨i, hi, rfl⟩ := List.mem_map.1 hy
  have := List.mem_range.1 (List.mem_filter.1 hi).1
  exact ⟨Int.natCast_nonneg i, by show (i : Int) < n; omega⟩
theorem lists_ev (hn : n < 7) : Ev (fun k => impl_lists.f k (lo6 (2 ^ n - 1))) ((List.range (2 ^ n)).map lo6) := by
  have h64 := tab_pow n hn
  have hp : 0 < 2 ^ n := Nat.pos_of_ne_zero (by simp)
  rw [← tab_whole n hn]
  exact Ev.of (fun k => impl_lists.mono _ k) (tab_subs (2 ^ n - 1) (by omega))
theorem clo_all (h1 : 1 ≤ a) (h6 : a ≤ 6) (hl : GDs a l) : ∀ (ss : List (List Int)), (∀ s ∈ ss, GL a s) → ∃ K, ∀ k, K ≤ k → ∀ s ∈ ss, impl_closure.f k l s = some (clo l s)
  | [], _ => ⟨0, fun _ _ _ h => absurd h (by simp)⟩
  | s :: ss, h => by
    obtain ⟨K1, e1⟩ := icl_ev h1 h6 hl (h s (by simp))
    obtain ⟨K2, e2⟩ := clo_all h1 h6 hl ss (fun x hx => h x (by simp [hx]))
    refine ⟨max K1 K2, fun k hk x hx => ?_⟩
    rcases List.mem_cons.1 hx with rfl | hx
    · exact e1 k (by omega)
    · exact e2 k (by omega) x hx
theorem keyI_ev (h1 : 1 ≤ n) (hn : n < 7) (hl : GDs (n : Int) l) (hg : gdV (n : Int) l = true) : Ev (fun k => impl_KeysFor.f k (n : Int) l) (((List.range (2 ^ n)).filter (keyB l n)).map lo6, true) := by
  have h64 := tab_pow n hn
  have hlb : ((List.range (2 ^ n)).map lo6).length = 2 ^ n := by simp
  unfold impl_KeysFor.f
  simp only [impl_GoodDeps.f, Option.bind_some]
  rw [show (win (n : Int) 1 6 && (decide (l.length ≤ 8) && l.all (okD (n : Int)))) = true from hg]
  simp only [if_true]
  refine Ev.bind (Ev.of (fun k => impl_allColumns.mono _ k) (tab_cols n hn)) ?_
  refine Ev.bind (lists_ev hn) ?_
  obtain ⟨K, hK⟩ := clo_all (a := (n : Int)) (by omega) (by omega) hl ((List.range (2 ^ n)).map lo6) (fun s hs => by
    obtain ⟨x, hx, rfl⟩ := List.mem_map.1 hs
    exact lo6_GL hn (List.mem_range.1 hx))
  have hK2 : ∀ k, K ≤ k → ∀ x, x < 2 ^ n → impl_closure.f k l (lo6 x) = some (clo l (lo6 x)) := fun k hk x hx => hK k hk _ (List.mem_map.2 ⟨x, List.mem_range.2 hx, rfl⟩)
  have hone : ∀ x, x < 2 ^ n → ∀ c ∈ lo6 x, ∃ i, i < n ∧ c = (i : Int) ∧ x.testBit i = true ∧ lessOne (lo6 x) c = lo6 (x - 2 ^ i) := fun x hx c hc => by
    rw [tab_mem x (by omega) n hn hx] at hc
    obtain ⟨i, hi, rfl⟩ := List.mem_map.1 hc
    have h2 := List.mem_filter.1 hi
    have h3 := List.mem_range.1 h2.1
    exact ⟨i, h3, rfl, h2.2, (tab_less x (by omega) i (by omega) h2.2).2.2⟩
  refine ⟨K, fun k hk => ?_⟩
  have hck : ∀ x, x < 2 ^ n → cloK k l (lo6 x) = clo l (lo6 x) := fun x hx => by unfold cloK; rw [hK2 k hk x hx]; rfl
  have hall : ((List.range (2 ^ n)).map lo6).all (keyOk k l) = true := by
    rw [List.all_eq_true]
    intro s hs
    obtain ⟨x, hx, rfl⟩ := List.mem_map.1 hs
    have hx := List.mem_range.1 hx
    have hlen := GL_len (by omega) (lo6_GL hn hx)
    simp only [keyOk, cloOk, Bool.and_eq_true, decide_eq_true_eq, List.all_eq_true]
    refine ⟨⟨by omega, by rw [hK2 k hk x hx]; rfl⟩, fun c hc => ?_⟩
    obtain ⟨i, hi, rfl, hb, he⟩ := hone x hx c hc
    rw [he, hK2 k hk (x - 2 ^ i) (Nat.lt_of_le_of_lt (Nat.sub_le _ _) hx)]
    rfl
  refine (if_pos ⟨by rw [hlb]; omega, hall⟩).trans ?_
  congr 2
  rw [List.filter_map]
  congr 1
  refine List.filter_congr (fun x hx => ?_)
  have hx := List.mem_range.1 hx
  have hcl := GL_len (by omega) (clo_GL hl (lo6_GL hn hx))
  show keyP k (n : Int) l (lo6 x) = keyB l n x
  unfold keyP keyB
  rw [hck x hx]
  have e1 : (!decide (((clo l (lo6 x)).length : Int) < (n : Int))) = wh l n x := by
    unfold wh
    by_cases c : (clo l (lo6 x)).length = n
    · rw [decide_eq_true c, decide_eq_false (by omega)]; rfl
    · rw [decide_eq_false c, decide_eq_true (by omega)]; rfl
  rw [e1]
  congr 1
  rw [Bool.eq_iff_iff]
  simp only [Bool.not_eq_true', List.any_eq_false, List.all_eq_true, List.mem_range, isF, Bool.or_eq_true, wh, decide_eq_false_iff_not]
  constructor
  · intro h i hi
    by_cases hb : x.testBit i = true
    · right
      have hc : (i : Int) ∈ lo6 x := by
        rw [tab_mem x (by omega) n hn hx]
        exact List.mem_map.2 ⟨i, List.mem_filter.2 ⟨List.mem_range.2 hi, hb⟩, rfl⟩
      have h2 := h _ hc
      have h3 := (tab_less x (by omega) i (by omega) hb).2.2
      rw [h3, hck (x - 2 ^ i) (Nat.lt_of_le_of_lt (Nat.sub_le _ _) hx)] at h2
      simp only [beq_iff_eq] at h2
      omega
    · left
      simpa using hb
  · intro h c hc
    obtain ⟨i, hi, rfl, hb, he⟩ := hone x hx c hc
    rcases h i hi with h2 | h2
    · rw [hb] at h2; cases h2
    · rw [he, hck (x - 2 ^ i) (Nat.lt_of_le_of_lt (Nat.sub_le _ _) hx)]
      simp only [beq_iff_eq]
      omega
end
section
variable {n : Nat} {l : List S42}
theorem wh_rd (x : Nat) (hx : x < 2 ^ n) : rdOf false ((List.range (2 ^ n)).map (wh l n)) (x : Int) = wh l n x := by
  simp [rdOf, List.getD_eq_getElem?_getD, hx]
theorem sK_l2 (hn : n < 7) (x : Nat) (hx : x < 2 ^ n) (out : List (List Int)) (ho : out.length < 1000000) {r : List (List Int) × Bool} :
    ∀ (m i : Nat) (b : Bool), i + m = n → Ev (fun k => spec_KeysFor.l1 k (n : Int) ((List.range (2 ^ n)).map (wh l n)) (out ++ (if (b && (List.range' i m).all (isF l n x)) = true then [lo6 x] else [])) ((List.range (2 ^ n)).map (wh l n)) ((2 ^ n : Nat) : Int) ((x + 1 : Nat) : Int)) r →
      Ev (fun k => spec_KeysFor.l2 k (n : Int) ((List.range (2 ^ n)).map (wh l n)) out (x : Int) b (i : Int) ((List.range (2 ^ n)).map (wh l n)) ((2 ^ n : Nat) : Int) (x : Int)) r
  | 0, i, b, h, hnext => by
    have h64 := tab_pow n hn
    refine ev_succ ?_
    simp only [spec_KeysFor.l2, if_neg (show ¬ ((i : Int) < (n : Int)) by omega), wrap_succ (show x < 9223372036854775807 by omega)]
    simp only [List.range'_zero, List.all_nil, Bool.and_true] at hnext
    cases b
    · simpa using hnext
    · simp only [if_true] at hnext ⊢
      refine Ev.bind (Ev.of (fun k => spec_l5List.mono _ k) (tab_list x (by omega))) ?_
      simp only [if_pos (show out.length < 5864062014805 by omega)]
      exact hnext
  | m + 1, i, b, h, hnext => by
    have h64 := tab_pow n hn
    refine ev_succ ?_
    simp only [spec_KeysFor.l2, if_pos (show (i : Int) < (n : Int) by omega), wrap_succ (show i < 9223372036854775807 by omega)]
    rw [List.range'_succ, List.all_cons] at hnext
    cases b
    · simp only [Bool.false_and, Bool.false_eq_true, if_false] at hnext ⊢
      exact sK_l2 hn x hx out ho m (i + 1) false (by omega) (by simpa using hnext)
    · simp only [if_true, if_pos (tab_shl i (by omega)).1]
      have hb := tab_bit x (by omega) i (by omega)
      cases e : x.testBit i
      · rw [e] at hb
        simp only [if_pos (of_decide_eq_true hb)]
        refine sK_l2 hn x hx out ho m (i + 1) true (by omega) ?_
        rw [show isF l n x i = true by unfold isF; rw [e]; rfl, Bool.true_and, Bool.true_and] at hnext
        rw [Bool.true_and]
        exact hnext
      · rw [e] at hb
        obtain ⟨g1, g2, _⟩ := tab_less x (by omega) i (by omega) e
        simp only [if_neg (of_decide_eq_false hb), g2, if_pos (Int.natCast_nonneg (x - 2 ^ i)), List.length_map, List.length_range, if_pos (Int.ofNat_lt.2 (Nat.lt_of_le_of_lt (Nat.sub_le x (2 ^ i)) hx)), wh_rd (l := l) (x - 2 ^ i) (Nat.lt_of_le_of_lt (Nat.sub_le x (2 ^ i)) hx)]
        refine sK_l2 hn x hx out ho m (i + 1) _ (by omega) ?_
        rw [Bool.true_and, show isF l n x i = !wh l n (x - 2 ^ i) by unfold isF; rw [e]; rfl] at hnext
        exact hnext
theorem sK_l1 (hn : n < 7) : ∀ (m x : Nat) (out : List (List Int)), x + m = 2 ^ n → out.length ≤ x → Ev (fun k => spec_KeysFor.l1 k (n : Int) ((List.range (2 ^ n)).map (wh l n)) out ((List.range (2 ^ n)).map (wh l n)) ((2 ^ n : Nat) : Int) (x : Int)) (out ++ ((List.range' x m).filter (keyB l n)).map lo6, true)
  | 0, x, out, h, ho => by
    refine ev_succ ?_
    simp only [spec_KeysFor.l1, if_neg (show ¬ ((x : Int) < ((2 ^ n : Nat) : Int)) from fun h_ => by have := Int.ofNat_lt.1 h_; omega)]
    exact ev_now (by simp)
  | m + 1, x, out, h, ho => by
    have h64 := tab_pow n hn
    refine ev_succ ?_
    simp only [spec_KeysFor.l1, if_pos (show (x : Int) < ((2 ^ n : Nat) : Int) from Int.ofNat_lt.2 (by omega)), if_pos (Int.natCast_nonneg x), List.length_map, List.length_range, wh_rd (l := l) x (show x < 2 ^ n by omega)]
    refine sK_l2 hn x (by omega) out (by omega) n 0 (wh l n x) (by omega) ?_
    rw [← List.range_eq_range']
    have ih := sK_l1 hn m (x + 1) (out ++ (if (wh l n x && (List.range n).all (isF l n x)) = true then [lo6 x] else [])) (by omega) (by
      rw [List.length_append]
      split <;> simp <;> omega)
    rw [List.range'_succ, List.filter_cons]
    rw [show keyB l n x = (wh l n x && (List.range n).all (isF l n x)) from rfl]
    cases e : (wh l n x && (List.range n).all (isF l n x))
    · rw [e] at ih
      simpa using ih
    · rw [e] at ih
      simpa using ih
theorem sK_l0 (h1 : 1 ≤ n) (hn : n < 7) (hl : GDs (n : Int) l) {r : List (List Int) × Bool} (hfin : Ev (fun k => spec_KeysFor.l1 k (n : Int) ((List.range (2 ^ n)).map (wh l n)) [] ((List.range (2 ^ n)).map (wh l n)) ((2 ^ n : Nat) : Int) 0) r) :
    ∀ (m x : Nat), x + m = 2 ^ n → Ev (fun k => spec_KeysFor.l0 k (n : Int) l ((List.range x).map (wh l n) ++ List.replicate m false) ((2 ^ n : Nat) : Int) (x : Int)) r
  | 0, x, h => by
    refine ev_succ ?_
    obtain rfl : x = 2 ^ n := by omega
    simp only [spec_KeysFor.l0, if_neg (Int.lt_irrefl ((2 ^ n : Nat) : Int)), List.replicate_zero, List.append_nil, List.length_map, List.length_range]
    exact hfin
  | m + 1, x, h => by
    have h64 := tab_pow n hn
    have hx : x < 2 ^ n := by omega
    refine ev_succ ?_
    simp only [spec_KeysFor.l0, if_pos (show (x : Int) < ((2 ^ n : Nat) : Int) from Int.ofNat_lt.2 (by omega))]
    refine Ev.bind (Ev.of (fun k => spec_l5List.mono _ k) (tab_list x (by omega))) ?_
    refine Ev.bind (scl_ev (by omega) (by omega) hl (lo6_GL hn hx)) ?_
    simp only [if_pos (Int.natCast_nonneg x), List.length_append, List.length_map, List.length_range, List.length_replicate, if_pos (show (x : Int) < ((x + (m + 1) : Nat) : Int) by omega), Int.toNat_natCast, wrap_succ (show x < 9223372036854775807 by omega)]
    have ih := sK_l0 h1 hn hl hfin m (x + 1) (by omega)
    have hw : (((clo l (lo6 x)).length : Int) == (n : Int)) = wh l n x := by
      unfold wh
      rw [Bool.eq_iff_iff]
      simp only [beq_iff_eq, decide_eq_true_eq]
      omega
    rw [hw]
    have hs : ((List.range x).map (wh l n) ++ List.replicate (m + 1) false).set x (wh l n x) = (List.range (x + 1)).map (wh l n) ++ List.replicate m false := by
      rw [List.set_append_right _ _ (by simp), List.length_map, List.length_range, Nat.sub_self, List.replicate_succ, List.set_cons_zero, List.range_succ, List.map_append]
      simp
    rw [hs]
    exact ih
theorem keyS_ev (h1 : 1 ≤ n) (hn : n < 7) (hO : OkDepS l) (hl : GDs (n : Int) l) (hg : gdV (n : Int) l = true) : Ev (fun k => spec_KeysFor.f k (n : Int) l) (((List.range (2 ^ n)).filter (keyB l n)).map lo6, true) := by
  have h64 := tab_pow n hn
  simp only [spec_KeysFor.f]
  refine Ev.bind (sGD_ev (n : Int) l hO) ?_
  rw [hg]
  obtain ⟨g1, g2⟩ := tab_shl n hn
  simp only [if_true, if_pos g1, g2, if_pos (Int.natCast_nonneg (2 ^ n)), Int.toNat_natCast, if_pos (show 2 ^ n ≤ 281474976710656 by omega), Option.bind_some, List.length_replicate]
  have := sK_l0 (l := l) h1 hn hl (sK_l1 (l := l) hn (2 ^ n) 0 [] (by omega) (by simp)) (2 ^ n) 0 (by omega)
  rw [← List.range_eq_range', List.nil_append] at this
  simpa using this
end
theorem KeysFor_both (a : Int) (l : List S42) (hO : OkDepS l) : ∃ (y : List (List Int)) (b : Bool), Ev (fun k => spec_KeysFor.f k a l) (y, b) ∧ Ev (fun k => impl_KeysFor.f k a l) (y, b) ∧ BdIntSS y := by
  cases e : gdV a l with
  | false =>
    refine ⟨[], false, ?_, ?_, ⟨by simp, by simp⟩⟩
    · simp only [spec_KeysFor.f]
      refine Ev.bind (sGD_ev a l hO) ?_
      rw [e]
      exact ev_now rfl
    · unfold impl_KeysFor.f
      simp only [impl_GoodDeps.f, Option.bind_some]
      rw [show (win a 1 6 && (decide (l.length ≤ 8) && l.all (okD a))) = false from e]
      exact ev_now rfl
  | true =>
    obtain ⟨⟨h1, h6⟩, hl⟩ := GDs_of e
    obtain ⟨n, rfl⟩ : ∃ n : Nat, a = n := ⟨a.toNat, by omega⟩
    have h64 := tab_pow n (by omega)
    refine ⟨_, true, keyS_ev (by omega) (by omega) hO hl e, keyI_ev (by omega) (by omega) hl e, ⟨?_, fun s hs => ?_⟩⟩
    · rw [List.length_map]
      have := List.length_filter_le (keyB l n) (List.range (2 ^ n))
      rw [List.length_range] at this
      omega
    · obtain ⟨x, hx, rfl⟩ := List.mem_map.1 hs
      have hx := List.mem_range.1 (List.mem_filter.1 hx).1
      have := GL_len (by omega) (lo6_GL (by omega) hx)
      exact ⟨by omega, fun _ _ => trivial⟩
end Go.Proofs.Ytdnidldinafakaa.Pu
