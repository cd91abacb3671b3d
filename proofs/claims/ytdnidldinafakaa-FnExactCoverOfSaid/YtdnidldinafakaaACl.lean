/- The closure of columns: both sides come to the same list. Conditions: good sentences, rising columns. -/
import Derived.Test.YtdnidldinafakaaPr0
import Derived.Test.YtdnidldinafakaaPr5
import Derived.Test.YtdnidldinafakaaPr7
import Derived.Test.YtdnidldinafakaaPr8
import Derived.Test.YtdnidldinafakaaAc
import Derived.Test.YtdnidldinafakaaMx17
import Derived.Test.YtdnidldinafakaaMx10
import Derived.Test.YtdnidldinafakaaMx15
import Derived.Test.YtdnidldinafakaaMx18
namespace Go.Proofs.Ytdnidldinafakaa.Ax
open Go.RowKit Go.Proofs.Ytdnidldinafakaa.Pr Go.Proofs.Ytdnidldinafakaa.Pl Go.Proofs.YtdnidldinafakaaW.PrintWords Go.Proofs.YtdnidldinafakaaW.PrintLast Go.Proofs.YtdnidldinafakaaW.PrintMore
set_option linter.unusedVariables false
set_option linter.unusedSimpArgs false
def GL (a : Int) (l : List Int) : Prop := l.Pairwise (· < ·) ∧ ∀ x ∈ l, 0 ≤ x ∧ x < a
theorem rs_from {lo hi : Int} : ∀ {l : List Int} {p : Option Int}, rs lo hi p l = true → l.Pairwise (· < ·) ∧ (∀ x ∈ l, lo ≤ x ∧ x ≤ hi) ∧ ∀ q, p = some q → ∀ x ∈ l, q < x
  | [], p, _ => by simp
  | x :: xs, p, h => by
    rw [rs_cons, Bool.and_eq_true, Bool.and_eq_true] at h
    obtain ⟨⟨h1, h2⟩, h3⟩ := h
    obtain ⟨i1, i2, i3⟩ := rs_from h3
    have hx := (win_iff _ _ _).1 h1
    refine ⟨List.pairwise_cons.2 ⟨i3 x rfl, i1⟩, fun y hy => ?_, fun q hq y hy => ?_⟩
    · rcases List.mem_cons.1 hy with e | e
      · omega
      · exact i2 y e
    · subst hq
      have h2' : q < x := by simpa using h2
      rcases List.mem_cons.1 hy with e | e
      · omega
      · have := i3 x rfl y e; omega
theorem GL_of_rs {a : Int} {l : List Int} (h1 : 1 ≤ a) (h6 : a ≤ 6) (h : rs 0 (wrap64 (a - 1)) none l = true) : GL a l := by
  rw [wrap_in (by omega) (by omega)] at h
  obtain ⟨i1, i2, _⟩ := rs_from h
  exact ⟨i1, fun x hx => by have := i2 x hx; omega⟩
theorem GL_len {a : Int} {l : List Int} (h0 : 0 ≤ a) (h : GL a l) : (l.length : Int) ≤ a := by
  have := rising_len h.1 h.2
  omega
def sub (s all : List Int) : Bool := s.all fun x => all.contains x
def GDs (a : Int) (l : List S42) : Prop := l.length ≤ 8 ∧ ∀ d ∈ l, GL a d.f0 ∧ GL a d.f1
theorem GDs_of {a : Int} {l : List S42} (h : gdV a l = true) : (1 ≤ a ∧ a ≤ 6) ∧ GDs a l := by
  unfold gdV at h
  simp only [Bool.and_eq_true, decide_eq_true_eq] at h
  obtain ⟨h1, h2, h3⟩ := h
  have ha := (win_iff _ _ _).1 h1
  refine ⟨ha, h2, fun d hd => ?_⟩
  have := List.all_eq_true.1 h3 d hd
  unfold okD at this
  rw [Bool.and_eq_true] at this
  exact ⟨GL_of_rs ha.1 ha.2 this.1, GL_of_rs ha.1 ha.2 this.2⟩
def rnd : List S42 → List Int → Bool → List Int × Bool
  | [], out, m => (out, m)
  | d :: ds, out, m => if sub d.f0 out && !(sub d.f1 out) then rnd ds (puts out d.f1) true else rnd ds out m
theorem puts_GL {a : Int} {out t : List Int} (h : GL a out) (ht : GL a t) : GL a (puts out t) :=
  ⟨puts_rising _ h.1, fun x hx => ((mem_puts x t out).1 hx).elim (h.2 x) (ht.2 x)⟩
theorem sub_len : ∀ {p q : List Int}, p.Pairwise (· < ·) → q.Pairwise (· < ·) → (∀ x ∈ p, x ∈ q) → p.length ≤ q.length
  | [], q, _, _, _ => Nat.zero_le _
  | x :: p, [], _, _, h => absurd (h x (by simp)) (by simp)
  | x :: p, y :: q, hp, hq, h => by
    obtain ⟨p1, p2⟩ := List.pairwise_cons.1 hp
    obtain ⟨q1, q2⟩ := List.pairwise_cons.1 hq
    have hx := h x (by simp)
    by_cases e : x = y
    · have := sub_len p2 q2 (fun z hz => by
        rcases List.mem_cons.1 (h z (by simp [hz])) with e2 | e2
        · have := p1 z hz; omega
        · exact e2)
      simp only [List.length_cons]; omega
    · have hxq : x ∈ q := by
        rcases List.mem_cons.1 hx with e2 | e2
        · exact absurd e2 e
        · exact e2
      have hlt := q1 x hxq
      have := sub_len hp q2 (fun z hz => by
        have hz2 : y < z := by
          rcases List.mem_cons.1 hz with e2 | e2
          · omega
          · have := p1 z e2; omega
        rcases List.mem_cons.1 (h z hz) with e2 | e2
        · omega
        · exact e2)
      simp only [List.length_cons] at this ⊢; omega
theorem ins_new (y : Int) : ∀ {l : List Int}, y ∉ l → (ins l y).length = l.length + 1
  | [], _ => rfl
  | x :: xs, h => by
    have hx : ¬ x = y := fun e => h (by simp [e])
    unfold ins
    split
    · have := ins_new y (l := xs) (fun hh => h (List.mem_cons_of_mem _ hh))
      simp only [List.length_cons, this]
    · first | rfl | (rw [if_neg hx]; rfl)
theorem sub_lt {p q : List Int} (hp : p.Pairwise (· < ·)) (hq : q.Pairwise (· < ·)) (h : ∀ x ∈ p, x ∈ q) {y : Int} (hy : y ∈ q) (hn : y ∉ p) : p.length < q.length := by
  have := sub_len (ins_rising y hp) hq (fun x hx => ((mem_ins y x p).1 hx).elim (fun e => by rw [e]; exact hy) (h x))
  rw [ins_new y hn] at this
  omega
theorem rnd_GL {a : Int} : ∀ (ds : List S42) (out : List Int) (m : Bool), (∀ d ∈ ds, GL a d.f0 ∧ GL a d.f1) → GL a out →
    GL a (rnd ds out m).1 ∧ (∀ x ∈ out, x ∈ (rnd ds out m).1) ∧ ((rnd ds out m).2 = true → m = true ∨ out.length < (rnd ds out m).1.length) ∧ ((rnd ds out m).2 = false → (rnd ds out m).1 = out)
  | [], out, m, _, h => ⟨h, fun x hx => hx, fun h => .inl h, fun _ => rfl⟩
  | d :: ds, out, m, hd, h => by
    unfold rnd
    by_cases hc : (sub d.f0 out && !(sub d.f1 out)) = true
    · rw [if_pos hc]
      obtain ⟨i1, i2, i3, i4⟩ := rnd_GL ds (puts out d.f1) true (fun e he => hd e (by simp [he])) (puts_GL h (hd d (by simp)).2)
      have hs : ∀ x ∈ out, x ∈ puts out d.f1 := fun x hx => (mem_puts x _ _).2 (.inl hx)
      refine ⟨i1, fun x hx => i2 x (hs x hx), fun _ => .inr ?_, fun hf => ?_⟩
      · rw [Bool.and_eq_true] at hc
        have hns : sub d.f1 out = false := by simpa using hc.2
        obtain ⟨y, hy, hyn⟩ : ∃ y ∈ d.f1, y ∉ out := by
          unfold sub at hns
          obtain ⟨y, hy, hq⟩ := List.all_eq_false.1 hns
          exact ⟨y, hy, by simpa using hq⟩
        exact sub_lt h.1 i1.1 (fun x hx => i2 x (hs x hx)) (i2 y ((mem_puts y _ _).2 (.inr hy))) hyn
      · exfalso
        have : ∀ (ds : List S42) (o : List Int), (rnd ds o true).2 = true := by
          intro ds
          induction ds with
          | nil => intro o; rfl
          | cons d ds ih => intro o; unfold rnd; split <;> exact ih _
        rw [this] at hf
        cases hf
    · rw [if_neg hc]
      exact rnd_GL ds out m (fun e he => hd e (by simp [he])) h
def cloN (l : List S42) : Nat → List Int → List Int
  | 0, out => out
  | n + 1, out => if (rnd l out false).2 = true then cloN l n (rnd l out false).1 else (rnd l out false).1
def clo (l : List S42) (out : List Int) : List Int := cloN l 7 out
theorem cloN_GL {a : Int} {l : List S42} (hd : ∀ d ∈ l, GL a d.f0 ∧ GL a d.f1) : ∀ (n : Nat) (out : List Int), GL a out → GL a (cloN l n out) ∧ ∀ x ∈ out, x ∈ cloN l n out
  | 0, out, h => ⟨h, fun x hx => hx⟩
  | n + 1, out, h => by
    obtain ⟨i1, i2, _⟩ := rnd_GL l out false hd h
    unfold cloN
    split
    · obtain ⟨j1, j2⟩ := cloN_GL hd n _ i1
      exact ⟨j1, fun x hx => j2 x (i2 x hx)⟩
    · exact ⟨i1, i2⟩
theorem clo_GL {a : Int} {l : List S42} (h : GDs a l) {out : List Int} (ho : GL a out) : GL a (clo l out) := (cloN_GL h.2 7 out ho).1
section
variable {a : Int} (h1 : 1 ≤ a) (h6 : a ≤ 6) {l : List S42} (hl : GDs a l)
include h1 h6 hl
theorem icl_l1 {r : List Int} : ∀ (ys : List S42) (j : Nat) (out : List Int) (m : Bool), l.drop j = ys → GL a out → Ev (fun k => impl_closure.l0 k l (rnd ys out m).1 (rnd ys out m).2) r →
    Ev (fun k => impl_closure.l1 k l out m l (l.length : Int) (j : Int)) r
  | [], j, out, m, h, ho, hk => by
    have := drop_nil h
    refine ev_succ ?_
    simp only [impl_closure.l1]
    simp only [if_neg (show ¬ ((j : Int) < (l.length : Int)) by omega)]
    exact hk
  | d :: ds, j, out, m, h, ho, hk => by
    obtain ⟨i1, i2, i3⟩ := drop_cons h
    have hb := hl.1
    have hd := hl.2 d (List.mem_of_getElem? i2)
    have hol := GL_len (by omega) ho
    have htl := GL_len (by omega) hd.2
    unfold rnd at hk
    refine ev_succ ?_
    simp only [impl_closure.l1]
    simp only [if_pos (show (j : Int) < (l.length : Int) by omega), if_pos (show (0 : Int) ≤ (j : Int) by omega), rd_T42_drop h, wrap_succ (show j < 9223372036854775807 by omega), impl_hasAll.f, Option.bind_some]
    by_cases c0 : sub d.f0 out = true
    · simp only [show (d.f0.all fun x => out.contains x) = true from c0, if_true]
      by_cases c1 : sub d.f1 out = true
      · simp only [show (d.f1.all fun x => out.contains x) = true from c1, if_true]
        rw [if_neg (by rw [c0, c1]; decide)] at hk
        exact icl_l1 ds (j + 1) out m i3 ho hk
      · simp only [show (d.f1.all fun x => out.contains x) = false from by simpa [sub] using c1, Bool.false_eq_true, if_false, impl_together.f]
        rw [if_pos (by rw [c0]; simpa using c1)] at hk
        simp only [if_pos (show (out.length + d.f1.length) * 8 ≤ 140737488351232 by omega), Option.bind_some, tog_puts ho.1]
        exact icl_l1 ds (j + 1) _ true i3 (puts_GL ho hd.2) hk
    · simp only [show (d.f0.all fun x => out.contains x) = false from by simpa [sub] using c0, Bool.false_eq_true, if_false]
      rw [if_neg (by simp [show sub d.f0 out = false by simpa using c0])] at hk
      exact icl_l1 ds (j + 1) out m i3 ho hk
theorem icl_l0 : ∀ (n : Nat) (out : List Int), GL a out → a ≤ out.length + n → Ev (fun k => impl_closure.l0 k l out true) (cloN l (n + 1) out)
  | n, out, ho, hn => by
    obtain ⟨i1, i2, i3, i4⟩ := rnd_GL l out false hl.2 ho
    refine ev_succ ?_
    simp only [impl_closure.l0, if_true]
    refine icl_l1 h1 h6 hl l 0 out false rfl ho ?_
    unfold cloN
    cases hm : (rnd l out false).2 with
    | false =>
      simp only [Bool.false_eq_true, if_false]
      refine ev_succ ?_
      simp only [impl_closure.l0, Bool.false_eq_true, if_false]
      exact ev_now rfl
    | true =>
      simp only [if_true]
      have hlt := (i3 hm).resolve_left (by decide)
      have hle := GL_len (by omega) i1
      match n, hn with
      | 0, hn => omega
      | n + 1, hn => exact icl_l0 n _ i1 (by omega)
theorem icl_ev {out : List Int} (ho : GL a out) : Ev (fun k => impl_closure.f k l out) (clo l out) := by
  have hol := GL_len (by omega) ho
  simp only [impl_closure.f, slices_Clone_int_int.f, if_pos (show out.length * 8 ≤ 140737488355328 by omega), Option.bind_some]
  exact icl_l0 h1 h6 hl 6 out ho (by omega)
end
theorem l5Sub_l0 (all s : List Int) (hb : all.length ≤ 9223372036854775807) (hs : s.length ≤ 9223372036854775807) : ∀ (ys : List Int) (j : Nat), s.drop j = ys → Ev (fun k => spec_l5Sub.l0 k all s (s.length : Int) (j : Int)) (sub ys all)
  | [], j, h => by
    have := drop_nil h
    refine ev_succ ?_
    simp only [spec_l5Sub.l0]
    simp only [if_neg (show ¬ ((j : Int) < (s.length : Int)) by omega)]
    exact ev_now rfl
  | y :: ys, j, h => by
    obtain ⟨i1, i2, i3⟩ := drop_cons h
    have ih := l5Sub_l0 all s hb hs ys (j + 1) i3
    refine ev_succ ?_
    simp only [spec_l5Sub.l0]
    simp only [if_pos (show (j : Int) < (s.length : Int) by omega), if_pos (show (0 : Int) ≤ (j : Int) by omega), rd_drop h, wrap_succ (show j < 9223372036854775807 by omega)]
    refine Ev.bind (l1Has_ev all y hb) ?_
    cases e : all.contains y
    · simp only [Bool.false_eq_true, if_false]
      refine ev_now ?_
      simp only [sub, List.all_cons, e, Bool.false_and]
    · simp only [if_true]
      have e2 : sub (y :: ys) all = sub ys all := by simp only [sub, List.all_cons, e, Bool.true_and]
      rw [e2]
      exact ih
theorem l5Sub_ev (s all : List Int) (hb : all.length ≤ 9223372036854775807) (hs : s.length ≤ 9223372036854775807) : Ev (fun k => spec_l5Sub.f k s all) (sub s all) := l5Sub_l0 all s hb hs s 0 rfl
theorem ins_split (n : Int) : ∀ (pre ys : List Int), (∀ x ∈ pre, x < n) → ins (pre ++ ys) n = pre ++ ins ys n
  | [], ys, _ => rfl
  | x :: pre, ys, h => by
    rw [List.cons_append, ins, if_pos (h x (by simp)), ins_split n pre ys (fun z hz => h z (by simp [hz]))]
    rfl
theorem l1Put_l0 (n : Int) (l : List Int) (hb : l.length < 1000000) : ∀ (ys : List Int) (j : Nat), l.drop j = ys → j ≤ l.length → (∀ x ∈ l.take j, x < n) → Ev (fun k => spec_l1Put.l0 k l n (j : Int)) (ins l n)
  | [], j, h, hjl, hp => by
    have hj := drop_nil h
    refine ev_succ ?_
    simp only [spec_l1Put.l0]
    have ht : l.take j = l := List.take_of_length_le hj
    rw [ht] at hp
    have e : ins l n = l ++ [n] := by
      have := ins_split n l [] hp
      simpa [ins] using this
    by_cases hje : j = l.length
    · subst hje
      simp only [if_neg (show ¬ ((l.length : Int) < (l.length : Int)) by omega), Option.bind_some, if_pos (show (0 : Int) ≤ (l.length : Int) by omega), if_pos (show (l.length : Int) ≤ (l.length : Int) by omega), Int.toNat_natCast, List.take_length, List.drop_length, List.length_nil, List.nil_append, List.append_nil, if_pos (show 0 + l.length < 17592186044416 by omega), if_pos (show l.length < 17592186044416 by omega), List.length_append, List.length_singleton, List.length_nil]
      rw [if_pos]
      · exact ev_now e.symm
      · omega
    · omega
  | y :: ys, j, h, hjl, hp => by
    obtain ⟨i1, i2, i3⟩ := drop_cons h
    have hsplit : l = l.take j ++ (y :: ys) := by rw [← h, List.take_append_drop]
    have hi : ins l n = l.take j ++ ins (y :: ys) n := by
      have := ins_split n (l.take j) (y :: ys) hp
      rwa [← hsplit] at this
    have htl : (l.take j).length = j := by rw [List.length_take]; omega
    have hdl : (l.drop j).length = l.length - j := List.length_drop
    refine ev_succ ?_
    simp only [spec_l1Put.l0]
    simp only [if_pos (show (j : Int) < (l.length : Int) by omega), if_pos (show (0 : Int) ≤ (j : Int) by omega), rd_drop h, wrap_succ (show j < 9223372036854775807 by omega)]
    by_cases c1 : y < n
    · simp only [if_pos c1]
      refine l1Put_l0 n l hb ys (j + 1) i3 i1 (fun x hx => ?_)
      rw [List.take_add_one, i2] at hx
      rcases List.mem_append.1 hx with hx | hx
      · exact hp x hx
      · have : x = y := by simpa using hx
        omega
    · simp only [if_neg c1]
      by_cases c2 : y = n
      · simp only [if_pos c2]
        refine ev_now ?_
        rw [hi, ins, if_neg c1, if_pos c2, ← hsplit]
      · simp only [if_neg c2, Option.bind_some, if_pos (show (j : Int) ≤ (l.length : Int) by omega), Int.toNat_natCast, List.nil_append, List.length_nil, List.length_append, List.length_singleton, htl, hdl]
        simp only [if_pos (show 0 + j < 17592186044416 by omega), if_pos (show j < 17592186044416 by omega), if_pos (show 0 + j + 1 + (l.length - j) < 17592186044416 by omega), if_pos (show j + 1 + (l.length - j) < 17592186044416 by omega)]
        refine ev_now ?_
        rw [hi, ins, if_neg c1, if_neg c2, h]
        simp
theorem l1Put_ev (n : Int) (l : List Int) (hb : l.length < 1000000) : Ev (fun k => spec_l1Put.f k l n) (ins l n) := l1Put_l0 n l hb l 0 rfl (Nat.zero_le _) (by simp)
section
variable {a : Int} (h1 : 1 ≤ a) (h6 : a ≤ 6) {l : List S42} (hl : GDs a l)
include h1 h6 hl
theorem scl_l2 {r : List Int} (i : Nat) (hi : i < l.length) (ts : List Int) (ht : GL a ts) : ∀ (ys : List Int) (j : Nat) (out : List Int), ts.drop j = ys → GL a out → Ev (fun k => spec_l5Closure.l1 k l (puts out ys) true l (l.length : Int) ((i + 1 : Nat) : Int)) r →
    Ev (fun k => spec_l5Closure.l2 k l out true l (l.length : Int) (i : Int) ts (ts.length : Int) (j : Int)) r
  | [], j, out, h, ho, hk => by
    have := drop_nil h
    have := hl.1
    refine ev_succ ?_
    simp only [spec_l5Closure.l2]
    simp only [if_neg (show ¬ ((j : Int) < (ts.length : Int)) by omega), wrap_succ (show i < 9223372036854775807 by omega)]
    exact hk
  | y :: ys, j, out, h, ho, hk => by
    obtain ⟨i1, i2, i3⟩ := drop_cons h
    have htl := GL_len (by omega) ht
    have hol := GL_len (by omega) ho
    refine ev_succ ?_
    simp only [spec_l5Closure.l2]
    simp only [if_pos (show (j : Int) < (ts.length : Int) by omega), if_pos (show (0 : Int) ≤ (j : Int) by omega), rd_drop h, wrap_succ (show j < 9223372036854775807 by omega)]
    refine Ev.bind (l1Put_ev y out (by omega)) ?_
    exact scl_l2 i hi ts ht ys (j + 1) (ins out y) i3 ⟨ins_rising y ho.1, fun x hx => ((mem_ins y x out).1 hx).elim (fun e => by rw [e]; exact ht.2 y (List.mem_of_getElem? i2)) (ho.2 x)⟩ hk
theorem scl_l1 {r : List Int} : ∀ (ys : List S42) (j : Nat) (out : List Int) (m : Bool), l.drop j = ys → GL a out → Ev (fun k => spec_l5Closure.l0 k l (rnd ys out m).1 (rnd ys out m).2) r →
    Ev (fun k => spec_l5Closure.l1 k l out m l (l.length : Int) (j : Int)) r
  | [], j, out, m, h, ho, hk => by
    have := drop_nil h
    refine ev_succ ?_
    simp only [spec_l5Closure.l1]
    simp only [if_neg (show ¬ ((j : Int) < (l.length : Int)) by omega)]
    exact hk
  | d :: ds, j, out, m, h, ho, hk => by
    obtain ⟨i1, i2, i3⟩ := drop_cons h
    have hb := hl.1
    have hd := hl.2 d (List.mem_of_getElem? i2)
    have hol := GL_len (by omega) ho
    have htl := GL_len (by omega) hd.2
    have hfl := GL_len (by omega) hd.1
    unfold rnd at hk
    refine ev_succ ?_
    simp only [spec_l5Closure.l1]
    simp only [if_pos (show (j : Int) < (l.length : Int) by omega), if_pos (show (0 : Int) ≤ (j : Int) by omega), rd_T42_drop h]
    refine Ev.bind (l5Sub_ev d.f0 out (by omega) (by omega)) ?_
    by_cases c0 : sub d.f0 out = true
    · simp only [c0, if_true]
      refine Ev.bind (l5Sub_ev d.f1 out (by omega) (by omega)) ?_
      refine ev_succ ?_
      simp only [spec_l5Closure.j2]
      by_cases c1 : sub d.f1 out = true
      · simp only [c1, Bool.not_true, Bool.false_eq_true, if_false, wrap_succ (show j < 9223372036854775807 by omega)]
        rw [if_neg (by rw [c0, c1]; decide)] at hk
        exact scl_l1 ds (j + 1) out m i3 ho hk
      · have c1' : sub d.f1 out = false := by simpa using c1
        simp only [c1', Bool.not_false, if_true]
        rw [if_pos (by rw [c0, c1']; decide)] at hk
        exact scl_l2 h1 h6 hl j i1 d.f1 hd.2 d.f1 0 out rfl ho (scl_l1 ds (j + 1) _ true i3 (puts_GL ho hd.2) hk)
    · have c0' : sub d.f0 out = false := by simpa using c0
      simp only [c0', Bool.false_eq_true, if_false]
      refine ev_succ ?_
      simp only [spec_l5Closure.j2, Bool.false_eq_true, if_false, wrap_succ (show j < 9223372036854775807 by omega)]
      rw [if_neg (by rw [c0', Bool.false_and]; decide)] at hk
      exact scl_l1 ds (j + 1) out m i3 ho hk
theorem scl_l0 : ∀ (n : Nat) (out : List Int), GL a out → a ≤ out.length + n → Ev (fun k => spec_l5Closure.l0 k l out true) (cloN l (n + 1) out)
  | n, out, ho, hn => by
    obtain ⟨i1, i2, i3, i4⟩ := rnd_GL l out false hl.2 ho
    refine ev_succ ?_
    simp only [spec_l5Closure.l0, if_true]
    refine scl_l1 h1 h6 hl l 0 out false rfl ho ?_
    unfold cloN
    cases hm : (rnd l out false).2 with
    | false =>
      simp only [Bool.false_eq_true, if_false]
      refine ev_succ ?_
      simp only [spec_l5Closure.l0, Bool.false_eq_true, if_false]
      exact ev_now rfl
    | true =>
      simp only [if_true]
      have hlt := (i3 hm).resolve_left (by decide)
      have hle := GL_len (by omega) i1
      match n, hn with
      | 0, hn => omega
      | n + 1, hn => exact scl_l0 n _ i1 (by omega)
theorem scl_ev {out : List Int} (ho : GL a out) : Ev (fun k => spec_l5Closure.f k l out) (clo l out) := by
  have hol := GL_len (by omega) ho
  simp only [spec_l5Closure.f, Option.bind_some, List.length_nil, List.nil_append, if_pos (show 0 + out.length < 17592186044416 by omega)]
  exact scl_l0 h1 h6 hl 6 out ho (by omega)
end
end Go.Proofs.Ytdnidldinafakaa.Ax
