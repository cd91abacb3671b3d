/- The law FnExactByGroup: what both sides come to, over numbers and lists alone. No condition. -/
import Derived.Test.YtmlbihhaikknnaaPr0
import Derived.Test.YtmlbihhaikknnaaPr10
import Derived.Test.YtmlbihhaikknnaaPr11
import Derived.Test.YtmlbihhaikknnaaPr4
import Derived.Test.YtmlbihhaikknnaaPr5
import Derived.Test.YtmlbihhaikknnaaMx3
import Derived.Test.YtmlbihhaikknnaaMerge0
import Derived.Test.YtmlbihhaikknnaaADis
import Derived.Test.YtmlbihhaikknnaaMx4
import Derived.Test.YtmlbihhaikknnaaEByGroup
namespace Go.Proofs.Ytmlbihhaikknnaa.Pu
open Go.RowKit Go.Proofs.Ytmlbihhaikknnaa.Pr Go.Proofs.Ytmlbihhaikknnaa.Pl Go.Proofs.Ytmlbihhaikknnaa.Ax Go.Proofs.Ytmlbihhaikknnaa.Ops Go.Proofs.YtmlbihhaikknnaaW.PrintWords Go.Proofs.YtmlbihhaikknnaaW.PrintLast Go.Proofs.YtmlbihhaikknnaaW.PrintMore
set_option linter.unusedVariables false
set_option linter.unusedSimpArgs false
def TbG (l : List S53) : Prop := l.length ≤ 20 ∧ ∀ r ∈ l, r.f1.length = 3 ∧ ∀ x ∈ r.f1, gvS x = true
theorem gt_all : ∀ {l : List S53} {p : Option Int}, gt p l = true → ∀ r ∈ l, r.f1.length = 3 ∧ ∀ x ∈ r.f1, gvS x = true
  | [], p, _ => by simp
  | y :: ys, p, h => by
    rw [gt_cons, Bool.and_eq_true, Bool.and_eq_true] at h
    obtain ⟨⟨h1, _⟩, h2⟩ := h
    intro r hr
    rcases List.mem_cons.1 hr with rfl | hr
    · unfold okR at h1
      simp only [Bool.and_eq_true, decide_eq_true_eq, List.all_eq_true] at h1
      exact h1.2
    · exact gt_all h2 r hr
def col (l : List S53) (c : Int) : List S43 := l.map fun r => rd_T43 r.f1 c
theorem rd_gv {r : S53} {c : Int} (h : r.f1.length = 3 ∧ ∀ x ∈ r.f1, gvS x = true) (h0 : 0 ≤ c) (h2 : c ≤ 2) : gvS (rd_T43 r.f1 c) = true := by
  have hl : c.toNat < r.f1.length := by omega
  unfold rd_T43
  rw [List.getD_eq_getElem?_getD, List.getElem?_eq_getElem hl]
  exact h.2 _ (List.getElem_mem hl)
theorem col_gv {l : List S53} (hl : ∀ r ∈ l, r.f1.length = 3 ∧ ∀ x ∈ r.f1, gvS x = true) {c : Int} (h0 : 0 ≤ c) (h2 : c ≤ 2) : ∀ x ∈ col l c, gvS x = true := fun x hx => by
  obtain ⟨r, hr, rfl⟩ := List.mem_map.1 hx
  exact rd_gv (hl r hr) h0 h2
theorem col_ev (c : Int) (h0 : 0 ≤ c) (h2 : c ≤ 2) (xs : List S53) (hb : xs.length ≤ 20) (hx : ∀ r ∈ xs, r.f1.length = 3 ∧ ∀ x ∈ r.f1, gvS x = true) : ∀ (ys : List S53) (j : Nat) (out : List S43), xs.drop j = ys → out.length = j →
    Ev (fun k => impl_column.l0 k c out xs (xs.length : Int) (j : Int)) (out ++ col ys c)
  | [], j, out, h, ho => by
    have h1 := drop_nil h
    refine ev_succ ?_
    simp only [impl_column.l0, if_neg (show ¬ ((j : Int) < (xs.length : Int)) by omega)]
    exact ev_now (by simp [col])
  | y :: ys, j, out, h, ho => by
    obtain ⟨h1, h2', h3⟩ := drop_cons h
    have hy := (hx y (List.mem_of_getElem? h2')).1
    refine ev_succ ?_
    simp only [impl_column.l0, if_pos (show (j : Int) < (xs.length : Int) by omega), if_pos (show (0 : Int) ≤ (j : Int) by omega), rd_T53_drop h, if_pos h0, if_pos (show c < (y.f1.length : Int) by omega), if_pos (show out.length < 8796093022208 by omega), wrap_succ (show j < 9223372036854775807 by omega)]
    have ih := col_ev c h0 h2 xs hb hx ys (j + 1) (out ++ [rd_T43 y.f1 c]) h3 (by simp [ho])
    rw [List.append_assoc] at ih
    exact ih
theorem column_ev (c : Int) (h0 : 0 ≤ c) (h2 : c ≤ 2) (xs : List S53) (hb : xs.length ≤ 20) (hx : ∀ r ∈ xs, r.f1.length = 3 ∧ ∀ x ∈ r.f1, gvS x = true) : Ev (fun k => impl_column.f k xs c) (col xs c) := by
  simp only [impl_column.f]
  exact col_ev c h0 h2 xs hb hx xs 0 [] rfl rfl
def grp (l : List S53) (g : Int) (v : S43) : List S53 := l.filter fun r => eqB (rd_T43 r.f1 g) v
def tot (l : List S53) (c : Int) : Int := (sumF (col l c) 0 0 true 0 true 0).2.1
def rowV (l : List S53) (g c : Int) (i : Nat) (v : S43) : S53 :=
  ⟨(i : Int), [v, ⟨false, ((grp l g v).length : Int)⟩, if win (tot (grp l g v) c) (-1000) 1000 = true then ⟨false, tot (grp l g v) c⟩ else ⟨true, 0⟩]⟩
def allV (l : List S53) (g c : Int) : List S43 → List S53 → List S53
  | [], out => out
  | v :: vs, out => allV l g c vs (out ++ [rowV l g c out.length v])
theorem allV_length (l : List S53) (g c : Int) : ∀ (vs : List S43) (out : List S53), (allV l g c vs out).length = out.length + vs.length
  | [], out => rfl
  | v :: vs, out => by
    rw [allV, allV_length l g c vs]
    simp only [List.length_append, List.length_cons, List.length_nil]
    omega
theorem allV_mem (l : List S53) (g c : Int) : ∀ (vs : List S43) (out : List S53), (∀ r ∈ out, r.f1.length = 3) → ∀ r ∈ allV l g c vs out, r.f1.length = 3
  | [], out, h => h
  | v :: vs, out, h => by
    rw [allV]
    refine allV_mem l g c vs _ (fun r hr => ?_)
    rcases List.mem_append.1 hr with hr | hr
    · exact h r hr
    · rw [List.mem_singleton.1 hr]
      rfl
section
variable {l : List S53} {g c : Int}
theorem grp_G (hl : TbG l) (v : S43) : (grp l g v).length ≤ 20 ∧ ∀ r ∈ grp l g v, r.f1.length = 3 ∧ ∀ x ∈ r.f1, gvS x = true :=
  ⟨Nat.le_trans (List.length_filter_le _ _) hl.1, fun r hr => hl.2 r (List.mem_filter.1 hr).1⟩
theorem byRow_ev (hl : TbG l) (hc : 0 ≤ c ∧ c ≤ 2) (i : Nat) (v : S43) : Ev (fun k => byRow k l g c i v) (rowV l g c i v) := by
  obtain ⟨h1, h2⟩ := grp_G (g := g) hl v
  have hcl : (col (grp l g v) c).length = (grp l g v).length := by unfold col; rw [List.length_map]
  unfold byRow
  refine Ev.bind (column_ev c hc.1 hc.2 (grp l g v) h1 h2) ?_
  simp only [impl_sumOf.f]
  refine Ev.bind (iSum_l0 (col (grp l g v) c) (by omega) (List.all_eq_true.2 (col_gv h2 hc.1 hc.2)) _ (col (grp l g v) c) 0 0 0 0 0 true true rfl (Nat.zero_le _) (by omega) (by omega)) ?_
  simp only [res7, isSmall_eq, Option.bind_some]
  exact ev_now rfl
theorem byAll_ev (hl : TbG l) (hc : 0 ≤ c ∧ c ≤ 2) : ∀ (vs : List S43) (out : List S53), Ev (fun k => byAll k l g c vs out) (allV l g c vs out)
  | [], out => by
    simp only [byAll]
    exact ev_now rfl
  | v :: vs, out => by
    simp only [byAll]
    exact Ev.bind (byRow_ev hl hc out.length v) (byAll_ev hl hc vs _)
theorem sB_l2 (hl : TbG l) (hg : 0 ≤ g ∧ g ≤ 2) (hc : 0 ≤ c ∧ c ≤ 2) (out : List S53) (ho : out.length < 1000000) (ds : List S43) (dl x : Int) (v : S43) {res : List S53 × Bool} : ∀ (ys : List S53) (i : Nat) (r k t lo hi : Int) (a b : Bool), l.drop i = ys → 0 ≤ r ∧ r ≤ i → 0 ≤ k ∧ k ≤ r → -1000 * r ≤ t ∧ t ≤ 1000 * r → (k ≠ 0 → a = false ∧ b = false) →
    Ev (fun n => spec_ByGroup.l1 n l g c (out ++ [⟨x, [v, ⟨false, r + ((grp ys g v).length : Int)⟩, if win (sumF (col (grp ys g v) c) k t a lo b hi).2.1 (-1000) 1000 = true then ⟨false, (sumF (col (grp ys g v) c) k t a lo b hi).2.1⟩ else ⟨true, 0⟩]⟩]) ds dl (wrap64 (x + 1))) res →
    Ev (fun n => spec_ByGroup.l2 n l g c out x ds dl x l (l.length : Int) (i : Int) v.f0 v.f1 r k t a lo b hi) res
  | [], i, r, k, t, lo, hi, a, b, h, hr, hk, ht, hab, hnext => by
    have h1 := drop_nil h
    refine ev_succ ?_
    simp only [spec_ByGroup.l2, if_neg (show ¬ ((i : Int) < (l.length : Int)) by omega), sGoodValue_eq, Option.bind_some, if_pos (show out.length < 4398046511104 by omega)]
    have e0 : grp [] g v = [] := rfl
    rw [e0] at hnext
    simp only [col, List.map_nil, sumF, List.length_nil, Int.natCast_zero, Int.add_zero] at hnext
    rw [show gv false t = win t (-1000) 1000 from rfl]
    cases e : win t (-1000) 1000
    · simp only [e, Bool.false_eq_true, if_false] at hnext ⊢
      exact hnext
    · simp only [e, if_true] at hnext ⊢
      exact hnext
  | y :: ys, i, r, k, t, lo, hi, a, b, h, hr, hk, ht, hab, hnext => by
    obtain ⟨h1, h2, h3⟩ := drop_cons h
    have hb := hl.1
    have hm := hl.2 y (List.mem_of_getElem? h2)
    refine ev_succ ?_
    simp only [spec_ByGroup.l2, if_pos (show (i : Int) < (l.length : Int) by omega), if_pos (show (0 : Int) ≤ (i : Int) by omega), rd_T53_drop h, if_pos hg.1, if_pos (show g < (y.f1.length : Int) by omega), wrap_succ (show i < 9223372036854775807 by omega)]
    have hgc : grp (y :: ys) g v = if eqB (rd_T43 y.f1 g) v = true then y :: grp ys g v else grp ys g v := by
      unfold grp
      rw [List.filter_cons]
    rw [hgc] at hnext
    by_cases he : eqB (rd_T43 y.f1 g) v = true
    · simp only [if_pos he] at hnext
      have he2 : ((rd_T43 y.f1 g).f0 == v.f0 && ((rd_T43 y.f1 g).f1 == v.f1)) = true := he
      have hyv := gv_or (rd_gv hm hc.1 hc.2)
      simp only [if_pos he2, if_pos hc.1, if_pos (show c < (y.f1.length : Int) by omega)]
      refine Ev.bind (add_ev r k t lo hi a b (rd_T43 y.f1 c) (by omega) (by omega) (by omega) hyv hab) ?_
      have hcc : col (y :: grp ys g v) c = rd_T43 y.f1 c :: col (grp ys g v) c := rfl
      rw [hcc, sumF] at hnext
      have hlen : r + (((y :: grp ys g v).length : Nat) : Int) = (r + 1) + ((grp ys g v).length : Int) := by rw [List.length_cons]; omega
      rw [hlen] at hnext
      generalize rd_T43 y.f1 c = u at hyv hnext ⊢
      by_cases h0 : u.f0 = true
      · simp only [if_pos h0] at hnext ⊢
        exact sB_l2 hl hg hc out ho ds dl x v ys (i + 1) (r + 1) k t lo hi a b h3 (by omega) (by omega) (by omega) hab hnext
      · have hf : u.f0 = false := by simpa using h0
        have hv : -1000 ≤ u.f1 ∧ u.f1 ≤ 1000 := by
          rcases hyv with h | h
          · exact absurd h h0
          · exact h
        simp only [if_neg h0] at hnext ⊢
        by_cases hk0 : k = 0
        · simp only [if_pos hk0] at hnext ⊢
          exact sB_l2 hl hg hc out ho ds dl x v ys (i + 1) (r + 1) (k + 1) (t + u.f1) _ _ u.f0 u.f0 h3 (by omega) (by omega) (by omega) (fun _ => ⟨hf, hf⟩) hnext
        · simp only [if_neg hk0] at hnext ⊢
          exact sB_l2 hl hg hc out ho ds dl x v ys (i + 1) (r + 1) (k + 1) (t + u.f1) _ _ a b h3 (by omega) (by omega) (by omega) (fun _ => hab hk0) hnext
    · simp only [if_neg he] at hnext
      have he2 : ¬ ((rd_T43 y.f1 g).f0 == v.f0 && ((rd_T43 y.f1 g).f1 == v.f1)) = true := he
      simp only [if_neg he2]
      exact sB_l2 hl hg hc out ho ds dl x v ys (i + 1) r k t lo hi a b h3 (by omega) hk ht hab hnext
theorem sB_l1 (hl : TbG l) (hg : 0 ≤ g ∧ g ≤ 2) (hc : 0 ≤ c ∧ c ≤ 2) (ds : List S43) (hd : ds.length ≤ 1000) : ∀ (vs : List S43) (j : Nat) (out : List S53), ds.drop j = vs → out.length = j →
    Ev (fun n => spec_ByGroup.l1 n l g c out ds (ds.length : Int) (j : Int)) (allV l g c vs out, true)
  | [], j, out, h, ho => by
    have h1 := drop_nil h
    refine ev_succ ?_
    simp only [spec_ByGroup.l1, if_neg (show ¬ ((j : Int) < (ds.length : Int)) by omega)]
    exact ev_now rfl
  | v :: vs, j, out, h, ho => by
    obtain ⟨h1, h2, h3⟩ := drop_cons h
    refine ev_succ ?_
    simp only [spec_ByGroup.l1, if_pos (show (j : Int) < (ds.length : Int) by omega), if_pos (show (0 : Int) ≤ (j : Int) by omega), spec_l4None.f, Option.bind_some, rd_T43_drop h]
    refine sB_l2 hl hg hc out (by omega) ds (ds.length : Int) (j : Int) v l 0 0 0 0 0 0 true true rfl (by omega) (by omega) (by omega) (fun h => absurd rfl h) ?_
    rw [wrap_succ (show j < 9223372036854775807 by omega)]
    have ih := sB_l1 hl hg hc ds hd vs (j + 1) (out ++ [rowV l g c out.length v]) h3 (by simp [ho])
    rw [allV]
    simp only [Int.zero_add]
    unfold rowV tot at ih ⊢
    rw [ho] at ih ⊢
    exact ih
theorem sB_l0 (hl : TbG l) (hg : 0 ≤ g ∧ g ≤ 2) (hc : 0 ≤ c ∧ c ≤ 2) : ∀ (ys : List S53) (j : Nat) (out : List S43), l.drop j = ys → out.length = j → j ≤ l.length → (∀ x ∈ out, gvS x = true) →
    Ev (fun n => spec_ByGroup.l0 n l g c out l (l.length : Int) (j : Int)) (allV l g c (risen ltVal (out ++ col ys g)) [], true)
  | [], j, out, h, ho, hj, hv => by
    have h1 := drop_nil h
    have hb := hl.1
    refine ev_succ ?_
    simp only [spec_ByGroup.l0, if_neg (show ¬ ((j : Int) < (l.length : Int)) by omega), col, List.map_nil, List.append_nil]
    refine Ev.bind (l4D_ev out hv (by omega)) ?_
    have hr := risen_length (lt := ltVal) out
    exact sB_l1 hl hg hc (risen ltVal out) (by omega) (risen ltVal out) 0 [] rfl rfl
  | y :: ys, j, out, h, ho, hj, hv => by
    obtain ⟨h1, h2, h3⟩ := drop_cons h
    have hb := hl.1
    have hm := hl.2 y (List.mem_of_getElem? h2)
    refine ev_succ ?_
    simp only [spec_ByGroup.l0, if_pos (show (j : Int) < (l.length : Int) by omega), if_pos (show (0 : Int) ≤ (j : Int) by omega), rd_T53_drop h, if_pos hg.1, if_pos (show g < (y.f1.length : Int) by omega), if_pos (show out.length < 8796093022208 by omega), wrap_succ (show j < 9223372036854775807 by omega)]
    have ih := sB_l0 hl hg hc ys (j + 1) (out ++ [rd_T43 y.f1 g]) h3 (by simp [ho]) h1 (fun x hx => by
      rcases List.mem_append.1 hx with hx | hx
      · exact hv x hx
      · rw [List.mem_singleton.1 hx]
        exact rd_gv hm hg.1 hg.2)
    rw [List.append_assoc] at ih
    exact ih
end
theorem ByGroup_both (l : List S53) (g c : Int) (hO : OkRowS l) : ∃ (y : List S53) (b : Bool), Ev (fun k => spec_ByGroup.f k l g c) (y, b) ∧ Ev (fun k => impl_ByGroup.f k l g c) (y, b) ∧ BdWS y := by
  have hbad : BdWS [] := ⟨by simp, by simp⟩
  have hj0 : ∀ (h : Bool), h = true → Ev (fun k => spec_ByGroup.j0 k l g c h) (([] : List S53), false) := fun h e => by
    subst e
    refine ev_succ ?_
    simp only [spec_ByGroup.j0, if_true]
    exact ev_now rfl
  simp only [spec_ByGroup.f, impl_ByGroup.f, l1In_eq, within_eq, Option.bind_some]
  cases e : gt none l && decide (l.length ≤ 20) with
  | false =>
    refine ⟨[], false, Ev.bind (sGT_ev l hO) ?_, Ev.bind (iGT_ev l hO) ?_, hbad⟩
    · simp only [e, Bool.false_eq_true, if_false]
      exact hj0 true rfl
    · simp only [e, Bool.false_eq_true, if_false]
      exact ev_now rfl
  | true =>
    have hl : TbG l := by
      simp only [Bool.and_eq_true, decide_eq_true_eq] at e
      exact ⟨e.2, gt_all e.1⟩
    have hb := hl.1
    cases eg : win g 0 2 with
    | false =>
      refine ⟨[], false, Ev.bind (sGT_ev l hO) ?_, Ev.bind (iGT_ev l hO) ?_, hbad⟩
      · simp only [e, Bool.false_eq_true, if_false, if_true]
        exact hj0 true rfl
      · simp only [e, Bool.false_eq_true, if_false, if_true]
        exact ev_now rfl
    | true =>
      have hg : 0 ≤ g ∧ g ≤ 2 := by simpa [win] using eg
      cases ec : win c 0 2 with
      | false =>
        refine ⟨[], false, Ev.bind (sGT_ev l hO) ?_, Ev.bind (iGT_ev l hO) ?_, hbad⟩
        · simp only [e, if_true]
          exact hj0 _ rfl
        · simp only [e, Bool.false_eq_true, if_false, if_true]
          exact ev_now rfl
      | true =>
        have hc : 0 ≤ c ∧ c ≤ 2 := by simpa [win] using ec
        have hcl : (col l g).length = l.length := by unfold col; rw [List.length_map]
        have hr := risen_length (lt := ltVal) (col l g)
        refine ⟨allV l g c (risen ltVal (col l g)) [], true, Ev.bind (sGT_ev l hO) ?_, Ev.bind (iGT_ev l hO) ?_, ⟨?_, fun r hr_ => ?_⟩⟩
        · simp only [e, if_true]
          refine ev_succ ?_
          simp only [spec_ByGroup.j0, Bool.not_true, Bool.false_eq_true, if_false]
          have := sB_l0 hl hg hc l 0 [] rfl rfl (Nat.zero_le _) (by simp)
          rw [List.nil_append] at this
          exact this
        · have hall : l.all (rowIn g) = true := by
            rw [List.all_eq_true]
            intro r hr_
            have := (hl.2 r hr_).1
            simp only [rowIn, Bool.and_eq_true, decide_eq_true_eq]
            omega
          simp only [e, if_true, if_pos (show (l.length + 1) * 32 ≤ 140737488355328 ∧ l.all (rowIn g) = true from ⟨by omega, hall⟩)]
          refine Ev.bind (column_ev g hg.1 hg.2 l hb hl.2) ?_
          simp only [impl_distinct.f, if_pos (show (col l g).length * 16 ≤ 140737488355328 by omega), Option.bind_some, if_pos (show ((risen ltVal (col l g)).length + 1) * 32 ≤ 140737488355328 by omega)]
          exact Ev.bind (byAll_ev hl hc _ []) (ev_now rfl)
        · rw [allV_length]
          simp only [List.length_nil]
          omega
        · have := allV_mem l g c (risen ltVal (col l g)) [] (by simp) r hr_
          omega
end Go.Proofs.Ytmlbihhaikknnaa.Pu
