/- Values in order, each unlike one once: what spec.l4Distinct comes to. Conditions: good values; lengths that Go can hold. -/
import Derived.Test.YtmlbihhaikknnaaPr0
import Derived.Test.YtmlbihhaikknnaaPr6
import Derived.Test.YtmlbihhaikknnaaPr7
import Derived.Test.YtmlbihhaikknnaaMx2
import Derived.Test.YtmlbihhaikknnaaMerge0
namespace Go.Proofs.Ytmlbihhaikknnaa.Ax
open Go.RowKit Go.Proofs.Ytmlbihhaikknnaa.Pr Go.Proofs.Ytmlbihhaikknnaa.Pl Go.Proofs.YtmlbihhaikknnaaW.PrintWords Go.Proofs.YtmlbihhaikknnaaW.PrintLast Go.Proofs.YtmlbihhaikknnaaW.PrintMore
set_option linter.unusedVariables false
set_option linter.unusedSimpArgs false
theorem bef_eq {x t : S43} (hx : gvS x = true) (ht : gvS t = true) (hne : x ≠ t) : spec_l4Before.f x.f0 x.f1 t.f0 t.f1 = some (ltVal x t) := by
  rcases x with ⟨a, m⟩; rcases t with ⟨b, n⟩
  simp only [gvS, gv] at hx ht
  cases a <;> cases b <;> simp [spec_l4Before.f, ltVal, cmpVal] at hx ht hne ⊢
  · split <;> (try split) <;> omega
  · omega
theorem ne_parts (x t : S43) : (!(x.f0 == t.f0) || (!(x.f1 == t.f1))) = !decide (x = t) := by
  rw [← eq_parts, Bool.not_and]
theorem l4D_l1 (t : S43) (ht : gvS t = true) (R L : List S43) (n i : Int) (res : List S43) (hR : ∀ x ∈ R, gvS x = true) (hb : R.length < 1000000) (hnext : Ev (fun k => spec_l4Distinct.l0 k (insB ltVal R t) L n (wrap64 (i + 1))) res) :
    ∀ (ys : List S43) (j : Nat), R.drop j = ys → j ≤ R.length → (∀ x ∈ R.take j, ltVal x t = true) → Ev (fun k => spec_l4Distinct.l1 k R (j : Int) L n i t.f0 t.f1) res
  | [], j, h, hjl, hp => by
    have hj := drop_nil h
    have hje : j = R.length := by omega
    subst hje
    rw [List.take_length] at hp
    have e : insB ltVal R t = R ++ [t] := by
      have := insB_split t R [] hp
      simpa [insB] using this
    rw [e] at hnext
    refine ev_succ ?_
    simp only [spec_l4Distinct.l1]
    simp only [if_neg (show ¬ ((R.length : Int) < (R.length : Int)) by omega), Option.bind_some, if_pos (show (0 : Int) ≤ (R.length : Int) by omega), if_pos (show (R.length : Int) ≤ (R.length : Int) by omega), Int.toNat_natCast, List.take_length, List.drop_length, List.length_nil, List.nil_append, List.append_nil, List.length_append, List.length_singleton]
    simp only [if_pos (show 0 + R.length < 8796093022208 by omega), if_pos (show R.length < 8796093022208 by omega), if_pos (show 0 + R.length + 1 + 0 < 8796093022208 by omega), if_pos (show R.length + 1 + 0 < 8796093022208 by omega)]
    exact hnext
  | y :: ys, j, h, hjl, hp => by
    obtain ⟨i1, i2, i3⟩ := drop_cons h
    have hsplit : R = R.take j ++ (y :: ys) := by rw [← h, List.take_append_drop]
    have hi : insB ltVal R t = R.take j ++ insB ltVal (y :: ys) t := by
      have := insB_split t (R.take j) (y :: ys) hp
      rwa [← hsplit] at this
    have hgy := hR y (List.mem_of_getElem? i2)
    have htl : (R.take j).length = j := by rw [List.length_take]; omega
    have hdl : (R.drop j).length = R.length - j := List.length_drop
    refine ev_succ ?_
    simp only [spec_l4Distinct.l1]
    simp only [if_pos (show (j : Int) < (R.length : Int) by omega), if_pos (show (0 : Int) ≤ (j : Int) by omega), rd_T43_drop h, ne_parts, eq_parts]
    by_cases c2 : y = t
    · have c0 : ltVal y t = false := by rw [c2]; exact ltVal_ord.irr t
      have hs : insB ltVal R t = R := by rw [hi, insB, c0]; simp only [Bool.false_eq_true, if_false, if_pos c2]; exact hsplit.symm
      rw [hs] at hnext
      simp only [decide_eq_true c2, Bool.not_true, Bool.false_eq_true, if_false, if_true]
      exact hnext
    · simp only [decide_eq_false c2, Bool.not_false, if_true, bef_eq hgy ht c2, Option.bind_some]
      by_cases c1 : ltVal y t = true
      · simp only [if_pos c1, wrap_succ (show j < 9223372036854775807 by omega)]
        refine l4D_l1 t ht R L n i res hR hb hnext ys (j + 1) i3 i1 (fun x hx => ?_)
        rw [List.take_add_one, i2] at hx
        rcases List.mem_append.1 hx with hx | hx
        · exact hp x hx
        · have : x = y := by simpa using hx
          rw [this]
          exact c1
      · have hs : insB ltVal R t = R.take j ++ [t] ++ R.drop j := by
          rw [hi, insB, if_neg c1, if_neg c2, h]
          simp
        rw [hs] at hnext
        simp only [if_neg c1, Bool.false_eq_true, if_false, Option.bind_some, if_pos (show (j : Int) ≤ (R.length : Int) by omega), Int.toNat_natCast, List.nil_append, List.length_nil, List.length_append, List.length_singleton, htl, hdl]
        simp only [if_pos (show 0 + j < 8796093022208 by omega), if_pos (show j < 8796093022208 by omega), if_pos (show 0 + j + 1 + (R.length - j) < 8796093022208 by omega), if_pos (show j + 1 + (R.length - j) < 8796093022208 by omega)]
        exact hnext
theorem l4D_l0 (L : List S43) (hL : ∀ x ∈ L, gvS x = true) : ∀ (ys : List S43) (j : Nat) (R : List S43), L.drop j = ys → (∀ x ∈ R, gvS x = true) → R.length + ys.length < 1000000 → L.length < 1000000 →
    Ev (fun k => spec_l4Distinct.l0 k R L (L.length : Int) (j : Int)) (putsB ltVal R ys)
  | [], j, R, h, hR, hb, hb2 => by
    have h1 := drop_nil h
    refine ev_succ ?_
    simp only [spec_l4Distinct.l0]
    simp only [if_neg (show ¬ ((j : Int) < (L.length : Int)) by omega)]
    exact ev_now rfl
  | y :: ys, j, R, h, hR, hb, hb2 => by
    obtain ⟨h1, h2, h3⟩ := drop_cons h
    have hy := hL y (List.mem_of_getElem? h2)
    have hlen := insB_length (lt := ltVal) y R
    simp only [List.length_cons] at hb
    refine ev_succ ?_
    simp only [spec_l4Distinct.l0]
    simp only [if_pos (show (j : Int) < (L.length : Int) by omega), if_pos (show (0 : Int) ≤ (j : Int) by omega), rd_T43_drop h]
    refine l4D_l1 y hy R L (L.length : Int) (j : Int) _ hR (by omega) ?_ R 0 rfl (Nat.zero_le _) (by simp)
    rw [wrap_succ (show j < 9223372036854775807 by omega)]
    exact l4D_l0 L hL ys (j + 1) (insB ltVal R y) h3 (fun x hx => by
      rcases (mem_insB y x R).1 hx with h | h
      · rw [h]; exact hy
      · exact hR x h) (by omega) hb2
theorem l4D_ev (L : List S43) (hL : ∀ x ∈ L, gvS x = true) (hb : L.length < 1000000) : Ev (fun k => spec_l4Distinct.f k L) (risen ltVal L) := by
  simp only [spec_l4Distinct.f]
  exact l4D_l0 L hL L 0 [] rfl (by simp) (by simpa using hb) hb
end Go.Proofs.Ytmlbihhaikknnaa.Ax
