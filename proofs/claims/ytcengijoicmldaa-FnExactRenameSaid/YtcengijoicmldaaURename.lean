/- The law FnExactRename over numbers and lists alone. No condition. -/
import Derived.Test.YtcengijoicmldaaPr1
import Derived.Test.YtcengijoicmldaaPr2
import Derived.Test.YtcengijoicmldaaPr3
import Derived.Test.YtcengijoicmldaaOps
import Derived.Test.YtcengijoicmldaaMerge1
import Derived.Test.YtcengijoicmldaaMerge0
import Derived.Test.YtcengijoicmldaaAput
import Derived.Test.YtcengijoicmldaaERename
namespace Go.Proofs.Ytcengijoicmldaa.Pu
open Go.RowKit Go.Proofs.Ytcengijoicmldaa.Pr Go.Proofs.Ytcengijoicmldaa.Pl Go.Proofs.Ytcengijoicmldaa.Ax Go.Proofs.Ytcengijoicmldaa.Ops Go.Proofs.YtcengijoicmldaaW.PrintWords Go.Proofs.YtcengijoicmldaaW.PrintLast Go.Proofs.YtcengijoicmldaaW.PrintMore
set_option linter.unusedVariables false
set_option linter.unusedSimpArgs false
def ren (a b x : Int) : Int := if x = a then b else x
def rev (a b n : Int) : Int := if n = b then a else n
theorem set_ren (a b : Int) : ∀ (xs : List Int) (j : Nat), xs.Pairwise (· < ·) → a ∈ xs → xs.set (ixf a j xs - j).toNat b = xs.map (ren a b)
  | [], j, _, h => by simp at h
  | x :: xs, j, hp, h => by
    obtain ⟨h1, h2⟩ := List.pairwise_cons.1 hp
    rw [ixf]
    by_cases e : x = a
    · subst e
      rw [if_pos rfl]
      have e1 : xs.map (ren x b) = xs := by
        rw [List.map_congr_left (g := id) (fun y hy => by have := h1 y hy; simp [ren]; omega)]
        simp
      simp [ren]
      exact e1.symm
    · rw [if_neg e]
      have ha : a ∈ xs := by
        rcases List.mem_cons.1 h with h | h
        · exact absurd h.symm e
        · exact h
      have ih := set_ren a b xs (j + 1) h2 ha
      have hi := ixf_in a xs (j + 1) ha
      rw [show (ixf a (j + 1) xs - (j : Int)).toNat = (ixf a (j + 1) xs - ((j + 1 : Nat) : Int)).toNat + 1 by omega, List.set_cons_succ, ih]
      simp [ren, e]
theorem ixf_ren (a b n : Int) (hn : n ≠ a) : ∀ (xs : List Int) (j : Nat), b ∉ xs → ixf n j (xs.map (ren a b)) = ixf (rev a b n) j xs
  | [], j, _ => rfl
  | x :: xs, j, hb => by
    have hbx : x ≠ b := fun e => hb (by simp [e])
    have ih := ixf_ren a b n hn xs (j + 1) (fun h => hb (by simp [h]))
    rw [List.map_cons, ixf, ixf, ih]
    have e : (ren a b x = n) ↔ (x = rev a b n) := by
      unfold ren rev
      split <;> split <;> omega
    by_cases h : x = rev a b n
    · rw [if_pos (e.2 h), if_pos h]
    · rw [if_neg (fun h2 => h (e.1 h2)), if_neg h]
theorem mem_ren (a b n : Int) (xs : List Int) (ha : a ∈ xs) : n ∈ xs.map (ren a b) ↔ n = b ∨ (n ∈ xs ∧ n ≠ a) := by
  rw [List.mem_map]
  constructor
  · rintro ⟨x, hx, rfl⟩
    unfold ren
    split
    · exact .inl rfl
    · rename_i h
      exact .inr ⟨hx, h⟩
  · rintro (rfl | ⟨h1, h2⟩)
    · exact ⟨a, ha, by simp [ren]⟩
    · exact ⟨n, h1, by simp [ren, h2]⟩
theorem ren_names {ns : List Int} {a b : Int} (hp : ns.Pairwise (· < ·)) (ha : a ∈ ns) (hb : b ∉ ns) : sortI (ns.map (ren a b)) = ins (ns.filter fun n => decide (n ≠ a)) b := by
  have hd : (ns.map (ren a b)).Pairwise (· ≠ ·) := by
    rw [List.pairwise_map]
    refine List.Pairwise.imp_of_mem (fun {x y} hx hy h => ?_) hp
    have hxb : x ≠ b := fun e => hb (e ▸ hx)
    have hyb : y ≠ b := fun e => hb (e ▸ hy)
    unfold ren
    split <;> split <;> omega
  have hd2 : (sortI (ns.map (ren a b))).Pairwise (· ≠ ·) := ((List.mergeSort_perm (ns.map (ren a b)) _).symm.pairwise hd (fun h => Ne.symm h))
  have hs : (sortI (ns.map (ren a b))).Pairwise (· ≤ ·) := Ax.sorted_le _
  refine rising_uniq ((hs.and hd2).imp (fun h => by omega)) (ins_rising b (hp.filter _)) (fun x => ?_)
  rw [mem_ins]
  show x ∈ (ns.map (ren a b)).mergeSort _ ↔ _
  rw [List.mem_mergeSort, mem_ren a b x ns ha, List.mem_filter]
  simp
def nwN (ns : List Int) (a b : Int) : List Int := ins (ns.filter fun n => decide (n ≠ a)) b
def rnV (ns : List Int) (ts : List (List Int)) (a b : Int) : List Int × List (List Int) × Bool :=
  if gr ns ts then (if a ∈ ns then (if b ∈ ns then ([], [], false) else if win b 0 20 then tell (nwN ns a b) (risen ltL (ts.map fun t => pk ns t ((nwN ns a b).map (rev a b)))) else ([], [], false)) else ([], [], false)) else ([], [], false)
theorem nwN_len {ns : List Int} {a b : Int} (hp : ns.Pairwise (· < ·)) (ha : a ∈ ns) (hb : b ∉ ns) : (nwN ns a b).length = ns.length := by
  unfold nwN
  rw [← ren_names hp ha hb]
  simp [sortI]
theorem nwN_mem {ns : List Int} {a b n : Int} : n ∈ nwN ns a b ↔ n = b ∨ (n ∈ ns ∧ n ≠ a) := by
  unfold nwN
  rw [mem_ins, List.mem_filter]
  simp
theorem rev_mem {ns : List Int} {a b : Int} (ha : a ∈ ns) : ∀ x ∈ (nwN ns a b).map (rev a b), x ∈ ns := by
  intro x hx
  obtain ⟨n, hn, rfl⟩ := List.mem_map.1 hx
  unfold rev
  split
  · exact ha
  · rename_i h
    rcases nwN_mem.1 hn with e | e
    · exact absurd e h
    · exact e.1
theorem pk_ren {ns : List Int} {a b : Int} (ha : a ∈ ns) (hb : b ∉ ns) (t : List Int) : pk (ns.map (ren a b)) t (nwN ns a b) = pk ns t ((nwN ns a b).map (rev a b)) := by
  unfold pk
  rw [List.map_map]
  refine List.map_congr_left (fun n hn => ?_)
  have hna : n ≠ a := by
    intro e
    rcases nwN_mem.1 hn with h | h
    · exact hb (h ▸ e ▸ ha)
    · exact h.2 e
  show rd t (ixf n 0 (ns.map (ren a b))) = rd t (ixf (rev a b n) 0 ns)
  rw [ixf_ren a b n hna ns 0 hb]
theorem all_ev {now sn : List Int} (hn : now.length < 9223372036854775807) (hs : sn.length ≤ 1048576) (hx : ∀ x ∈ sn, x ∈ now) : ∀ ts : List (List Int), (∀ t ∈ ts, t.length = now.length) → ∃ K, ∀ k, K ≤ k → ∀ t ∈ ts, impl_under.f k now t sn = some (pk now t sn)
  | [], _ => ⟨0, fun k _ t h => by simp at h⟩
  | t :: ts, h => by
    obtain ⟨K1, h1⟩ := all_ev hn hs hx ts (fun t ht => h t (by simp [ht]))
    obtain ⟨K2, h2⟩ := under_ev now t sn hn (h t (by simp)) hs hx
    refine ⟨max K1 K2, fun k hk u hu => ?_⟩
    rcases List.mem_cons.1 hu with rfl | hu
    · exact h2 k (by omega)
    · exact h1 k (by omega) u hu
theorem l0_ev (a b : Int) (ns : List Int) (ts : List (List Int)) (hb : ns.length < 1000000) {r : List Int × List (List Int) × Bool} : ∀ (ys : List Int) (j : Nat) (out : List Int), ns.drop j = ys → out.length ≤ j →
    (∀ o : List Int, o = out ++ ys.filter (fun n => decide (n ≠ a)) → Ev (fun k => (spec_l1Put.f k o b).bind fun t329 => (spec_Rename.l1 k a b t329 ([] : List Int) t329 (t329.length : Int) 0 ns ts)) r) →
    Ev (fun k => spec_Rename.l0 k a b out ns (ns.length : Int) (j : Int) ns ts) r
  | [], j, out, h, ho, hr => by
    have h1 := drop_nil h
    refine ev_succ ?_
    simp only [spec_Rename.l0]
    simp only [if_neg (show ¬ ((j : Int) < (ns.length : Int)) by omega)]
    exact hr out (by simp)
  | y :: ys, j, out, h, ho, hr => by
    obtain ⟨h1, h2, h3⟩ := drop_cons h
    refine ev_succ ?_
    simp only [spec_Rename.l0]
    simp only [if_pos (show (j : Int) < (ns.length : Int) by omega), if_pos (show (0 : Int) ≤ (j : Int) by omega), rd_drop h, wrap_succ (show j < 9223372036854775807 by omega)]
    by_cases e : y = a
    · simp only [if_pos e]
      exact l0_ev a b ns ts hb ys (j + 1) out h3 (by omega) (fun o ho => hr o (by rw [ho, List.filter_cons, if_neg (by simpa using e)]))
    · simp only [if_neg e, if_pos (show out.length < 17592186044416 by omega)]
      exact l0_ev a b ns ts hb ys (j + 1) (out ++ [y]) h3 (by simp; omega) (fun o ho => hr o (by rw [ho, List.filter_cons, if_pos (by simpa using e)]; simp))
theorem l1_ev (a b : Int) (ns : List Int) (ts : List (List Int)) (sn : List Int) (hb : sn.length < 1000000) {r : List Int × List (List Int) × Bool} : ∀ (ys : List Int) (j : Nat) (out : List Int), sn.drop j = ys → out.length ≤ j →
    (∀ o : List Int, o = out ++ ys.map (rev a b) → Ev (fun k => spec_Rename.l2 k sn o ([] : List (List Int)) ts (ts.length : Int) 0 ns ts) r) →
    Ev (fun k => spec_Rename.l1 k a b sn out sn (sn.length : Int) (j : Int) ns ts) r
  | [], j, out, h, ho, hr => by
    have h1 := drop_nil h
    refine ev_succ ?_
    simp only [spec_Rename.l1]
    simp only [if_neg (show ¬ ((j : Int) < (sn.length : Int)) by omega)]
    exact hr out (by simp)
  | y :: ys, j, out, h, ho, hr => by
    obtain ⟨h1, h2, h3⟩ := drop_cons h
    refine ev_succ ?_
    simp only [spec_Rename.l1]
    simp only [if_pos (show (j : Int) < (sn.length : Int) by omega), if_pos (show (0 : Int) ≤ (j : Int) by omega), rd_drop h, wrap_succ (show j < 9223372036854775807 by omega), if_pos (show out.length < 17592186044416 by omega)]
    by_cases e : y = b
    · simp only [if_pos e]
      exact l1_ev a b ns ts sn hb ys (j + 1) (out ++ [a]) h3 (by simp; omega) (fun o ho => hr o (by rw [ho]; simp [rev, e]))
    · simp only [if_neg e]
      exact l1_ev a b ns ts sn hb ys (j + 1) (out ++ [y]) h3 (by simp; omega) (fun o ho => hr o (by rw [ho]; simp [rev, e]))
theorem l2_ev (ns sn order : List Int) (hn : ns.length < 1000000) (hs : sn.length < 1000000) (hm : order.length < 1000000) (hx : ∀ x ∈ order, x ∈ ns) (ts : List (List Int)) (ht : ∀ t ∈ ts, t.length = ns.length) (hb : ts.length < 1000000) : ∀ (ys : List (List Int)) (j : Nat) (out : List (List Int)), ts.drop j = ys → out.length ≤ j → j ≤ ts.length → (∀ t ∈ out, t.length = order.length) →
    Ev (fun k => spec_Rename.l2 k sn order out ts (ts.length : Int) (j : Int) ns ts) (tell sn (risen ltL (out ++ ys.map fun t => pk ns t order)))
  | [], j, out, h, ho, hj, hl => by
    have h2 := drop_nil h
    refine ev_succ ?_
    simp only [spec_Rename.l2]
    simp only [if_neg (show ¬ ((j : Int) < (ts.length : Int)) by omega)]
    refine Ev.bind (l3Tell_ev sn hs order.length hm out hl (by omega)) (ev_now ?_)
    rw [List.map_nil, List.append_nil]
  | y :: ys, j, out, h, ho, hj, hl => by
    obtain ⟨i1, i2, i3⟩ := drop_cons h
    have hy := ht y (List.mem_of_getElem? i2)
    refine ev_succ ?_
    simp only [spec_Rename.l2]
    simp only [if_pos (show (j : Int) < (ts.length : Int) by omega), if_pos (show (0 : Int) ≤ (j : Int) by omega), rdL1_drop h, wrap_succ (show j < 9223372036854775807 by omega), if_pos (show out.length < 5864062014805 by omega)]
    refine Ev.bind (pick_ev ns y order (by omega) hy (by omega) hx) ?_
    have ih := l2_ev ns sn order hn hs hm hx ts ht hb ys (j + 1) (out ++ [pk ns y order]) i3 (by simp; omega) i1 (fun t h => by
      rcases List.mem_append.1 h with h | h
      · exact hl t h
      · rw [List.mem_singleton.1 h]; exact pk_length _ _ _)
    simpa using ih
theorem renameS_ev (ns : List Int) (ts : List (List Int)) (hN : LnS ns) (hT : LnSS ts) (a b : Int) : Ev (fun k => spec_Rename.f k ns ts a b) (rnV ns ts a b) := by
  have no : Ev (fun k => spec_Rename.j0 k a b true ns ts) ([], [], false) := by
    refine ev_succ ?_
    simp only [spec_Rename.j0, if_true]
    exact ev_now rfl
  simp only [spec_Rename.f]
  refine Ev.bind (sGR_ev ns ts hN hT) ?_
  unfold rnV
  cases hg : gr ns ts
  · simp only [Bool.false_eq_true, if_false]
    exact no
  · simp only [if_true]
    refine Ev.bind (at_ev ns a hN.1) ?_
    by_cases ha : a ∈ ns
    · have hi := ix_in ha
      simp only [if_neg (show ¬ ix ns a < 0 by omega), if_pos ha]
      refine Ev.bind (at_ev ns b hN.1) ?_
      by_cases hb : b ∈ ns
      · have hj := ix_in hb
        simp only [if_pos (show ix ns b ≥ 0 by omega), if_pos hb]
        exact no
      · have hj := ix_out hb
        simp only [if_neg (show ¬ ix ns b ≥ 0 by omega), if_neg hb, l1In_eq, Option.bind_some]
        cases hw : win b 0 20
        · simp only [Bool.not_false, Bool.false_eq_true, if_false]
          exact no
        · simp only [Bool.not_true, if_true]
          refine ev_succ ?_
          simp only [spec_Rename.j0, Bool.false_eq_true, if_false]
          have hl := gr_len hg
          have hr := (gr_rising hg).1
          have hnl := nwN_len hr ha hb
          refine l0_ev a b ns ts (by omega) ns 0 [] rfl (Nat.le_refl _) (fun o ho => ?_)
          have ho2 : o.length ≤ ns.length := by rw [ho]; exact List.length_filter_le _ _
          refine Ev.bind (l1Put_ev b o (by omega)) ?_
          have e : ins o b = nwN ns a b := by rw [ho]; rfl
          rw [e]
          refine l1_ev a b ns ts (nwN ns a b) (by omega) (nwN ns a b) 0 [] rfl (Nat.le_refl _) (fun o2 ho2 => ?_)
          have e2 : o2 = (nwN ns a b).map (rev a b) := by rw [ho2]; rfl
          subst e2
          have := l2_ev ns (nwN ns a b) ((nwN ns a b).map (rev a b)) (by omega) (by omega) (by rw [List.length_map]; omega) (rev_mem ha) ts (gr_names hg).2 (by omega) ts 0 [] rfl (Nat.le_refl _) (Nat.zero_le _) (by simp)
          simpa using this
    · have hi := ix_out ha
      simp only [if_pos (show ix ns a < 0 by omega), if_neg ha]
      exact no
theorem renameI_ev (ns : List Int) (ts : List (List Int)) (hN : LnS ns) (hT : LnSS ts) (a b : Int) : Ev (fun k => impl_Rename.f k ns ts a b) (rnV ns ts a b) := by
  simp only [impl_Rename.f]
  refine Ev.bind (iGR_ev ns ts hN hT) ?_
  unfold rnV
  cases hg : gr ns ts
  · simp only [Bool.false_eq_true, if_false, if_true]
    exact ev_now rfl
  · simp only [Bool.true_eq_false, if_true, if_false]
    refine Ev.bind (has_ev ns a hN.1) ?_
    by_cases ha : a ∈ ns
    · simp only [ha, decide_true, Bool.true_eq_false, if_false, if_true]
      refine Ev.bind (has_ev ns b hN.1) ?_
      by_cases hb : b ∈ ns
      · simp only [hb, decide_true, if_true]
        exact ev_now rfl
      · simp only [hb, decide_false, Bool.false_eq_true, if_false, within_eq, Option.bind_some]
        cases hw : win b 0 20
        · simp only [if_true, Bool.false_eq_true, if_false]
          exact ev_now rfl
        · simp only [Bool.true_eq_false, if_true, if_false]
          have hl := gr_len hg
          have hr := (gr_rising hg).1
          have hnl := nwN_len hr ha hb
          have hi := ix_in ha
          have hset : ns.set (ix ns a).toNat b = ns.map (ren a b) := by
            have := set_ren a b ns 0 hr ha
            simpa [ix] using this
          have hsort : sortI (ns.map (ren a b)) = nwN ns a b := ren_names hr ha hb
          have hlen : (ns.map (ren a b)).length = ns.length := List.length_map _
          unfold renMain
          refine Ev.bind (index_ev ns a hN.1) ?_
          rw [hset, hsort]
          obtain ⟨K, hK⟩ := all_ev (now := ns.map (ren a b)) (sn := nwN ns a b) (by omega) (by omega) (fun x hx => by rw [mem_ren a b x ns ha]; exact nwN_mem.1 hx) ts (fun t ht => by rw [hlen]; exact (gr_names hg).2 t ht)
          refine ⟨K, fun k hk => ?_⟩
          have hk2 := hK k hk
          have hall : ts.all (undOk k (ns.map (ren a b)) (nwN ns a b)) = true := by
            rw [List.all_eq_true]
            intro t ht
            unfold undOk
            rw [hk2 t ht]
            rfl
          have hmap : ts.map (undK k (ns.map (ren a b)) (nwN ns a b)) = ts.map fun t => pk ns t ((nwN ns a b).map (rev a b)) := by
            refine List.map_congr_left (fun t ht => ?_)
            unfold undK
            rw [hk2 t ht, pk_ren ha hb]
            rfl
          simp only []
          rw [if_pos ⟨⟨hi.1, hi.2⟩, by omega, by omega, hall⟩, hmap]
          rw [related_eq (nwN ns a b) (by omega) ns.length (by omega) _ (fun x hx => by
            obtain ⟨t, _, rfl⟩ := List.mem_map.1 hx
            rw [pk_length, List.length_map, hnl]) (by rw [List.length_map]; omega)]
    · simp only [ha, decide_false, if_true, if_false]
      exact ev_now rfl
theorem rnV_bd (ns : List Int) (ts : List (List Int)) (a b : Int) : BdIntS (rnV ns ts a b).1 ∧ BdIntSS (rnV ns ts a b).2.1 := by
  unfold rnV
  cases hg : gr ns ts
  · exact bd_nil
  · simp only [if_true]
    by_cases ha : a ∈ ns
    · rw [if_pos ha]
      by_cases hb : b ∈ ns
      · rw [if_pos hb]
        exact bd_nil
      · rw [if_neg hb]
        cases win b 0 20
        · exact bd_nil
        · simp only [if_true]
          refine tell_BdS _ _ (fun x hx => ?_)
          rw [mem_risen] at hx
          obtain ⟨t, _, rfl⟩ := List.mem_map.1 hx
          have h1 := nwN_len (gr_rising hg).1 ha hb
          have h2 := (gr_len hg).1
          rw [pk_length, List.length_map]
          omega
    · rw [if_neg ha]
      exact bd_nil
theorem Rename_both (ns : List Int) (ts : List (List Int)) (a1 a2 : Int) (h0 : BdIntS ns) (h1 : BdIntSS ts) : ∃ (y0 : List Int) (y1 : List (List Int)) (b : Bool), Ev (fun k => spec_Rename.f k ns ts a1 a2) (y0, y1, b) ∧ Ev (fun k => impl_Rename.f k ns ts a1 a2) (y0, y1, b) ∧ BdIntS y0 ∧ BdIntSS y1 :=
  ⟨(rnV ns ts a1 a2).1, (rnV ns ts a1 a2).2.1, (rnV ns ts a1 a2).2.2, renameS_ev ns ts (ok_IntS h0) (ok_IntSS h1) a1 a2, renameI_ev ns ts (ok_IntS h0) (ok_IntSS h1) a1 a2, (rnV_bd ns ts a1 a2).1, (rnV_bd ns ts a1 a2).2⟩
end Go.Proofs.Ytcengijoicmldaa.Pu
