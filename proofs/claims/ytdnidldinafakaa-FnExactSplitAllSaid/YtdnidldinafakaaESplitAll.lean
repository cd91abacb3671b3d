/- impl.SplitAll: parts, each that a sentence cuts taken apart. Conditions: what badIn comes to; lengths that Go can make room for. -/
import Derived.Test.YtdnidldinafakaaPr0
import Derived.Test.YtdnidldinafakaaPr1
import Derived.Test.YtdnidldinafakaaPr7
import Derived.Test.YtdnidldinafakaaSS
import Derived.Test.YtdnidldinafakaaEGoodDeps
import Derived.Test.YtdnidldinafakaaMx8
import Derived.Test.YtdnidldinafakaaEWithout
import Derived.Test.YtdnidldinafakaaIv
import Derived.Test.YtdnidldinafakaaWFoot
namespace Go.Proofs.Ytdnidldinafakaa.Pr
open Go.RowKit Go.Proofs.Ytdnidldinafakaa Go.Proofs.YtdnidldinafakaaW.PrintWords Go.Proofs.YtdnidldinafakaaW.PrintLast Go.Proofs.YtdnidldinafakaaW.PrintMore
set_option linter.unusedVariables false
set_option linter.unusedSimpArgs false
def split1 (k : Nat) (l : List S42) : Nat → List (List Int) → Nat → Option (List (List Int))
  | 0, _, _ => none
  | n + 1, ps, i => if i < ps.length then (impl_badIn.f k l (ps.getD i [])).bind fun q => if q.2.2 = true then (if (ps.length + 1) * 24 ≤ 140737488355328 then (impl_together.f q.1 q.2.1).bind fun p1 => (impl_without.f (ps.getD i []) q.2.1).bind fun p2 => split1 k l n (ps.take i ++ ([p1, p2] ++ ps.drop (i + 1))) i else none) else split1 k l n ps (i + 1) else some ps
def impl_SplitAll.f (k : Nat) (a0 : Int) (l1 : List S42) : Option (List (List Int) × Bool) :=
  (impl_GoodDeps.f a0 l1).bind fun b => if b = true then (impl_allColumns.f k a0).bind fun cs => (split1 k l1 k [cs] 0).bind fun r => some (r, true) else some ([], false)
set_option maxHeartbeats 8000000 in
set_option maxRecDepth 100000 in
theorem impl_SplitAll.calls (k : Nat) (a0 : Int) (A1 : Option Addr) (c1 : Nat) (l1 : List S42) (r1 : List (List Int)) (r2 : Bool) (w : World) (hr1 : Kd.C k42 w A1 l1.length l1) (hc1 : l1.length ≤ c1) (h : impl_SplitAll.f k a0 l1 = some (r1, r2)) :
    Calls Try.prog 19 #[.int .i64 a0, .slice A1 l1.length c1] w fun e w' => ∃ v0_ : Value, e = .returned (.tuple #[v0_, .bool r2]) ∧ Kd.S (Kd.slice 3 (Kd.int .i64)) 37 w' w.heap.size (fun _ => True) v0_ r1 ∧ Below w.heap.size w w' := by
  unfold impl_SplitAll.f at h
  obtain ⟨b, hg, h2⟩ := Option.bind_eq_some_iff.mp h
  clear h
  have h := h2
  clear h2
  have HB := Aside0.mk (Below.refl w.heap.size w)
  have HR1 := Aside0.mk hr1
  have HR0 := Aside0.mk hr1
  have HG := Aside0.mk hg
  have HC1 := Aside0.mk hc1
  clear hr1 hc1 hg
  cases b with
  | false =>
    simp only [Bool.false_eq_true, if_false] at h
    obtain ⟨rfl, rfl⟩ : [] = r1 ∧ false = r2 := by simpa using h
    clear h
    go_enter Try.func19, Try.ntmps19
    go_wp2_with (first | (go_at_call 25; refine (impl_GoodDeps.calls a0 A1 c1 l1 false _ HR1.out HC1.out HG.out).mono ?_; rintro e w3 ⟨rfl, hb⟩; replace HB := Aside0.mk (below_step HB.out hb); clear hb))
    go_ret2
    exact ⟨.slice none 0 0, rfl, Kd.S_nil _ _ _ _ _, HB.out⟩
  | true =>
    simp only [if_true] at h
    obtain ⟨cs, hcs, h2⟩ := Option.bind_eq_some_iff.mp h
    obtain ⟨r, hr, h3⟩ := Option.bind_eq_some_iff.mp h2
    obtain ⟨rfl, rfl⟩ : r = r1 ∧ true = r2 := by simpa using h3
    have HCS := Aside0.mk hcs
    have HF := Aside0.mk hr
    clear h h2 h3 hcs hr
    go_enter Try.func19, Try.ntmps19
    go_wp2_with (first | (go_at_call 25; refine (impl_GoodDeps.calls a0 A1 c1 l1 true _ HR1.out HC1.out HG.out).mono ?_; rintro e w3 ⟨rfl, hb⟩; replace HB := Aside0.mk (below_step HB.out hb); clear hb HG) | (go_at_call 35; refine (impl_allColumns.calls k a0 cs _ HCS.out).mono ?_; rintro e w5 ⟨v5, rfl, ho, hb⟩; obtain ⟨A5, c5, rfl⟩ := Kd.R_slice ho; have HO5 := Aside0.mk (Kd.R_lower ho HB.out.size); replace HB := Aside0.mk (below_step HB.out hb); clear ho hb))
    go_loopg [6, 7] k (fun gg v6 v7 wr => ∃ (ps : List (List Int)) (i n : Nat), v7 = .int .i64 (i : Nat) ∧ Aside0 (n ≤ gg) ∧ Aside0 (split1 k l1 n ps i = some r) ∧ Aside0 (∃ A_ c_, v6 = .slice A_ ps.length c_) ∧ Aside0 (Rp.OwnSS wr w.heap.size v6 ps) ∧ Aside0 (Below w.heap.size w wr))
    case atStart => exact ⟨[cs], 0, k, rfl, ⟨Nat.le_refl _⟩, HF, ⟨_, _, rfl⟩, ⟨Rp.OwnSS_one (Kd.R_mono HO5.out (fun _ _ => trivial)) HB.out.size⟩, ⟨below_alloc HB.out _⟩⟩
    case round =>
      clear HB HF HO5
      obtain ⟨ps, i, n, rfl, HG, HF, HV, HO, HB⟩ := hrel
      obtain ⟨A6, c6, rfl⟩ := HV.out
      clear HV
      cases n with
      | zero => exact absurd HF.out (by simp [split1])
      | succ n =>
      have hf := HF.out
      clear HF HR1
      have HR1 := Aside0.mk (Kd.C_below HR0.out HB.out)
      rw [split1] at hf
      by_cases hlt : i < ps.length
      · rw [if_pos hlt] at hf
        obtain ⟨q, hq, hf2⟩ := Option.bind_eq_some_iff.mp hf
        clear hf
        obtain ⟨g, c, hv, hgb, hgl, hpc, hcm⟩ := Rp.OwnSS_form HO.out (by omega)
        injection hv with hv1 hv2 hv3
        subst hv1; subst hv3
        obtain ⟨A, cp, x0, hcp, hC⟩ := Rp.OwnSS_at HO.out (j := i) (p := ps.getD i []) (by rw [List.getD_eq_getElem?_getD, List.getElem?_eq_getElem hlt]; rfl)
        have h1 : (i : Int) < (ps.length : Int) := by omega
        generalize ps.getD i [] = p at hq hf2 x0 hcp hC
        obtain ⟨d0, d1, b⟩ := q
        have HW := Aside0.mk (Pl.wrap_succ (show i < 9223372036854775807 by unfold maxLen at hcm; omega))
        have HLT := Aside0.mk hlt
        have HC := Aside0.mk hC
        have HCP := Aside0.mk hcp
        have HQ := Aside0.mk hq
        have HN := Aside0.mk (And.intro hpc hcm)
        have HGB := Aside0.mk (And.intro hgb hgl)
        clear hlt hC hcp hq hv2 hgb hgl hpc hcm
        cases b with
        | false =>
          have HF := Aside0.mk (show split1 k l1 n ps (i + 1) = some r by simpa using hf2)
          clear hf2
          go_wp2_with (first | (go_at_call 44; refine (impl_badIn.calls k A1 c1 l1 A cp p d0 d1 false wr HR1.out HC1.out HC.out HCP.out HQ.out).mono ?_; rintro e w6 ⟨v0, v1, rfl, ho0, ho1, hb⟩; obtain ⟨B0, e0, rfl⟩ := Kd.R_slice ho0; obtain ⟨B1, e1, rfl⟩ := Kd.R_slice ho1; have HD0 := Aside0.mk (Kd.R_reads' ho0).2; have HD1 := Aside0.mk (Kd.R_reads' ho1).2; have HX6 := Aside0.mk hb; clear hb ho0 ho1 HQ))
          have HXB := Aside0.mk (below_alloc HX6.out (.cells #[.slice B0 d0.length e0, .slice B1 d1.length e1] 42))
          go_roundg n
          case measure => have := HG.out; omega
          case rel => exact ⟨ps, i + 1, n, by rw [HW.out], ⟨Nat.le_refl _⟩, HF, ⟨_, _, rfl⟩, ⟨Rp.OwnSS_below HO.out HXB.out⟩, ⟨below_step HB.out HXB.out⟩⟩
        | true =>
          simp only [if_true] at hf2
          by_cases hbig : (ps.length + 1) * 24 ≤ 140737488355328
          rotate_left
          · rw [if_neg hbig] at hf2
            cases hf2
          rw [if_pos hbig] at hf2
          obtain ⟨p1, hp1, hf3⟩ := Option.bind_eq_some_iff.mp hf2
          obtain ⟨p2, hp2, hf4⟩ := Option.bind_eq_some_iff.mp hf3
          have HF := Aside0.mk hf4
          have HP1 := Aside0.mk hp1
          have HP2 := Aside0.mk hp2
          have HBIG := Aside0.mk hbig
          clear hf2 hf3 hf4 hp1 hp2 hbig
          go_wp2_with (first | (go_at_call 44; refine (impl_badIn.calls k A1 c1 l1 A cp p d0 d1 true wr HR1.out HC1.out HC.out HCP.out HQ.out).mono ?_; rintro e w6 ⟨v0, v1, rfl, ho0, ho1, hb⟩; obtain ⟨B0, e0, rfl⟩ := Kd.R_slice ho0; obtain ⟨B1, e1, rfl⟩ := Kd.R_slice ho1; have HD0 := Aside0.mk (Kd.R_reads' ho0).2; have HD1 := Aside0.mk (Kd.R_reads' ho1).2; have HX6 := Aside0.mk hb; clear hb ho0 ho1 HQ))
          have y0 : (w6.alloc (.cells #[.slice B0 d0.length e0, .slice B1 d1.length e1] 42)).cell? ⟨w6.heap.size, 0, none⟩ = some (.slice B0 d0.length e0) := Bx.box_new _ _ _ _ _ rfl
          have y1 : (w6.alloc (.cells #[.slice B0 d0.length e0, .slice B1 d1.length e1] 42)).cell? ⟨w6.heap.size, 1, none⟩ = some (.slice B1 d1.length e1) := Bx.box_new _ _ _ _ _ rfl
          have hal := below_alloc (Below.refl w6.heap.size w6) (.cells #[.slice B0 d0.length e0, .slice B1 d1.length e1] 42)
          have HE0 := Aside0.mk (Kd.C_below HD0.out.2 hal)
          have HE1 := Aside0.mk (Kd.C_below HD1.out.2 hal)
          have HXB := Aside0.mk (below_step HX6.out hal)
          replace x0 := Bx.box_later x0 HXB.out
          generalize hg_ : w6.alloc (.cells #[.slice B0 d0.length e0, .slice B1 d1.length e1] 42) = wa at x0 y0 y1 HE0 HE1 HXB ⊢
          generalize w6.heap.size = gb at y0 y1 ⊢
          clear hg_ hal
          refine Bx.start_any (n := 19) (S := fun w_ => w_.cell? ⟨gb, 0, none⟩ = some (.slice B0 d0.length e0) ∧ w_.cell? ⟨gb, 1, none⟩ = some (.slice B1 d1.length e1) ∧ w_.cell? ⟨g, i, none⟩ = some (.slice A p.length cp)) (ds := [17]) #[false, false, false, false, false, false, false, false, false, false, false, false, false, false, false, false, false, false, false] (by kernel_rfl) rfl rfl ⟨y0, y1, x0⟩ (fun w2 hb hHeld => ?_)
          replace HE0 := Aside0.mk (Kd.C_below HE0.out hb)
          replace HE1 := Aside0.mk (Kd.C_below HE1.out hb)
          replace HXB := Aside0.mk (below_step HXB.out hb)
          replace y0 := Bx.box_later y0 hb
          replace y1 := Bx.box_later y1 hb
          replace x0 := Bx.box_later x0 hb
          clear hb
          have HC2 := Aside0.mk (Kd.C_below HC.out HXB.out)
          have HX2 := Aside0.mk (Below.refl w2.heap.size w2)
          have HO2 := Aside0.mk (Rp.OwnSS_below HO.out HXB.out)
          have HW2 := Aside0.mk HXB.out.size
          refine pure_ (i := 0) (N := some 34) (v := ?_) (a' := ?_) #[true, false, false, false, false, false, false, false, false, false, false, false, false, false, false, false, false, false, false] rfl rfl (by kernel_rfl) (fun _ _ _ h => h) (Or.inl ⟨by rfl, ?_⟩) ?_ ?_
          rotate_left
          · intro w'
            go_simp
            with_reducible rfl
          rotate_left
          · simp only [Act.put, List.setIfInBounds_toArray, List.set_cons_zero, List.set_cons_succ, i64_w, i32_w]
            rfl
          refine pure_ (i := 1) (N := some 35) (v := ?_) (a' := ?_) #[true, true, false, false, false, false, false, false, false, false, false, false, false, false, false, false, false, false, false] rfl rfl (by kernel_rfl) (fun _ _ _ h => h) (Or.inl ⟨by rfl, ?_⟩) ?_ ?_
          rotate_left
          · intro w'
            go_simp
            with_reducible rfl
          rotate_left
          · simp only [Act.put, List.setIfInBounds_toArray, List.set_cons_zero, List.set_cons_succ, i64_w, i32_w]
            rfl
          refine pure_ (i := 2) (N := some 36) (v := ?_) (a' := ?_) #[true, true, true, false, false, false, false, false, false, false, false, false, false, false, false, false, false, false, false] rfl rfl (by kernel_rfl) (fun _ _ _ h => h) (Or.inl ⟨by rfl, ?_⟩) ?_ ?_
          rotate_left
          · intro w'
            go_simp
            with_reducible rfl
          rotate_left
          · simp only [Act.put, List.setIfInBounds_toArray, List.set_cons_zero, List.set_cons_succ, i64_w, i32_w]
            rfl
          refine pure_ (i := 3) (N := some 37) (v := ?_) (a' := ?_) #[true, true, true, true, false, false, false, false, false, false, false, false, false, false, false, false, false, false, false] rfl rfl (by kernel_rfl) (fun _ _ _ h => h) (Or.inl ⟨by rfl, ?_⟩) ?_ ?_
          rotate_left
          · intro w'
            go_simp
            with_reducible rfl
          rotate_left
          · simp only [Act.put, List.setIfInBounds_toArray, List.set_cons_zero, List.set_cons_succ, i64_w, i32_w]
            rfl
          refine pure_ (i := 4) (N := some 38) (v := ?_) (a' := ?_) #[true, true, true, true, true, false, false, false, false, false, false, false, false, false, false, false, false, false, false] rfl rfl (by kernel_rfl) (fun _ _ _ h => h) (Or.inl ⟨by rfl, ?_⟩) ?_ ?_
          rotate_left
          · intro w'
            go_simp
            with_reducible rfl
          rotate_left
          · simp only [Act.put, List.setIfInBounds_toArray, List.set_cons_zero, List.set_cons_succ, i64_w, i32_w]
            rfl
          refine take_ (i := 5) (N := some 39) (v := ?_) (a' := ?_) #[true, true, true, true, true, true, false, false, false, false, false, false, false, false, false, false, false, false, false] rfl rfl (by kernel_rfl) (fun _ _ _ h => h) (Or.inl ⟨by rfl, ?_⟩) hHeld ?_ ?_
          rotate_left
          · rintro w' ⟨s0_, s1_, s2_⟩
            go_simp
            with_reducible rfl
          rotate_left
          · simp only [Act.put, List.setIfInBounds_toArray, List.set_cons_zero, List.set_cons_succ, i64_w, i32_w]
            rfl
          refine pure_ (i := 6) (N := some 40) (v := ?_) (a' := ?_) #[true, true, true, true, true, true, true, false, false, false, false, false, false, false, false, false, false, false, false] rfl rfl (by kernel_rfl) (fun _ _ _ h => h) (Or.inl ⟨by rfl, ?_⟩) ?_ ?_
          rotate_left
          · intro w'
            go_simp
            with_reducible rfl
          rotate_left
          · simp only [Act.put, List.setIfInBounds_toArray, List.set_cons_zero, List.set_cons_succ, i64_w, i32_w]
            rfl
          refine take_ (i := 7) (N := some 41) (v := ?_) (a' := ?_) #[true, true, true, true, true, true, true, true, false, false, false, false, false, false, false, false, false, false, false] rfl rfl (by kernel_rfl) (fun _ _ _ h => h) (Or.inl ⟨by rfl, ?_⟩) hHeld ?_ ?_
          rotate_left
          · rintro w' ⟨s0_, s1_, s2_⟩
            go_simp
            with_reducible rfl
          rotate_left
          · simp only [Act.put, List.setIfInBounds_toArray, List.set_cons_zero, List.set_cons_succ, i64_w, i32_w]
            rfl
          refine pure_ (i := 9) (N := some 43) (v := ?_) (a' := ?_) #[true, true, true, true, true, true, true, true, false, true, false, false, false, false, false, false, false, false, false] rfl rfl (by kernel_rfl) (fun _ _ _ h => h) (Or.inl ⟨by rfl, ?_⟩) ?_ ?_
          rotate_left
          · intro w'
            go_simp
            with_reducible rfl
          rotate_left
          · simp only [Act.put, List.setIfInBounds_toArray, List.set_cons_zero, List.set_cons_succ, i64_w, i32_w]
            rfl
          refine pure_ (i := 10) (N := some 44) (v := ?_) (a' := ?_) #[true, true, true, true, true, true, true, true, false, true, true, false, false, false, false, false, false, false, false] rfl rfl (by kernel_rfl) (fun _ _ _ h => h) (Or.inl ⟨by rfl, ?_⟩) ?_ ?_
          rotate_left
          · intro w'
            go_simp
            with_reducible rfl
          rotate_left
          · simp only [Act.put, List.setIfInBounds_toArray, List.set_cons_zero, List.set_cons_succ, i64_w, i32_w]
            rfl
          have hi0 : (0 : Int) ≤ (i : Int) := by omega
          refine pure_ (i := 11) (N := some 45) (v := ?_) (a' := ?_) #[true, true, true, true, true, true, true, true, false, true, true, true, false, false, false, false, false, false, false] rfl rfl (by kernel_rfl) (fun _ _ _ h => h) (Or.inl ⟨by rfl, ?_⟩) ?_ ?_
          rotate_left
          · intro w'
            go_simp
            with_reducible rfl
          rotate_left
          · simp only [Act.put, List.setIfInBounds_toArray, List.set_cons_zero, List.set_cons_succ, i64_w, i32_w]
            rfl
          refine take_ (i := 12) (N := some 46) (v := ?_) (a' := ?_) #[true, true, true, true, true, true, true, true, false, true, true, true, true, false, false, false, false, false, false] rfl rfl (by kernel_rfl) (fun _ _ _ h => h) (Or.inl ⟨by rfl, ?_⟩) hHeld ?_ ?_
          rotate_left
          · rintro w' ⟨s0_, s1_, s2_⟩
            go_simp
            with_reducible rfl
          rotate_left
          · simp only [Act.put, List.setIfInBounds_toArray, List.set_cons_zero, List.set_cons_succ, i64_w, i32_w]
            rfl
          refine pure_ (i := 13) (N := some 47) (v := ?_) (a' := ?_) #[true, true, true, true, true, true, true, true, false, true, true, true, true, true, false, false, false, false, false] rfl rfl (by kernel_rfl) (fun _ _ _ h => h) (Or.inl ⟨by rfl, ?_⟩) ?_ ?_
          rotate_left
          · intro w'
            go_simp
            with_reducible rfl
          rotate_left
          · simp only [Act.put, List.setIfInBounds_toArray, List.set_cons_zero, List.set_cons_succ, i64_w, i32_w]
            rfl
          refine take_ (i := 14) (N := some 48) (v := ?_) (a' := ?_) #[true, true, true, true, true, true, true, true, false, true, true, true, true, true, true, false, false, false, false] rfl rfl (by kernel_rfl) (fun _ _ _ h => h) (Or.inl ⟨by rfl, ?_⟩) hHeld ?_ ?_
          rotate_left
          · rintro w' ⟨s0_, s1_, s2_⟩
            go_simp
            with_reducible rfl
          rotate_left
          · simp only [Act.put, List.setIfInBounds_toArray, List.set_cons_zero, List.set_cons_succ, i64_w, i32_w]
            rfl
          refine one_ (i := 8) (N := some 42) #[true, true, true, true, true, true, true, true, true, true, true, true, true, true, true, false, false, false, false] rfl rfl (by kernel_rfl) (by decide) (fun K hK => ?_)
          refine goes_ Try.func46 (by kernel_rfl) rfl #[.slice B0 d0.length e0, .slice B1 d1.length e1] (by rfl) rfl rfl (by (try simp only [List.map_toArray, List.map_cons, List.map_nil]); first | done | rfl) ?_
          refine (impl_together.calls B0 e0 d0 B1 e1 d1 p1 w2 HE0.out HD0.out.1 HE1.out HD1.out.1 HP1.out).mono ?_
          rintro e w7 ⟨v7, rfl, ho, hb⟩
          refine ⟨_, rfl, ?_⟩
          obtain ⟨T1, t1, rfl⟩ := Kd.R_slice ho
          have HY1 := Aside0.mk ho
          have HYM := Aside0.mk (Kd.R_lt ho)
          have HW7 := Aside0.mk hb.size
          replace HE1 := Aside0.mk (Kd.C_below HE1.out hb)
          replace HXB := Aside0.mk (below_step HXB.out hb)
          replace HC2 := Aside0.mk (Kd.C_below HC2.out hb)
          replace HX2 := Aside0.mk (below_step HX2.out hb)
          replace y0 := Bx.box_later y0 hb
          replace y1 := Bx.box_later y1 hb
          replace x0 := Bx.box_later x0 hb
          clear hb ho HE0
          refine hK.out _ _ ⟨y0, y1, x0⟩ (fun hHeld => ?_)
          clear hK K
          change wpAnyLast _ _ _ _ _ _ _ _ (Act.put _ (some 42) _) _
          refine norm_ (a' := ?_) ?_ ?_
          rotate_left
          · simp only [Act.put, List.setIfInBounds_toArray, List.set_cons_zero, List.set_cons_succ, i64_w, i32_w]
            rfl
          refine one_ (i := 15) (N := some 49) #[true, true, true, true, true, true, true, true, true, true, true, true, true, true, true, true, false, false, false] rfl rfl (by kernel_rfl) (by decide) (fun K hK => ?_)
          refine goes_ Try.func39 (by kernel_rfl) rfl #[.slice A p.length cp, .slice B1 d1.length e1] (by rfl) rfl rfl (by (try simp only [List.map_toArray, List.map_cons, List.map_nil]); first | done | rfl) ?_
          refine (impl_without.calls A cp p B1 e1 d1 p2 w7 HC2.out HCP.out HE1.out HD1.out.1 HP2.out).mono ?_
          rintro e w8 ⟨v8, rfl, ho, hb⟩
          refine ⟨_, rfl, ?_⟩
          obtain ⟨T2, t2, rfl⟩ := Kd.R_slice ho
          have HY2 := Aside0.mk ho
          replace HXB := Aside0.mk (below_step HXB.out hb)
          replace HX2 := Aside0.mk (below_step HX2.out hb)
          replace HY1 := Aside0.mk (Kd.R_below HY1.out hb)
          replace y0 := Bx.box_later y0 hb
          replace y1 := Bx.box_later y1 hb
          replace x0 := Bx.box_later x0 hb
          clear hb ho HE1 HC2
          refine hK.out _ _ ⟨y0, y1, x0⟩ (fun hHeld => ?_)
          clear hK K
          change wpAnyLast _ _ _ _ _ _ _ _ (Act.put _ (some 49) _) _
          refine norm_ (a' := ?_) ?_ ?_
          rotate_left
          · simp only [Act.put, List.setIfInBounds_toArray, List.set_cons_zero, List.set_cons_succ, i64_w, i32_w]
            rfl
          refine one_ (i := 16) (N := some 50) #[true, true, true, true, true, true, true, true, true, true, true, true, true, true, true, true, true, false, false] rfl rfl (by kernel_rfl) (by decide) (fun K hK => ?_)
          refine value_ (w1 := w8.alloc (.cells #[.slice T1 p1.length t1, .slice T2 p2.length t2] 37)) (v := .slice (some ⟨w8.heap.size, 0, none⟩) 2 2) (by rfl) rfl ?_ ?_
          · go_simp
          have hVB : (w8.alloc (.cells #[.slice T1 p1.length t1, .slice T2 p2.length t2] 37)).heap[w8.heap.size]? = some (.cells #[.slice T1 p1.length t1, .slice T2 p2.length t2] 37 (0, 0)) := blk_new w8 _
          have hb := below_alloc (Below.refl w8.heap.size w8) (.cells #[.slice T1 p1.length t1, .slice T2 p2.length t2] 37)
          have HV2 := Aside0.mk HX2.out.size
          replace HXB := Aside0.mk (below_step HXB.out hb)
          replace HX2 := Aside0.mk (below_step HX2.out hb)
          replace HY1 := Aside0.mk (Kd.R_below HY1.out hb)
          replace HY2 := Aside0.mk (Kd.R_below HY2.out hb)
          replace y0 := Bx.box_later y0 hb
          replace y1 := Bx.box_later y1 hb
          replace x0 := Bx.box_later x0 hb
          have HVB := Aside0.mk hVB
          generalize hg_ : w8.alloc (.cells #[.slice T1 p1.length t1, .slice T2 p2.length t2] 37) = w9 at x0 y0 y1 HXB HX2 HY1 HY2 HVB ⊢
          clear hg_ hb hVB
          refine hK.out _ _ ⟨y0, y1, x0⟩ (fun hHeld => ?_)
          clear hK K
          change wpAnyLast _ _ _ _ _ _ _ _ (Act.put _ (some 50) _) _
          refine norm_ (a' := ?_) ?_ ?_
          rotate_left
          · simp only [Act.put, List.setIfInBounds_toArray, List.set_cons_zero, List.set_cons_succ, i64_w, i32_w]
            rfl
          refine last_ (i := 17) (N := some 51) #[true, true, true, true, true, true, true, true, true, true, true, true, true, true, true, true, true, true, false] rfl rfl (by kernel_rfl) (by decide) (fun K hK => ?_)
          refine goes_ Try.func45 (by kernel_rfl) rfl #[.slice (some ⟨g, 0, none⟩) ps.length c6, .int .i64 (i : Nat), .int .i64 (wrap64 ((i : Int) + 1)), .slice (some ⟨w8.heap.size, 0, none⟩) 2 2] (by rfl) rfl rfl (by (try simp only [List.map_toArray, List.map_cons, List.map_nil]); first | done | rfl) ?_
          refine Bx.calls_at (by rw [HW.out]) ((Rp.replSS w.heap.size i w8.heap.size w7.heap.size _ ps p1 p2 _ _ w w2 w9 (below_step HB.out HXB.out) rfl HO2.out HX2.out (Nat.le_trans HB.out.size HW2.out) HLT.out HY1.out HYM.out HY2.out HW7.out HVB.out HV2.out HBIG.out).mono ?_)
          rintro e wz ⟨vz, rfl, hoz, hbz⟩
          refine ⟨_, rfl, ?_⟩
          have hpos : 0 < (ps.take i ++ ([p1, p2] ++ ps.drop (i + 1))).length := by simp only [List.length_append, List.length_cons]; omega
          generalize ps.take i ++ ([p1, p2] ++ ps.drop (i + 1)) = ps9 at hoz hpos HF
          obtain ⟨gz, cz, rfl, _⟩ := Rp.OwnSS_form hoz hpos
          have HO9 := Aside0.mk hoz
          have HB9 := Aside0.mk hbz
          clear hoz hbz hpos
          refine hK.out _ _ ?_
          clear hK K
          change wpAnyLast _ _ _ _ _ _ _ _ (Act.put _ (some 51) _) _
          refine norm_ (a' := ?_) ?_ ?_
          rotate_left
          · simp only [Act.put, List.setIfInBounds_toArray, List.set_cons_zero, List.set_cons_succ, i64_w, i32_w]
            rfl
          refine pure_ (i := 18) (N := some 6) (v := ?_) (a' := ?_) #[true, true, true, true, true, true, true, true, true, true, true, true, true, true, true, true, true, true, true] rfl rfl (by kernel_rfl) (fun _ _ _ h => h) (Or.inl ⟨by rfl, ?_⟩) ?_ ?_
          rotate_left
          · intro w'
            go_simp
            with_reducible rfl
          rotate_left
          · simp only [Act.put, List.setIfInBounds_toArray, List.set_cons_zero, List.set_cons_succ, i64_w, i32_w]
            rfl
          refine done_ (by kernel_rfl) ?_
          go_wp2
          go_roundg n
          case measure => have := HG.out; omega
          case rel => exact ⟨_, i, n, rfl, ⟨Nat.le_refl _⟩, HF, ⟨_, _, rfl⟩, HO9, HB9⟩
      · rw [if_neg hlt] at hf
        obtain rfl : ps = r := by simpa using hf
        clear hf
        have h1 : ¬ (i : Int) < (ps.length : Int) := by omega
        clear hlt
        go_wp2
        go_ret2
        exact ⟨_, rfl, Rp.OwnSS_S HO.out, HB.out⟩
end Go.Proofs.Ytdnidldinafakaa.Pr
