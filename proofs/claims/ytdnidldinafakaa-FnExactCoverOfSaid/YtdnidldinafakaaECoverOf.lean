/- impl.CoverOf: the sentences that the others don't imply, each copied. Conditions: what implies comes to; lengths that Go can make room for. -/
import Derived.Test.YtdnidldinafakaaPr0
import Derived.Test.YtdnidldinafakaaPr5
import Derived.Test.YtdnidldinafakaaKdI
import Derived.Test.YtdnidldinafakaaEGoodDeps
import Derived.Test.YtdnidldinafakaaMx11
import Derived.Test.YtdnidldinafakaaEToDepSA
import Derived.Test.YtdnidldinafakaaMx17
import Derived.Test.YtdnidldinafakaaWFoot
namespace Go.Proofs.Ytdnidldinafakaa.Pr
open Go.RowKit Go.Proofs.Ytdnidldinafakaa Go.Proofs.YtdnidldinafakaaW.PrintWords Go.Proofs.YtdnidldinafakaaW.PrintLast Go.Proofs.YtdnidldinafakaaW.PrintMore
set_option linter.unusedVariables false
set_option linter.unusedSimpArgs false
def covG (l : List S42) (js : List Nat) : List S42 := js.map fun j => l.getD j z42
theorem covG_len (l : List S42) (js : List Nat) : (covG l js).length = js.length := by rw [covG, List.length_map]
theorem covG_erase (l : List S42) (js : List Nat) (i : Nat) : covG l (js.eraseIdx i) = (covG l js).eraseIdx i := by
  unfold covG
  induction js generalizing i with
  | nil => rfl
  | cons x xs ih => cases i with
    | zero => rfl
    | succ i => simp only [List.eraseIdx_cons_succ, List.map_cons, ih]
theorem covG_all (l : List S42) : covG l (List.range l.length) = l := by
  unfold covG
  refine List.ext_getElem (by simp) (fun i h1 h2 => ?_)
  simp [List.getD_eq_getElem?_getD, h2]
def cov1 (k : Nat) : Nat → List S42 → Nat → Option (List S42)
  | 0, _, _ => none
  | n + 1, L, i => if i < L.length then (impl_implies.f k (L.eraseIdx i) (rd_T42 L (i : Int)).f0 (rd_T42 L (i : Int)).f1).bind fun b => if b = true then cov1 k n (L.eraseIdx i) i else cov1 k n L (i + 1) else some L
def covOk (d : S42) : Bool := decide (d.f0.length * 8 ≤ 140737488355328) && decide (d.f1.length * 8 ≤ 140737488355328)
def impl_CoverOf.f (k : Nat) (a0 : Int) (l1 : List S42) : Option (List S42 × Bool) :=
  (impl_GoodDeps.f a0 l1).bind fun b => if b = true then (if (l1.length + 1) * 48 ≤ 140737488355328 ∧ l1.all covOk = true then (cov1 k (l1.length + 1) l1 0).bind fun r => some (r, true) else none) else some ([], false)
set_option maxHeartbeats 8000000 in
set_option maxRecDepth 100000 in
theorem impl_CoverOf.calls (k : Nat) (a0 : Int) (A1 : Option Addr) (c1 : Nat) (l1 : List S42) (r1 : List S42) (r2 : Bool) (w : World) (hr1 : Kd.C k42 w A1 l1.length l1) (hc1 : l1.length ≤ c1) (h : impl_CoverOf.f k a0 l1 = some (r1, r2)) :
    Calls Try.prog 9 #[.int .i64 a0, .slice A1 l1.length c1] w fun e w' => ∃ v0_ : Value, e = .returned (.tuple #[v0_, .bool r2]) ∧ Kd.S kA 42 w' w.heap.size (fun _ => True) v0_ r1 ∧ Below w.heap.size w w' := by
  unfold impl_CoverOf.f at h
  obtain ⟨b, hg, h2⟩ := Option.bind_eq_some_iff.mp h
  clear h
  have h := h2
  clear h2
  have HB := Aside0.mk (Below.refl w.heap.size w)
  have HR1 := Aside0.mk hr1
  have HG := Aside0.mk hg
  have HC1 := Aside0.mk hc1
  clear hr1 hc1 hg
  cases b with
  | false =>
    simp only [Bool.false_eq_true, if_false] at h
    obtain ⟨rfl, rfl⟩ : [] = r1 ∧ false = r2 := by simpa using h
    clear h
    go_enter Try.func9, Try.ntmps9
    go_wp2_with (first | (go_at_call 25; refine (impl_GoodDeps.calls a0 A1 c1 l1 false _ HR1.out HC1.out HG.out).mono ?_; rintro e w3 ⟨rfl, hb⟩; replace HB := Aside0.mk (below_step HB.out hb); clear hb))
    go_ret2
    exact ⟨.slice none 0 0, rfl, Kd.S_nil _ _ _ _ _, HB.out⟩
  | true =>
    simp only [if_true] at h
    by_cases hk : (l1.length + 1) * 48 ≤ 140737488355328 ∧ l1.all covOk = true
    rotate_left
    · rw [if_neg hk] at h
      cases h
    rw [if_pos hk] at h
    obtain ⟨r, hr, h2⟩ := Option.bind_eq_some_iff.mp h
    obtain ⟨rfl, rfl⟩ : r = r1 ∧ true = r2 := by simpa using h2
    clear h h2
    obtain ⟨cf, hcf, hcC⟩ := kI_of HR1.out
    have hcl := fun (W : World) (A : Option Addr) (c : Nat) (l : List Int) (hW : Kd.C (Kd.int .i64) W A l.length l) (hc : l.length ≤ c) (hl : l.length * 8 ≤ 140737488355328) => slices_Clone_int_int.calls A c l l W hW hc (by unfold slices_Clone_int_int.f; rw [if_pos hl])
    have HCL := Aside0.mk hcl
    have HK := Aside0.mk hk
    have HF := Aside0.mk hr
    have HCF := Aside0.mk hcf
    have HCC := Aside0.mk hcC
    have HRL := Aside0.mk (List.length_range : (List.range l1.length).length = l1.length)
    have HALL := Aside0.mk (covG_all l1)
    have HRM := Aside0.mk (fun j (hj : j ∈ List.range l1.length) => List.mem_range.1 hj)
    generalize List.range l1.length = js0 at HCC HRL HALL HRM
    have HCA := Aside0.mk (show ∀ W, Kd.C (kI cf) W A1 js0.length js0 → Calls Try.prog 26 #[.slice A1 l1.length c1] W fun e w' => ∃ v0_ : Value, e = .returned (v0_) ∧ (kI cf).R 42 w' W.heap.size (fun _ => True) v0_ js0 ∧ Below W.heap.size W w' from fun W hW => by
      have := cloneI cf A1 c1 js0 W hW (by rw [HRL.out]; exact HC1.out) (by rw [HRL.out]; have := HK.out.1; omega)
      rwa [HRL.out] at this)
    clear hcl hk hr hcf hcC
    go_enter Try.func9, Try.ntmps9
    go_wp2_with (first | (go_at_call 25; refine (impl_GoodDeps.calls a0 A1 c1 l1 true _ HR1.out HC1.out HG.out).mono ?_; rintro e w3 ⟨rfl, hb⟩; replace HB := Aside0.mk (below_step HB.out hb); clear hb HG) | (go_at_call 26; refine (HCA.out w3 (Kd.C_below HCC.out HB.out)).mono ?_; rintro e w4 ⟨v6, rfl, ho, hb⟩; obtain ⟨A6, c6, rfl⟩ := Kd.R_slice ho; have HO := Aside0.mk (Kd.R_lower ho HB.out.size); replace HB := Aside0.mk (below_step HB.out hb); clear ho hb))
    go_loopg [6, 7] (js0.length + 2) (fun gg v6 v7 wr => ∃ (js : List Nat) (i n : Nat) (A : Option Addr) (c : Nat), v6 = .slice A js.length c ∧ v7 = .int .i64 (i : Nat) ∧ Aside0 (i ≤ js.length) ∧ Aside0 (js.length - i + 1 ≤ gg) ∧ Aside0 (js.length ≤ js0.length) ∧ Aside0 (∀ j ∈ js, j < l1.length) ∧ Aside0 (cov1 k n (covG l1 js) i = some r) ∧ Aside0 ((kI cf).R 42 wr w.heap.size (fun _ => True) (.slice A js.length c) js) ∧ Aside0 (Below w.heap.size w wr))
    case atStart => exact ⟨js0, 0, l1.length + 1, A6, c6, rfl, rfl, ⟨Nat.zero_le _⟩, ⟨by omega⟩, ⟨Nat.le_refl _⟩, HRM, ⟨by rw [HALL.out]; exact HF.out⟩, HO, HB⟩
    case round =>
      clear HO HB HF HALL HRM
      obtain ⟨js, i, n, A, c, rfl, rfl, HI, HG, HJL, HRM, HF, HO, HB⟩ := hrel
      have HL := Aside0.mk (covG_len l1 js)
      cases n with
      | zero => exact absurd HF.out (by simp [cov1])
      | succ n =>
      have hf := HF.out
      clear HF
      rw [cov1, HL.out] at hf
      have HKJ := Aside0.mk (fun (W : World) (hb : Below w.heap.size w W) (ys : List Nat) (hy : ∀ j ∈ ys, j < l1.length) j (hj : j ∈ ys) => k42.K_below hb (HCF.out j (hy j hj)))
      have hJ8 : js.length < 9223372036854775807 := by have := HJL.out; have := HRL.out; have := HK.out.1; omega
      by_cases hlt : i < js.length
      · rw [if_pos hlt] at hf
        obtain ⟨b, hb0, hf2⟩ := Option.bind_eq_some_iff.mp hf
        clear hf
        have h1 : (i : Int) < (js.length : Int) := by omega
        obtain ⟨g, cap, hv, hgb, hgl, _⟩ := Kd.R_form HO.out (by omega)
        injection hv with hv1 hv2 hv3
        subst hv1
        subst hv3
        obtain ⟨_, hnc, hC⟩ := Kd.R_reads' HO.out
        obtain ⟨ad, D0, d0, D1, d1, e1, x0, x1, q0, g0, q1, g1⟩ := at_T42 (C_of_kI hC (HKJ.out _ HB.out js HRM.out)) (i : Int) (by omega) (by omega)
        obtain rfl : (⟨g, 0, none⟩ : Addr) = ad := by injection e1
        simp only [add_plain, Int.toNat_natCast] at x0 x1
        change wr.cell? _ = some (.slice D0 (rd_T42 (covG l1 js) (i : Int)).f0.length d0) at x0
        change wr.cell? _ = some (.slice D1 (rd_T42 (covG l1 js) (i : Int)).f1.length d1) at x1
        change (Kd.int .i64).C _ D0 (rd_T42 (covG l1 js) (i : Int)).f0.length (rd_T42 (covG l1 js) (i : Int)).f0 at g0
        change (Kd.int .i64).C _ D1 (rd_T42 (covG l1 js) (i : Int)).f1.length (rd_T42 (covG l1 js) (i : Int)).f1 at g1
        change (rd_T42 (covG l1 js) (i : Int)).f0.length ≤ d0 at q0
        change (rd_T42 (covG l1 js) (i : Int)).f1.length ≤ d1 at q1
        generalize rd_T42 (covG l1 js) (i : Int) = d at hb0 x0 x1 q0 q1 g0 g1
        have HW := Aside0.mk (Pl.wrap_succ (show i < 9223372036854775807 by omega))
        have HLT := Aside0.mk hlt
        have HNC := Aside0.mk hnc
        have HC := Aside0.mk hC
        have HLB := Aside0.mk (show js.length * 48 ≤ 140737488355328 by have := HJL.out; have := HRL.out; have := HK.out.1; omega)
        have HQ := Aside0.mk (And.intro q0 q1)
        have HG0 := Aside0.mk g0
        have HG1 := Aside0.mk g1
        have HIM := Aside0.mk hb0
        have HF := Aside0.mk hf2
        have HXB := Aside0.mk (Below.refl wr.heap.size wr)
        clear hlt hnc hC q0 q1 g0 g1 hb0 hf2 hv2 hgb hgl e1 hJ8
        cases b with
        | true =>
          go_wp2_with (first | (go_at_call 26; refine (cloneI cf _ c js wr HC.out HNC.out HLB.out).mono ?_; rintro e w2 ⟨v2, rfl, ho, hb⟩; have HO2 := Aside0.mk ho; replace HXB := Aside0.mk hb; clear ho hb HC) | (go_at_call 27; refine Bx.calls_at (by rw [HW.out]) ((delI cf v2 js i wr w2 HXB.out HO2.out HLT.out).mono ?_); rintro e w3 ⟨v3, rfl, ho, hb, _⟩; obtain ⟨js3, hjs3⟩ : ∃ js3, js3 = js.eraseIdx i := ⟨_, rfl⟩; rw [← hjs3] at ho; have HL3 := Aside0.mk (show js3.length = js.length - 1 by rw [hjs3, List.length_eraseIdx_of_lt HLT.out]); have HJ3 := Aside0.mk hjs3; obtain ⟨A3, c3, rfl⟩ := Kd.R_slice ho; have HO3 := Aside0.mk ho; replace HXB := Aside0.mk hb; replace x0 := Bx.box_later x0 hb; replace x1 := Bx.box_later x1 hb; have HRM3 := Aside0.mk (fun j (hj : j ∈ js3) => HRM.out j (List.mem_of_mem_eraseIdx (hjs3 ▸ hj))); clear ho HO2 hb hjs3) | (go_at_call 28; refine Bx.calls_at (by rw [covG_len]) ((impl_implies.calls k A3 c3 (covG l1 js3) D0 d0 d.f0 D1 d1 d.f1 _ _ (by rw [covG_len]; exact C_of_kI (Kd.R_reads' HO3.out).2.2 (HKJ.out _ (below_step HB.out HXB.out) _ HRM3.out)) (by rw [covG_len]; exact (Kd.R_reads' HO3.out).2.1) (Kd.C_below HG0.out HXB.out) HQ.out.1 (Kd.C_below HG1.out HXB.out) HQ.out.2 (by rw [HJ3.out, covG_erase]; exact HIM.out)).mono ?_); rintro e w4 ⟨rfl, hb⟩; replace HO3 := Aside0.mk (Kd.R_below HO3.out hb); replace HXB := Aside0.mk (below_step HXB.out hb); clear hb))
          go_roundg (js.length - i)
          case measure => have := HG.out; have := HLT.out; omega
          case rel => exact ⟨js3, i, n, A3, c3, rfl, rfl, ⟨by have := HL3.out; have := HLT.out; omega⟩, ⟨by have := HL3.out; have := HLT.out; omega⟩, ⟨by have := HL3.out; have := HJL.out; omega⟩, HRM3, ⟨by rw [HJ3.out, covG_erase]; simpa using HF.out⟩, ⟨Kd.R_lower HO3.out HB.out.size⟩, ⟨below_step HB.out HXB.out⟩⟩
        | false =>
          go_wp2_with (first | (go_at_call 26; refine (cloneI cf _ c js wr HC.out HNC.out HLB.out).mono ?_; rintro e w2 ⟨v2, rfl, ho, hb⟩; have HO2 := Aside0.mk ho; replace HXB := Aside0.mk hb; clear ho hb HC) | (go_at_call 27; refine Bx.calls_at (by rw [HW.out]) ((delI cf v2 js i wr w2 HXB.out HO2.out HLT.out).mono ?_); rintro e w3 ⟨v3, rfl, ho, hb, _⟩; obtain ⟨js3, hjs3⟩ : ∃ js3, js3 = js.eraseIdx i := ⟨_, rfl⟩; rw [← hjs3] at ho; have HL3 := Aside0.mk (show js3.length = js.length - 1 by rw [hjs3, List.length_eraseIdx_of_lt HLT.out]); have HJ3 := Aside0.mk hjs3; obtain ⟨A3, c3, rfl⟩ := Kd.R_slice ho; have HO3 := Aside0.mk ho; replace HXB := Aside0.mk hb; replace x0 := Bx.box_later x0 hb; replace x1 := Bx.box_later x1 hb; have HRM3 := Aside0.mk (fun j (hj : j ∈ js3) => HRM.out j (List.mem_of_mem_eraseIdx (hjs3 ▸ hj))); clear ho HO2 hb hjs3) | (go_at_call 28; refine Bx.calls_at (by rw [covG_len]) ((impl_implies.calls k A3 c3 (covG l1 js3) D0 d0 d.f0 D1 d1 d.f1 _ _ (by rw [covG_len]; exact C_of_kI (Kd.R_reads' HO3.out).2.2 (HKJ.out _ (below_step HB.out HXB.out) _ HRM3.out)) (by rw [covG_len]; exact (Kd.R_reads' HO3.out).2.1) (Kd.C_below HG0.out HXB.out) HQ.out.1 (Kd.C_below HG1.out HXB.out) HQ.out.2 (by rw [HJ3.out, covG_erase]; exact HIM.out)).mono ?_); rintro e w4 ⟨rfl, hb⟩; replace HO3 := Aside0.mk (Kd.R_below HO3.out hb); replace HXB := Aside0.mk (below_step HXB.out hb); clear hb))
          go_roundg (js.length - i)
          case measure => have := HG.out; have := HLT.out; omega
          case rel => exact ⟨js, i + 1, n, some ⟨g, 0, none⟩, c, rfl, by rw [HW.out], ⟨HLT.out⟩, ⟨by have := HLT.out; omega⟩, HJL, HRM, ⟨by simpa using HF.out⟩, ⟨Kd.R_below HO.out HXB.out⟩, ⟨below_step HB.out HXB.out⟩⟩
      · rw [if_neg hlt] at hf
        have hE : covG l1 js = r := by simpa using hf
        subst hE
        clear hf
        have h1 : ¬ (i : Int) < (js.length : Int) := by omega
        have HN := Aside0.mk hJ8
        clear hlt hJ8
        obtain ⟨wo, rfl⟩ : ∃ x : World, x = wr := ⟨wr, rfl⟩
        have HXB := Aside0.mk (Below.refl wo.heap.size wo)
        go_wp2_with (first | ((with_reducible refine gate_dst (N := 37) rfl ?_); refine Kd.S_lit kA _ 42 ?hg (N := 37) ?hd (xs := ([] : List S42)) (inner := []) (ok := fun _ => True) (okp := fun _ => True) ?hr ?hp (fun _ hk => hk) trivial (Below.refl _ _) (Nat.le_refl _) (by simp) ?_; (case hd => rfl); (case hg => rfl); (case hr => first | (go_simp; done) | (go_simp; rfl)); (case hp => exact (Reps.none _ _)); intro v9 w5 ho hb hg_ hnew_; clear hg_ hnew_; have HS := Aside0.mk ho; replace HXB := Aside0.mk (below_step HXB.out hb); clear ho hb))
        go_loopg [9, 40] (js.length + 1) (fun gg v9 v40 wr => ∃ j : Nat, v40 = .int .i64 j ∧ Aside0 (j ≤ js.length) ∧ Aside0 (js.length + 1 - j ≤ gg) ∧ Aside0 (Kd.S kA 42 wr wo.heap.size (fun _ => True) v9 ((covG l1 js).take j)) ∧ Aside0 (Below wo.heap.size wo wr))
        case atStart => exact ⟨0, rfl, ⟨Nat.zero_le _⟩, ⟨by omega⟩, ⟨by rw [List.take_zero]; exact HS.out⟩, HXB⟩
        case round =>
          clear HS HXB h1
          obtain ⟨j, rfl, HJ, HG2, HS, HXB⟩ := hrel
          by_cases hlt : j < js.length
          · have h1 : (j : Int) < (js.length : Int) := by omega
            obtain ⟨g, cap, hv, hgb, hgl, _⟩ := Kd.R_form HO.out (by omega)
            injection hv with hv1 hv2 hv3
            subst hv1
            subst hv3
            have hC := (Kd.R_reads' (Kd.R_below HO.out HXB.out)).2.2
            obtain ⟨ad, D0, d0, D1, d1, e1, x0, x1, q0, g0, q1, g1⟩ := at_T42 (C_of_kI hC (HKJ.out _ (below_step HB.out HXB.out) js HRM.out)) (j : Int) (by omega) (by omega)
            obtain rfl : (⟨g, 0, none⟩ : Addr) = ad := by injection e1
            simp only [add_plain, Int.toNat_natCast] at x0 x1
            change wr.cell? _ = some (.slice D0 (rd_T42 (covG l1 js) (j : Int)).f0.length d0) at x0
            change wr.cell? _ = some (.slice D1 (rd_T42 (covG l1 js) (j : Int)).f1.length d1) at x1
            change (Kd.int .i64).C _ D0 (rd_T42 (covG l1 js) (j : Int)).f0.length (rd_T42 (covG l1 js) (j : Int)).f0 at g0
            change (Kd.int .i64).C _ D1 (rd_T42 (covG l1 js) (j : Int)).f1.length (rd_T42 (covG l1 js) (j : Int)).f1 at g1
            change (rd_T42 (covG l1 js) (j : Int)).f0.length ≤ d0 at q0
            change (rd_T42 (covG l1 js) (j : Int)).f1.length ≤ d1 at q1
            have htk : (covG l1 js).take (j + 1) = (covG l1 js).take j ++ [rd_T42 (covG l1 js) (j : Int)] := by
              have hl2 : j < (covG l1 js).length := by rw [HL.out]; exact hlt
              rw [List.take_add_one, List.getElem?_eq_getElem hl2]
              simp [rd_T42, List.getD_eq_getElem?_getD, List.getElem?_eq_getElem hl2]
            have hok : covOk (rd_T42 (covG l1 js) (j : Int)) = true := by
              have hl2 : j < (covG l1 js).length := by rw [HL.out]; exact hlt
              have : rd_T42 (covG l1 js) (j : Int) = l1.getD js[j] z42 := by simp [rd_T42, covG, List.getD_eq_getElem?_getD, List.getElem?_eq_getElem hlt]
              rw [this]
              have hl3 := HRM.out js[j] (List.getElem_mem hlt)
              rw [List.getD_eq_getElem?_getD, List.getElem?_eq_getElem hl3]
              exact List.all_eq_true.1 HK.out.2 _ (List.getElem_mem hl3)
            generalize rd_T42 (covG l1 js) (j : Int) = d at x0 x1 q0 q1 g0 g1 htk hok
            simp only [covOk, Bool.and_eq_true, decide_eq_true_eq] at hok
            have HW := Aside0.mk (Pl.wrap_succ (show j < 9223372036854775807 by have := HN.out; omega))
            have HLT := Aside0.mk hlt
            have HQ := Aside0.mk (And.intro q0 q1)
            have HOK := Aside0.mk hok
            have HG0 := Aside0.mk g0
            have HG1 := Aside0.mk g1
            have HTK := Aside0.mk htk
            clear hlt hC q0 q1 g0 g1 hv2 hgb hgl e1 hok htk
            go_wp2
            have y0 : (wr.alloc (.cells #[.slice D0 d.f0.length d0, .slice D1 d.f1.length d1] 42)).cell? ⟨wr.heap.size, 0, none⟩ = some (.slice D0 d.f0.length d0) := Bx.box_new _ _ _ _ _ rfl
            have y1 : (wr.alloc (.cells #[.slice D0 d.f0.length d0, .slice D1 d.f1.length d1] 42)).cell? ⟨wr.heap.size, 1, none⟩ = some (.slice D1 d.f1.length d1) := Bx.box_new _ _ _ _ _ rfl
            have hal := below_alloc (Below.refl wr.heap.size wr) (.cells #[.slice D0 d.f0.length d0, .slice D1 d.f1.length d1] 42)
            replace HS := Aside0.mk (Kd.S_old HS.out hal)
            replace HG0 := Aside0.mk (Kd.C_below HG0.out hal)
            replace HG1 := Aside0.mk (Kd.C_below HG1.out hal)
            have HXS := Aside0.mk HXB.out.size
            replace HXB := Aside0.mk (below_step HXB.out hal)
            have HNB := Aside0.mk hal.size
            generalize hg_ : wr.alloc (.cells #[.slice D0 d.f0.length d0, .slice D1 d.f1.length d1] 42) = wa at y0 y1 HS HG0 HG1 HXB HNB ⊢
            clear hg_ hal x0 x1
            refine Bx.start_any (n := 11) (S := fun w_ => w_.cell? ⟨wr.heap.size, 0, none⟩ = some (.slice D0 d.f0.length d0) ∧ w_.cell? ⟨wr.heap.size, 1, none⟩ = some (.slice D1 d.f1.length d1)) (ds := []) #[false, false, false, false, false, false, false, false, false, false, false] (by kernel_rfl) rfl rfl ⟨y0, y1⟩ (fun w2 hb hHeld => ?_)
            replace HS := Aside0.mk (Kd.S_below HS.out hb)
            replace HG0 := Aside0.mk (Kd.C_below HG0.out hb)
            replace HG1 := Aside0.mk (Kd.C_below HG1.out hb)
            replace HXB := Aside0.mk (below_step HXB.out hb)
            replace HNB := Aside0.mk (Nat.le_trans HNB.out hb.size)
            replace y0 := Bx.box_later y0 hb
            replace y1 := Bx.box_later y1 hb
            clear hb
            refine pure_ (i := 0) (N := some 44) (v := ?_) (a' := ?_) #[true, false, false, false, false, false, false, false, false, false, false] rfl rfl (by kernel_rfl) (fun _ _ _ h => h) (Or.inl ⟨by rfl, ?_⟩) ?_ ?_
            rotate_left
            · intro w'
              go_simp
              with_reducible rfl
            rotate_left
            · simp only [Act.put, List.setIfInBounds_toArray, List.set_cons_zero, List.set_cons_succ, i64_w, i32_w]
              rfl
            refine pure_ (i := 1) (N := some 45) (v := ?_) (a' := ?_) #[true, true, false, false, false, false, false, false, false, false, false] rfl rfl (by kernel_rfl) (fun _ _ _ h => h) (Or.inl ⟨by rfl, ?_⟩) ?_ ?_
            rotate_left
            · intro w'
              go_simp
              with_reducible rfl
            rotate_left
            · simp only [Act.put, List.setIfInBounds_toArray, List.set_cons_zero, List.set_cons_succ, i64_w, i32_w]
              rfl
            refine pure_ (i := 4) (N := some 48) (v := ?_) (a' := ?_) #[true, true, false, false, true, false, false, false, false, false, false] rfl rfl (by kernel_rfl) (fun _ _ _ h => h) (Or.inl ⟨by rfl, ?_⟩) ?_ ?_
            rotate_left
            · intro w'
              go_simp
              with_reducible rfl
            rotate_left
            · simp only [Act.put, List.setIfInBounds_toArray, List.set_cons_zero, List.set_cons_succ, i64_w, i32_w]
              rfl
            refine take_ (i := 2) (N := some 46) (v := ?_) (a' := ?_) #[true, true, true, false, true, false, false, false, false, false, false] rfl rfl (by kernel_rfl) (fun _ _ _ h => h) (Or.inl ⟨by rfl, ?_⟩) hHeld ?_ ?_
            rotate_left
            · rintro w' ⟨s0_, s1_⟩
              go_simp
              with_reducible rfl
            rotate_left
            · simp only [Act.put, List.setIfInBounds_toArray, List.set_cons_zero, List.set_cons_succ, i64_w, i32_w]
              rfl
            refine take_ (i := 5) (N := some 49) (v := ?_) (a' := ?_) #[true, true, true, false, true, true, false, false, false, false, false] rfl rfl (by kernel_rfl) (fun _ _ _ h => h) (Or.inl ⟨by rfl, ?_⟩) hHeld ?_ ?_
            rotate_left
            · rintro w' ⟨s0_, s1_⟩
              go_simp
              with_reducible rfl
            rotate_left
            · simp only [Act.put, List.setIfInBounds_toArray, List.set_cons_zero, List.set_cons_succ, i64_w, i32_w]
              rfl
            refine one_ (i := 3) (N := some 47) #[true, true, true, true, true, true, false, false, false, false, false] rfl rfl (by kernel_rfl) (by decide) (fun K hK => ?_)
            refine goes_ Try.func29 (by kernel_rfl) rfl #[.slice D0 d.f0.length d0] (by rfl) rfl rfl (by (try simp only [List.map_toArray, List.map_cons, List.map_nil]); first | done | rfl) ?_
            refine (HCL.out w2 D0 d0 d.f0 HG0.out HQ.out.1 HOK.out.1).mono ?_
            rintro e w6 ⟨v6, rfl, ho, hb⟩
            refine ⟨_, rfl, ?_⟩
            obtain ⟨E0, e0, rfl⟩ := Kd.R_slice ho
            have HV0 := Aside0.mk (Kd.R_mono (Kd.R_bound ho) (ok' := fun k => w2.heap.size ≤ k ∧ k < w6.heap.size) (fun k hk => ⟨hk.2.1, hk.2.2.1⟩))
            have HN2 := Aside0.mk HNB.out
            have HN62 := Aside0.mk hb.size
            replace HS := Aside0.mk (Kd.S_below HS.out hb)
            replace HG1 := Aside0.mk (Kd.C_below HG1.out hb)
            replace HXB := Aside0.mk (below_step HXB.out hb)
            replace HNB := Aside0.mk (Nat.le_trans HNB.out hb.size)
            replace y0 := Bx.box_later y0 hb
            replace y1 := Bx.box_later y1 hb
            clear hb ho HG0
            refine hK.out _ _ ⟨y0, y1⟩ (fun hHeld => ?_)
            clear hK K
            change wpAnyLast _ _ _ _ _ _ _ _ (Act.put _ (some 47) _) _
            refine norm_ (a' := ?_) ?_ ?_
            rotate_left
            · simp only [Act.put, List.setIfInBounds_toArray, List.set_cons_zero, List.set_cons_succ, i64_w, i32_w]
              rfl
            refine one_ (i := 6) (N := some 50) #[true, true, true, true, true, true, true, false, false, false, false] rfl rfl (by kernel_rfl) (by decide) (fun K hK => ?_)
            refine goes_ Try.func29 (by kernel_rfl) rfl #[.slice D1 d.f1.length d1] (by rfl) rfl rfl (by (try simp only [List.map_toArray, List.map_cons, List.map_nil]); first | done | rfl) ?_
            refine (HCL.out w6 D1 d1 d.f1 HG1.out HQ.out.2 HOK.out.2).mono ?_
            rintro e w7 ⟨v7, rfl, ho, hb⟩
            refine ⟨_, rfl, ?_⟩
            obtain ⟨E1, e1, rfl⟩ := Kd.R_slice ho
            have HV1 := Aside0.mk (Kd.R_mono (Kd.R_bound ho) (ok' := fun k => w6.heap.size ≤ k ∧ k < w7.heap.size) (fun k hk => ⟨hk.2.1, hk.2.2.1⟩))
            have HN6 := Aside0.mk HNB.out
            have HN76 := Aside0.mk hb.size
            replace HS := Aside0.mk (Kd.S_below HS.out hb)
            replace HV0 := Aside0.mk (Kd.R_below HV0.out hb)
            replace HXB := Aside0.mk (below_step HXB.out hb)
            replace HNB := Aside0.mk (Nat.le_trans HNB.out hb.size)
            replace y0 := Bx.box_later y0 hb
            replace y1 := Bx.box_later y1 hb
            clear hb ho HG1
            refine hK.out _ _ ⟨y0, y1⟩ (fun hHeld => ?_)
            clear hK K
            change wpAnyLast _ _ _ _ _ _ _ _ (Act.put _ (some 50) _) _
            refine norm_ (a' := ?_) ?_ ?_
            rotate_left
            · simp only [Act.put, List.setIfInBounds_toArray, List.set_cons_zero, List.set_cons_succ, i64_w, i32_w]
              rfl
            refine pure_ (i := 7) (N := some 51) (v := ?_) (a' := ?_) #[true, true, true, true, true, true, true, true, false, false, false] rfl rfl (by kernel_rfl) (fun _ _ _ h => h) (Or.inl ⟨by rfl, ?_⟩) ?_ ?_
            rotate_left
            · intro w'
              go_simp
              with_reducible rfl
            rotate_left
            · simp only [Act.put, List.setIfInBounds_toArray, List.set_cons_zero, List.set_cons_succ, i64_w, i32_w]
              rfl
            refine one_ (i := 8) (N := some 52) #[true, true, true, true, true, true, true, true, true, false, false] rfl rfl (by kernel_rfl) (by decide) (fun K hK => ?_)
            refine value_ (w1 := w7.alloc (.cells #[.slice E0 d.f0.length e0, .slice E1 d.f1.length e1] 42)) (v := .slice (some ⟨w7.heap.size, 0, none⟩) 1 1) (by rfl) rfl ?_ ?_
            · go_simp
            refine hK.out _ _ ⟨Bx.box_alloc _ y0, Bx.box_alloc _ y1⟩ (fun hHeld => ?_)
            clear hK K
            refine one_ (i := 9) (N := some 53) #[true, true, true, true, true, true, true, true, true, true, false] rfl rfl (by kernel_rfl) (by decide) (fun K hK => ?_)
            refine Kd.S_append_step kA (w0 := wo) wo.heap.size (by rfl) (.tmp 44) (.tmp 52) 24 42 (.agg #[.slice none 0 0, .slice none 0 0]) 48 rfl Try.underlying24 info42 rfl (show 0 < 2 by decide) (by decide) u9 ((covG l1 js).take j) d [.slice E0 d.f0.length e0, .slice E1 d.f1.length e1] (fun _ => True) (fun k => w2.heap.size ≤ k ∧ k < w7.heap.size) rfl rfl ?hp ?hokp ?hfresh ?HO ?HB ?hbase ?hl ?_
            case hp => exact kA_mkM _ _ _ d (Kd.R_lower (Kd.R_mono HV0.out (fun k hk => ⟨hk.1, Nat.lt_of_lt_of_le hk.2 HN76.out⟩)) (Nat.le_trans HXS.out HN2.out)) (Kd.R_lower (Kd.R_mono HV1.out (fun k hk => ⟨Nat.le_trans HN62.out hk.1, hk.2⟩)) (Nat.le_trans HXS.out HN6.out)) (fun k h1_ h2_ => by have := HV0.out.1 k h1_; have := HV1.out.1 k h2_.symm; omega)
            case hokp => exact fun k hk => ⟨trivial, fun he => by have := (Kd.S_R HS.out).1 k he.symm; have := this.2; have := HN2.out; have := hk.1; omega⟩
            case hfresh => exact fun _ _ => trivial
            case HO => exact Kd.S_mono HS.out (fun k hk => ⟨trivial, fun h2_ => by have := hk.2; have := HN2.out; have := h2_.1; omega⟩)
            case HB => exact HXB.out
            case hbase => exact HXB.out.size
            case hl => rw [List.length_take, HL.out]; have := HJL.out; have := HRL.out; have := HK.out.1; omega
            intro v10 w9 hS9 hB9 hg9 hat9
            have HS9 := Aside0.mk hS9
            have HXB9 := Aside0.mk hB9
            have y0' := cell_grown hg9 y0 (fun he => by have := (Kd.S_R HS.out).1 _ he.symm; have := this.2; exact absurd this (Nat.lt_irrefl _))
            have y1' := cell_grown hg9 y1 (fun he => by have := (Kd.S_R HS.out).1 _ he.symm; have := this.2; exact absurd this (Nat.lt_irrefl _))
            clear hS9 hB9 hg9 hat9
            refine hK.out _ _ ⟨y0', y1'⟩ (fun hHeld => ?_)
            clear hK K
            change wpAnyLast _ _ _ _ _ _ _ _ (Act.put _ (some 53) _) _
            refine norm_ (a' := ?_) ?_ ?_
            rotate_left
            · simp only [Act.put, List.setIfInBounds_toArray, List.set_cons_zero, List.set_cons_succ, i64_w, i32_w]
              rfl
            refine pure_ (i := 10) (N := some 9) (v := ?_) (a' := ?_) #[true, true, true, true, true, true, true, true, true, true, true] rfl rfl (by kernel_rfl) (fun _ _ _ h => h) (Or.inl ⟨by rfl, ?_⟩) ?_ ?_
            rotate_left
            · intro w'
              go_simp
              with_reducible rfl
            rotate_left
            · simp only [Act.put, List.setIfInBounds_toArray, List.set_cons_zero, List.set_cons_succ, i64_w, i32_w]
              rfl
            refine done_ (by kernel_rfl) ?_
            go_wp2
            go_roundg (js.length - j)
            case measure => have := HG2.out; have := HLT.out; omega
            case rel => exact ⟨j + 1, by rw [HW.out], ⟨HLT.out⟩, ⟨by omega⟩, ⟨by rw [HTK.out]; exact HS9.out⟩, HXB9⟩
          · have h1 : ¬ (j : Int) < (js.length : Int) := by omega
            have HE := Aside0.mk (show (covG l1 js).take j = covG l1 js from List.take_of_length_le (by rw [HL.out]; omega))
            clear hlt
            go_wp2
            go_ret2
            exact ⟨_, rfl, by have := HS.out; rw [HE.out] at this; exact Kd.S_lower this HB.out.size, below_step HB.out HXB.out⟩
end Go.Proofs.Ytdnidldinafakaa.Pr
