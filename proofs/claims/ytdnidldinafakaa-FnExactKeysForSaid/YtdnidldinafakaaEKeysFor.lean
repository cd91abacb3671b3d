/- impl.KeysFor: the lists of columns that tell all, and of no fewer of which all is told. Conditions: what closure, lists and allColumns come to; lengths that Go can make room for. -/
import Derived.Test.YtdnidldinafakaaPr0
import Derived.Test.YtdnidldinafakaaPr1
import Derived.Test.YtdnidldinafakaaPr5
import Derived.Test.YtdnidldinafakaaEGoodDeps
import Derived.Test.YtdnidldinafakaaEHasAll
import Derived.Test.YtdnidldinafakaaEWithout
import Derived.Test.YtdnidldinafakaaIv
import Derived.Test.YtdnidldinafakaaWFoot
namespace Go.Proofs.Ytdnidldinafakaa.Pr
open Go.RowKit Go.Proofs.Ytdnidldinafakaa Go.Proofs.YtdnidldinafakaaW.PrintWords Go.Proofs.YtdnidldinafakaaW.PrintLast Go.Proofs.YtdnidldinafakaaW.PrintMore
set_option linter.unusedVariables false
set_option linter.unusedSimpArgs false
def cloK (k : Nat) (l : List S42) (s : List Int) : List Int := (impl_closure.f k l s).getD []
def cloOk (k : Nat) (l : List S42) (s : List Int) : Bool := (impl_closure.f k l s).isSome
theorem cloOk_eq {k : Nat} {l : List S42} {s : List Int} (h : cloOk k l s = true) : impl_closure.f k l s = some (cloK k l s) := by
  unfold cloOk at h
  unfold cloK
  cases e : impl_closure.f k l s with
  | none => rw [e] at h; cases h
  | some t => rfl
def lessOne (s : List Int) (c : Int) : List Int := s.filter fun x => !([c] : List Int).contains x
def keyP (k : Nat) (a0 : Int) (l : List S42) (s : List Int) : Bool := !decide (((cloK k l s).length : Int) < a0) && !(s.any fun c => (((cloK k l (lessOne s c)).length : Int) == a0))
def keyOk (k : Nat) (l : List S42) (s : List Int) : Bool := decide (s.length * 8 ≤ 140737488355328) && cloOk k l s && s.all fun c => cloOk k l (lessOne s c)
theorem lessOne_out {s : List Int} {c : Int} (h : c ∉ s) : lessOne s c = s := List.filter_eq_self.2 (fun x hx => by
  have : ¬ x = c := fun e => h (e ▸ hx)
  simp [this])
theorem keyOk_one {k : Nat} {l : List S42} {s : List Int} (h : keyOk k l s = true) (c : Int) : impl_closure.f k l (lessOne s c) = some (cloK k l (lessOne s c)) := by
  simp only [keyOk, Bool.and_eq_true, List.all_eq_true] at h
  by_cases hc : c ∈ s
  · exact cloOk_eq (h.2 c hc)
  · rw [lessOne_out hc]
    exact cloOk_eq h.1.2
set_option maxHeartbeats 4000000 in
set_option maxRecDepth 100000 in
theorem keys1 (k : Nat) (x a0 : Int) (B0 B1 B2 : Nat) (A1 : Option Addr) (c1 : Nat) (l1 : List S42) (As : Option Addr) (cs : Nat) (s : List Int) (w : World)
    (h0 : w.cell? ⟨B0, 0, none⟩ = some (.slice A1 l1.length c1)) (h1 : w.cell? ⟨B1, 0, none⟩ = some (.slice As s.length cs)) (h2 : w.cell? ⟨B2, 0, none⟩ = some (.int .i64 a0))
    (hr1 : Kd.C k42 w A1 l1.length l1) (hc1 : l1.length ≤ c1) (hrs : Kd.C (Kd.int .i64) w As s.length s) (hcs : s.length ≤ cs) (hok : s.length * 8 ≤ 140737488355328) (hcl : impl_closure.f k l1 (lessOne s x) = some (cloK k l1 (lessOne s x))) :
    Calls Try.prog 38 (#[.int .i64 x] ++ #[.pointer (some ⟨B0, 0, none⟩), .pointer (some ⟨B1, 0, none⟩), .pointer (some ⟨B2, 0, none⟩)]) w fun e w' => e = .returned (.bool (((cloK k l1 (lessOne s x)).length : Int) == a0)) ∧ Below w.heap.size w w' := by
  have hwo := fun (W : World) (A : Option Addr) (c : Nat) (hW : Kd.C (Kd.int .i64) W As s.length s) (hW2 : Kd.C (Kd.int .i64) W A ([x] : List Int).length [x]) (hc : ([x] : List Int).length ≤ c) => impl_without.calls As cs s A c [x] (lessOne s x) W hW hcs hW2 hc (by unfold impl_without.f; rw [if_pos hok]; rfl)
  have hcc := fun (W : World) (A : Option Addr) (c : Nat) (hW : Kd.C k42 W A1 l1.length l1) (hW2 : Kd.C (Kd.int .i64) W A (lessOne s x).length (lessOne s x)) (hc : (lessOne s x).length ≤ c) => impl_closure.calls k A1 c1 l1 A c (lessOne s x) _ W hW hc1 hW2 hc hcl
  generalize cloK k l1 (lessOne s x) = tc at hcc ⊢
  have HWO := Aside0.mk hwo
  have HCC := Aside0.mk hcc
  have HR1 := Aside0.mk hr1
  have HRS := Aside0.mk hrs
  clear hwo hcc hr1 hrs hc1 hcs hok hcl
  show Calls _ _ #[.int .i64 x, .pointer (some ⟨B0, 0, none⟩), .pointer (some ⟨B1, 0, none⟩), .pointer (some ⟨B2, 0, none⟩)] w _
  go_enter Try.func38, Try.ntmps38
  go_wp2
  refine Bx.start_any (n := 10) (S := fun w_ => w_.cell? ⟨B0, 0, none⟩ = some (.slice A1 l1.length c1) ∧ w_.cell? ⟨B1, 0, none⟩ = some (.slice As s.length cs) ∧ w_.cell? ⟨B2, 0, none⟩ = some (.int .i64 a0)) (ds := []) #[false, false, false, false, false, false, false, false, false, false] (by kernel_rfl) rfl rfl ⟨h0, h1, h2⟩ (fun w2 hb hHeld => ?_)
  replace HR1 := Aside0.mk (Kd.C_below HR1.out hb)
  replace HRS := Aside0.mk (Kd.C_below HRS.out hb)
  replace h0 := Bx.box_later h0 hb
  replace h1 := Bx.box_later h1 hb
  replace h2 := Bx.box_later h2 hb
  have HB := Aside0.mk hb
  clear hb
  refine take_ (i := 0) (N := some 6) (v := ?_) (a' := ?_) #[true, false, false, false, false, false, false, false, false, false] rfl rfl (by kernel_rfl) (fun _ _ _ h => h) (Or.inl ⟨by rfl, ?_⟩) hHeld ?_ ?_
  rotate_left
  · rintro w' ⟨s0_, s1_, s2_⟩
    go_simp
    with_reducible rfl
  rotate_left
  · simp only [Act.put, List.setIfInBounds_toArray, List.set_cons_zero, List.set_cons_succ, i64_w, i32_w]
    rfl
  refine take_ (i := 1) (N := some 7) (v := ?_) (a' := ?_) #[true, true, false, false, false, false, false, false, false, false] rfl rfl (by kernel_rfl) (fun _ _ _ h => h) (Or.inl ⟨by rfl, ?_⟩) hHeld ?_ ?_
  rotate_left
  · rintro w' ⟨s0_, s1_, s2_⟩
    go_simp
    with_reducible rfl
  rotate_left
  · simp only [Act.put, List.setIfInBounds_toArray, List.set_cons_zero, List.set_cons_succ, i64_w, i32_w]
    rfl
  refine pure_ (i := 2) (N := some 8) (v := ?_) (a' := ?_) #[true, true, true, false, false, false, false, false, false, false] rfl rfl (by kernel_rfl) (fun _ _ _ h => h) (Or.inl ⟨by rfl, ?_⟩) ?_ ?_
  rotate_left
  · intro w'
    go_simp
    with_reducible rfl
  rotate_left
  · simp only [Act.put, List.setIfInBounds_toArray, List.set_cons_zero, List.set_cons_succ, i64_w, i32_w]
    rfl
  refine take_ (i := 7) (N := some 13) (v := ?_) (a' := ?_) #[true, true, true, false, false, false, false, true, false, false] rfl rfl (by kernel_rfl) (fun _ _ _ h => h) (Or.inl ⟨by rfl, ?_⟩) hHeld ?_ ?_
  rotate_left
  · rintro w' ⟨s0_, s1_, s2_⟩
    go_simp
    with_reducible rfl
  rotate_left
  · simp only [Act.put, List.setIfInBounds_toArray, List.set_cons_zero, List.set_cons_succ, i64_w, i32_w]
    rfl
  refine one_ (i := 3) (N := some 9) #[true, true, true, true, false, false, false, true, false, false] rfl rfl (by kernel_rfl) (by decide) (fun K hK => ?_)
  have hal := below_alloc (Below.refl w2.heap.size w2) (.cells #[.int .i64 x] 3)
  have hlit : Kd.C (Kd.int .i64) (w2.alloc (.cells #[.int .i64 x] 3)) (some ⟨w2.heap.size, 0, none⟩) ([x] : List Int).length [x] := (Kd.R_reads' (n := 1) (Kd.R_of_own (ok := fun _ => True) (World.ownsRow_lit (base := 0) (e := 3) (size := 1) w2 #[.int .i64 x] 1 (Nat.zero_le _) (by simp [maxLen]) rfl) (fun _ _ => trivial))).2.2
  refine value_ (w1 := w2.alloc (.cells #[.int .i64 x] 3)) (v := .slice (some ⟨w2.heap.size, 0, none⟩) ([x] : List Int).length 1) (by rfl) rfl ?_ ?_
  · go_simp
  replace HR1 := Aside0.mk (Kd.C_below HR1.out hal)
  replace HRS := Aside0.mk (Kd.C_below HRS.out hal)
  replace h0 := Bx.box_later h0 hal
  replace h1 := Bx.box_later h1 hal
  replace h2 := Bx.box_later h2 hal
  replace HB := Aside0.mk (below_step HB.out hal)
  have HLIT := Aside0.mk hlit
  clear hal hlit
  generalize w2.alloc (.cells #[.int .i64 x] 3) = w3 at HR1 HRS h0 h1 h2 HB HLIT ⊢
  refine hK.out _ _ ⟨h0, h1, h2⟩ (fun hHeld => ?_)
  clear hK K
  change wpAnyLast _ _ _ _ _ _ _ _ (Act.put _ (some 9) _) _
  refine norm_ (a' := ?_) ?_ ?_
  rotate_left
  · simp only [Act.put, List.setIfInBounds_toArray, List.set_cons_zero, List.set_cons_succ, i64_w, i32_w]
    rfl
  refine one_ (i := 4) (N := some 10) #[true, true, true, true, true, false, false, true, false, false] rfl rfl (by kernel_rfl) (by decide) (fun K hK => ?_)
  refine goes_ Try.func39 (by kernel_rfl) rfl #[.slice As s.length cs, .slice (some ⟨w2.heap.size, 0, none⟩) ([x] : List Int).length 1] (by rfl) rfl rfl (by (try simp only [List.map_toArray, List.map_cons, List.map_nil]); first | done | rfl) ?_
  refine (HWO.out w3 _ 1 HRS.out HLIT.out (Nat.le_refl _)).mono ?_
  rintro e w4 ⟨v4, rfl, ho4, hb⟩
  refine ⟨_, rfl, ?_⟩
  obtain ⟨A4, c4, rfl⟩ := Kd.R_slice ho4
  have HO4 := Aside0.mk ho4
  replace HR1 := Aside0.mk (Kd.C_below HR1.out hb)
  replace h0 := Bx.box_later h0 hb
  replace h1 := Bx.box_later h1 hb
  replace h2 := Bx.box_later h2 hb
  replace HB := Aside0.mk (below_step HB.out hb)
  clear hb ho4 HLIT HRS HWO
  refine hK.out _ _ ⟨h0, h1, h2⟩ (fun hHeld => ?_)
  clear hK K
  change wpAnyLast _ _ _ _ _ _ _ _ (Act.put _ (some 10) _) _
  refine norm_ (a' := ?_) ?_ ?_
  rotate_left
  · simp only [Act.put, List.setIfInBounds_toArray, List.set_cons_zero, List.set_cons_succ, i64_w, i32_w]
    rfl
  refine one_ (i := 5) (N := some 11) #[true, true, true, true, true, true, false, true, false, false] rfl rfl (by kernel_rfl) (by decide) (fun K hK => ?_)
  refine goes_ Try.func36 (by kernel_rfl) rfl #[.slice A1 l1.length c1, .slice A4 (lessOne s x).length c4] (by rfl) rfl rfl (by (try simp only [List.map_toArray, List.map_cons, List.map_nil]); first | done | rfl) ?_
  refine (HCC.out w4 A4 c4 HR1.out (Kd.R_reads' HO4.out).2.2 (Kd.R_reads' HO4.out).2.1).mono ?_
  rintro e w5 ⟨v5, rfl, ho5, hb⟩
  refine ⟨_, rfl, ?_⟩
  obtain ⟨A5, c5, rfl⟩ := Kd.R_slice ho5
  replace h0 := Bx.box_later h0 hb
  replace h1 := Bx.box_later h1 hb
  replace h2 := Bx.box_later h2 hb
  replace HB := Aside0.mk (below_step HB.out hb)
  clear hb ho5 HO4 HCC HR1
  refine hK.out _ _ ⟨h0, h1, h2⟩ (fun hHeld => ?_)
  clear hK K
  change wpAnyLast _ _ _ _ _ _ _ _ (Act.put _ (some 11) _) _
  refine norm_ (a' := ?_) ?_ ?_
  rotate_left
  · simp only [Act.put, List.setIfInBounds_toArray, List.set_cons_zero, List.set_cons_succ, i64_w, i32_w]
    rfl
  refine pure_ (i := 6) (N := some 12) (v := ?_) (a' := ?_) #[true, true, true, true, true, true, true, true, false, false] rfl rfl (by kernel_rfl) (fun _ _ _ h => h) (Or.inl ⟨by rfl, ?_⟩) ?_ ?_
  rotate_left
  · intro w'
    go_simp
    with_reducible rfl
  rotate_left
  · simp only [Act.put, List.setIfInBounds_toArray, List.set_cons_zero, List.set_cons_succ, i64_w, i32_w]
    rfl
  refine pure_ (i := 8) (N := some 14) (v := ?_) (a' := ?_) #[true, true, true, true, true, true, true, true, true, false] rfl rfl (by kernel_rfl) (fun _ _ _ h => h) (Or.inl ⟨by rfl, ?_⟩) ?_ ?_
  rotate_left
  · intro w'
    go_simp
    with_reducible rfl
  rotate_left
  · simp only [Act.put, List.setIfInBounds_toArray, List.set_cons_zero, List.set_cons_succ, i64_w, i32_w]
    rfl
  refine pure_ (i := 9) (N := some 5) (v := ?_) (a' := ?_) #[true, true, true, true, true, true, true, true, true, true] rfl rfl (by kernel_rfl) (fun _ _ _ h => h) (Or.inl ⟨by rfl, ?_⟩) ?_ ?_
  rotate_left
  · intro w'
    go_simp
    with_reducible rfl
  rotate_left
  · simp only [Act.put, List.setIfInBounds_toArray, List.set_cons_zero, List.set_cons_succ, i64_w, i32_w]
    rfl
  refine done_ (by kernel_rfl) ?_
  go_wp2
  go_ret
  exact ⟨rfl, HB.out⟩
def impl_KeysFor.f (k : Nat) (a0 : Int) (l1 : List S42) : Option (List (List Int) × Bool) :=
  (impl_GoodDeps.f a0 l1).bind fun b => if b = true then (impl_allColumns.f k a0).bind fun cs => (impl_lists.f k cs).bind fun ls => if (ls.length + 1) * 24 ≤ 140737488355328 ∧ ls.all (keyOk k l1) = true then some (ls.filter (keyP k a0 l1), true) else none else some ([], false)
set_option maxHeartbeats 8000000 in
set_option maxRecDepth 100000 in
theorem impl_KeysFor.calls (k : Nat) (a0 : Int) (A1 : Option Addr) (c1 : Nat) (l1 : List S42) (r1 : List (List Int)) (r2 : Bool) (w : World) (hr1 : Kd.C k42 w A1 l1.length l1) (hc1 : l1.length ≤ c1) (h : impl_KeysFor.f k a0 l1 = some (r1, r2)) :
    Calls Try.prog 14 #[.int .i64 a0, .slice A1 l1.length c1] w fun e w' => ∃ v0_ : Value, e = .returned (.tuple #[v0_, .bool r2]) ∧ Kd.S (Kd.slice 3 (Kd.int .i64)) 37 w' w.heap.size (fun _ => True) v0_ r1 ∧ Below w.heap.size w w' := by
  unfold impl_KeysFor.f at h
  obtain ⟨b, hg, h2⟩ := Option.bind_eq_some_iff.mp h
  clear h
  have h := h2
  clear h2
  have x2 : ((w.alloc (.cells #[.int .i64 a0] 3)).alloc (.cells #[.slice A1 l1.length c1] 24)).cell? ⟨w.heap.size, 0, none⟩ = some (.int .i64 a0) := Bx.box_alloc _ (Bx.box_new _ _ _ _ _ rfl)
  have x0 : ((w.alloc (.cells #[.int .i64 a0] 3)).alloc (.cells #[.slice A1 l1.length c1] 24)).cell? ⟨w.heap.size + 1, 0, none⟩ = some (.slice A1 l1.length c1) := Bx.box_new' _ _ _ _ _ _ (by simp) rfl
  have HB := Aside0.mk (below_alloc (below_alloc (Below.refl w.heap.size w) (.cells #[.int .i64 a0] 3)) (.cells #[.slice A1 l1.length c1] 24))
  have HR1 := Aside0.mk (Kd.C_alloc (Kd.C_alloc hr1 (.cells #[.int .i64 a0] 3)) (.cells #[.slice A1 l1.length c1] 24))
  have HR0 := Aside0.mk hr1
  have HG := Aside0.mk hg
  have HC1 := Aside0.mk hc1
  clear hr1 hc1 hg
  cases b with
  | false =>
    simp only [Bool.false_eq_true, if_false] at h
    obtain ⟨rfl, rfl⟩ : [] = r1 ∧ false = r2 := by simpa using h
    clear h
    go_enter Try.func14, Try.ntmps14
    go_wp2_with (first | (go_at_call 25; refine (impl_GoodDeps.calls a0 A1 c1 l1 false _ HR1.out HC1.out HG.out).mono ?_; rintro e w3 ⟨rfl, hb⟩; replace HB := Aside0.mk (below_step HB.out hb); clear hb))
    go_ret2
    exact ⟨.slice none 0 0, rfl, Kd.S_nil _ _ _ _ _, HB.out⟩
  | true =>
    simp only [if_true] at h
    obtain ⟨cs, hcs, h2⟩ := Option.bind_eq_some_iff.mp h
    obtain ⟨ls, hls, h3⟩ := Option.bind_eq_some_iff.mp h2
    clear h h2
    have h := h3
    clear h3
    by_cases hk : (ls.length + 1) * 24 ≤ 140737488355328 ∧ ls.all (keyOk k l1) = true
    rotate_left
    · rw [if_neg hk] at h
      cases h
    rw [if_pos hk] at h
    obtain ⟨rfl, rfl⟩ : ls.filter (keyP k a0 l1) = r1 ∧ true = r2 := by simpa using h
    have HCS := Aside0.mk hcs
    have HLS := Aside0.mk hls
    have HK := Aside0.mk hk
    clear h hcs hls hk
    go_enter Try.func14, Try.ntmps14
    go_wp2_with (first | (go_at_call 25; refine (impl_GoodDeps.calls a0 A1 c1 l1 true _ HR1.out HC1.out HG.out).mono ?_; rintro e w3 ⟨rfl, hb⟩; replace HB := Aside0.mk (below_step HB.out hb); replace HR1 := Aside0.mk (Kd.C_below HR1.out hb); replace x0 := Bx.box_later x0 hb; replace x2 := Bx.box_later x2 hb; clear hb HG) | ((with_reducible refine gate_dst (N := 14) rfl ?_); refine Kd.S_lit (Kd.slice 3 (Kd.int .i64)) _ 37 ?hg (N := 14) ?hd (xs := ([] : List (List Int))) (inner := []) (ok := fun _ => True) (okp := fun _ => True) ?hr ?hp (fun _ hk => hk) trivial (Below.refl _ _) (Nat.le_refl _) (by simp) ?_; (case hd => rfl); (case hg => rfl); (case hr => first | (go_simp; done) | (go_simp; rfl)); (case hp => exact (Reps.none _ _)); intro v6 w4 ho hb hg_ hnew_; clear hg_ hnew_; have HW3 := Aside0.mk (And.intro (Bx.box_lt x0) (Bx.box_lt x2)); have HB3 := Aside0.mk (Kd.S_base ho); have HO := Aside0.mk (Kd.S_lower ho HB.out.size); replace HB := Aside0.mk (below_step HB.out hb); replace HR1 := Aside0.mk (Kd.C_below HR1.out hb); replace x0 := Bx.box_later x0 hb; replace x2 := Bx.box_later x2 hb; clear ho hb) | (go_at_call 35; refine (impl_allColumns.calls k a0 cs _ HCS.out).mono ?_; rintro e w5 ⟨v5, rfl, ho, hb⟩; obtain ⟨A5, c5, rfl⟩ := Kd.R_slice ho; have HO5 := Aside0.mk ho; replace HO := Aside0.mk (Kd.S_below HO.out hb); replace HB := Aside0.mk (below_step HB.out hb); replace HR1 := Aside0.mk (Kd.C_below HR1.out hb); replace x0 := Bx.box_later x0 hb; replace x2 := Bx.box_later x2 hb; clear ho hb) | (go_at_call 34; refine (impl_lists.calls k A5 c5 cs ls _ (Kd.R_reads' HO5.out).2.2 (Kd.R_reads' HO5.out).2.1 HLS.out).mono ?_; rintro e wL ⟨vL, rfl, ho, hb⟩; obtain ⟨AL, cL, rfl⟩ := Kd.S_slice ho; have HL := Aside0.mk ho; have HOB := Aside0.mk (Kd.S_lt HO.out); replace HO := Aside0.mk (Kd.S_below (Kd.S_mono (ok' := fun k => k < w5.heap.size) (Kd.S_bound HO.out) (fun k hk => hk.2.2.1)) hb); have HN := Aside0.mk (Kd.S_reads' ho).2.2.2.1; have HBL := Aside0.mk hb; have H5W := Aside0.mk HB.out.size; replace HB := Aside0.mk (below_step HB.out hb); replace HR1 := Aside0.mk (Kd.C_below HR1.out hb); replace x0 := Bx.box_later x0 hb; replace x2 := Bx.box_later x2 hb; clear ho hb HO5))
    obtain ⟨f, hLR⟩ := HL.out
    have HLR := Aside0.mk hLR
    clear hLR HL HLS HCS
    go_loopg [6, 19] (ls.length + 1) (fun gg v6 v19 wr => ∃ j : Nat, v19 = .int .i64 j ∧ Aside0 (j ≤ ls.length) ∧ Aside0 (ls.length + 1 - j ≤ gg) ∧ Aside0 (Kd.S (Kd.slice 3 (Kd.int .i64)) 37 wr w.heap.size (fun k_ => k_ < w5.heap.size ∨ wL.heap.size ≤ k_ ∨ (some k_ ≠ (Value.slice AL ls.length cL).ownBlock ∧ f k_ < j)) v6 ((ls.take j).filter (keyP k a0 l1))) ∧ Aside0 (Kept wL wr (fun k_ => w3.heap.size ≤ k_ ∧ k_ < w5.heap.size)) ∧ Aside0 (Below w.heap.size w wr) ∧ Aside0 (∀ k_, v6.ownBlock = some k_ → (w3.heap.size ≤ k_ ∧ k_ < w5.heap.size) ∨ wL.heap.size ≤ k_))
    case atStart => exact ⟨0, rfl, ⟨Nat.zero_le _⟩, ⟨by omega⟩, ⟨by rw [List.take_zero]; exact Kd.S_mono HO.out (fun k_ hk_ => Or.inl hk_)⟩, ⟨Kept.refl _ _⟩, HB, ⟨fun k_ hk_ => Or.inl ⟨HB3.out k_ hk_, HOB.out k_ hk_⟩⟩⟩
    case round =>
      clear HO HOB HB3
      obtain ⟨j, rfl, HJ, HG, HO, HK9, HB', HOB⟩ := hrel
      clear HB
      have HB := HB'
      clear HB'
      replace x0 := cell_kept x0 HK9.out (fun hs => by have := HW3.out.1; have := hs.1; simp only at *; omega)
      replace x2 := cell_kept x2 HK9.out (fun hs => by have := HW3.out.2; have := hs.1; simp only at *; omega)
      have HR1 := Aside0.mk (Kd.C_below HR0.out HB.out)
      by_cases hlt : j < ls.length
      · have h1 : (j : Int) < (ls.length : Int) := by omega
        obtain ⟨gL, capL, hv, hgb, hgl, _⟩ := Kd.R_form HLR.out (by rw [List.length_zipIdx]; omega)
        injection hv with hv1 hv2 hv3
        subst hv1
        subst hv3
        obtain ⟨ce, hcl, hM, hcc, hfr⟩ := Kd.R_elem HLR.out (([] : List Int), 0) (j : Int) (by omega) (by omega)
        have hz : ls.zipIdx.getD (j : Int).toNat (([] : List Int), 0) = (ls[j], j) := by simp [List.getD_eq_getElem?_getD, hlt]
        rw [hz] at hM
        obtain ⟨v, rfl, hRv⟩ := hM
        have x9 := hcc 0 _ rfl
        have hs : ls[j] ∈ ls := List.getElem_mem hlt
        have htk : ls.take (j + 1) = ls.take j ++ [ls[j]] := by rw [List.take_add_one, List.getElem?_eq_getElem hlt]; rfl
        have hok := List.all_eq_true.1 HK.out.2 _ hs
        generalize ls[j] = s at hRv htk hok
        obtain ⟨A9, c9, rfl⟩ := Kd.R_slice hRv
        simp only [Int.toNat_natCast] at x9
        rw [show j * (Kd.tag f (Kd.slice 3 (Kd.int .i64))).sz + 0 = j from Nat.mul_one j] at x9
        replace x9 := cell_kept x9 HK9.out (fun hs => by have := hs.2; have := hgb; simp only at *; omega)
        have hRb := Kd.R_bound hRv
        have hRk := Kd.R_kept hRb HK9.out (fun k_ hk_ hs_ => by have := hk_.2.1; have := hs_.2; omega)
        have HRV := Aside0.mk hRk
        have HS9 := Aside0.mk (Kd.R_reads' hRk).2.2
        have HC9 := Aside0.mk (Kd.R_reads' hRk).2.1
        have HKS := Aside0.mk HK9.out.1
        have HTK := Aside0.mk htk
        have HOK := Aside0.mk hok
        have HLT := Aside0.mk hlt
        have HWJ := Aside0.mk (Pl.wrap_succ (show j < 9223372036854775807 by have := HN.out; omega))
        clear hRv htk hok hlt hs hz hcc hfr hcl hgb hgl hv2 hRb hRk
        go_wp2
        have x1 : (wr.alloc (.cells #[.slice A9 s.length c9] 37)).cell? ⟨wr.heap.size, 0, none⟩ = some (.slice A9 s.length c9) := Bx.box_new _ _ _ _ _ rfl
        have hal := below_alloc (Below.refl wr.heap.size wr) (.cells #[.slice A9 s.length c9] 37)
        replace x0 := Bx.box_later x0 hal
        replace x2 := Bx.box_later x2 hal
        replace HR1 := Aside0.mk (Kd.C_below HR1.out hal)
        replace HS9 := Aside0.mk (Kd.C_below HS9.out hal)
        replace HRV := Aside0.mk (Kd.R_below HRV.out hal)
        replace HB := Aside0.mk (below_step HB.out hal)
        replace HK9 := Aside0.mk (HK9.out.below hal)
        replace HO := Aside0.mk (Kd.S_below HO.out hal)
        generalize hg_ : wr.alloc (.cells #[.slice A9 s.length c9] 37) = wa at x0 x1 x2 HR1 HS9 HRV HB HK9 HO ⊢
        clear hg_ hal x9
        refine Bx.start_any (n := 6) (S := fun w_ => w_.cell? ⟨w.heap.size + 1, 0, none⟩ = some (.slice A1 l1.length c1) ∧ w_.cell? ⟨wr.heap.size, 0, none⟩ = some (.slice A9 s.length c9) ∧ w_.cell? ⟨w.heap.size, 0, none⟩ = some (.int .i64 a0)) (ds := []) #[false, false, false, false, false, false] (by kernel_rfl) rfl rfl ⟨x0, x1, x2⟩ (fun w2 hb hHeld => ?_)
        replace HR1 := Aside0.mk (Kd.C_below HR1.out hb)
        replace HS9 := Aside0.mk (Kd.C_below HS9.out hb)
        replace HRV := Aside0.mk (Kd.R_below HRV.out hb)
        replace x0 := Bx.box_later x0 hb
        replace x1 := Bx.box_later x1 hb
        replace x2 := Bx.box_later x2 hb
        replace HB := Aside0.mk (below_step HB.out hb)
        replace HK9 := Aside0.mk (HK9.out.below hb)
        replace HO := Aside0.mk (Kd.S_below HO.out hb)
        clear hb
        refine take_ (i := 0) (N := some 23) (v := ?_) (a' := ?_) #[true, false, false, false, false, false] rfl rfl (by kernel_rfl) (fun _ _ _ h => h) (Or.inl ⟨by rfl, ?_⟩) hHeld ?_ ?_
        rotate_left
        · rintro w' ⟨s0_, s1_, s2_⟩
          go_simp
          with_reducible rfl
        rotate_left
        · simp only [Act.put, List.setIfInBounds_toArray, List.set_cons_zero, List.set_cons_succ, i64_w, i32_w]
          rfl
        refine take_ (i := 1) (N := some 24) (v := ?_) (a' := ?_) #[true, true, false, false, false, false] rfl rfl (by kernel_rfl) (fun _ _ _ h => h) (Or.inl ⟨by rfl, ?_⟩) hHeld ?_ ?_
        rotate_left
        · rintro w' ⟨s0_, s1_, s2_⟩
          go_simp
          with_reducible rfl
        rotate_left
        · simp only [Act.put, List.setIfInBounds_toArray, List.set_cons_zero, List.set_cons_succ, i64_w, i32_w]
          rfl
        refine take_ (i := 4) (N := some 27) (v := ?_) (a' := ?_) #[true, true, false, false, true, false] rfl rfl (by kernel_rfl) (fun _ _ _ h => h) (Or.inl ⟨by rfl, ?_⟩) hHeld ?_ ?_
        rotate_left
        · rintro w' ⟨s0_, s1_, s2_⟩
          go_simp
          with_reducible rfl
        rotate_left
        · simp only [Act.put, List.setIfInBounds_toArray, List.set_cons_zero, List.set_cons_succ, i64_w, i32_w]
          rfl
        refine one_ (i := 2) (N := some 25) #[true, true, true, false, true, false] rfl rfl (by kernel_rfl) (by decide) (fun K hK => ?_)
        refine goes_ Try.func36 (by kernel_rfl) rfl #[.slice A1 l1.length c1, .slice A9 s.length c9] (by rfl) rfl rfl (by (try simp only [List.map_toArray, List.map_cons, List.map_nil]); first | done | rfl) ?_
        refine (impl_closure.calls k A1 c1 l1 A9 c9 s _ w2 HR1.out HC1.out HS9.out HC9.out (cloOk_eq (by have := HOK.out; simp only [keyOk, Bool.and_eq_true] at this; exact this.1.2))).mono ?_
        rintro e w7 ⟨v7, rfl, ho7, hb⟩
        refine ⟨_, rfl, ?_⟩
        obtain ⟨A7, c7, rfl⟩ := Kd.R_slice ho7
        replace HR1 := Aside0.mk (Kd.C_below HR1.out hb)
        replace HS9 := Aside0.mk (Kd.C_below HS9.out hb)
        replace HRV := Aside0.mk (Kd.R_below HRV.out hb)
        replace x0 := Bx.box_later x0 hb
        replace x1 := Bx.box_later x1 hb
        replace x2 := Bx.box_later x2 hb
        replace HB := Aside0.mk (below_step HB.out hb)
        replace HK9 := Aside0.mk (HK9.out.below hb)
        replace HO := Aside0.mk (Kd.S_below HO.out hb)
        clear hb ho7
        refine hK.out _ _ ⟨x0, x1, x2⟩ (fun hHeld => ?_)
        clear hK K
        change wpAnyLast _ _ _ _ _ _ _ _ (Act.put _ (some 25) _) _
        refine norm_ (a' := ?_) ?_ ?_
        rotate_left
        · simp only [Act.put, List.setIfInBounds_toArray, List.set_cons_zero, List.set_cons_succ, i64_w, i32_w]
          rfl
        refine pure_ (i := 3) (N := some 26) (v := ?_) (a' := ?_) #[true, true, true, true, true, false] rfl rfl (by kernel_rfl) (fun _ _ _ h => h) (Or.inl ⟨by rfl, ?_⟩) ?_ ?_
        rotate_left
        · intro w'
          go_simp
          with_reducible rfl
        rotate_left
        · simp only [Act.put, List.setIfInBounds_toArray, List.set_cons_zero, List.set_cons_succ, i64_w, i32_w]
          rfl
        refine pure_ (i := 5) (N := some 28) (v := ?_) (a' := ?_) #[true, true, true, true, true, true] rfl rfl (by kernel_rfl) (fun _ _ _ h => h) (Or.inl ⟨by rfl, ?_⟩) ?_ ?_
        rotate_left
        · intro w'
          go_simp
          with_reducible rfl
        rotate_left
        · simp only [Act.put, List.setIfInBounds_toArray, List.set_cons_zero, List.set_cons_succ, i64_w, i32_w]
          rfl
        refine done_ (by kernel_rfl) ?_
        clear hHeld
        have HTF := Aside0.mk (show (ls.take (j + 1)).filter (keyP k a0 l1) = (ls.take j).filter (keyP k a0 l1) ++ (if keyP k a0 l1 s = true then [s] else []) from by rw [HTK.out, List.filter_append]; cases e_ : keyP k a0 l1 s <;> simp [e_])
        cases hd : decide (((cloK k l1 s).length : Int) < a0) with
        | true =>
          have HP := Aside0.mk (show keyP k a0 l1 s = false from by unfold keyP; rw [hd]; rfl)
          go_wp2
          go_roundg (ls.length - j)
          case measure => have := HG.out; have := HLT.out; omega
          case rel => exact ⟨j + 1, by rw [HWJ.out], ⟨HLT.out⟩, ⟨by omega⟩, ⟨by rw [HTF.out, HP.out]; simp only [Bool.false_eq_true, if_false, List.append_nil]; exact Kd.S_mono HO.out (fun k_ hk_ => hk_.elim Or.inl (fun h_ => Or.inr (h_.elim Or.inl (fun h2_ => Or.inr ⟨h2_.1, Nat.lt_succ_of_lt h2_.2⟩))))⟩, HK9, HB, HOB⟩
        | false =>
          have HD := Aside0.mk hd
          have hcon := ConInt 38 #[.pointer (some ⟨w.heap.size + 1, 0, none⟩), .pointer (some ⟨wr.heap.size, 0, none⟩), .pointer (some ⟨w.heap.size, 0, none⟩)] (enters_of Try.func38 rfl rfl) (fun c => (((cloK k l1 (lessOne s c)).length : Int) == a0)) A9 c9 s w7 HS9.out (fun W x hb => keys1 k x a0 (w.heap.size + 1) wr.heap.size w.heap.size A1 c1 l1 A9 c9 s W (Bx.box_later x0 hb) (Bx.box_later x1 hb) (Bx.box_later x2 hb) (Kd.C_below HR1.out hb) HC1.out (Kd.C_below HS9.out hb) HC9.out (by have := HOK.out; simp only [keyOk, Bool.and_eq_true, decide_eq_true_eq] at this; exact this.1.1) (keyOk_one HOK.out x))
          cases ha : s.any (fun c => (((cloK k l1 (lessOne s c)).length : Int) == a0)) with
          | true =>
            rw [ha] at hcon
            have HP := Aside0.mk (show keyP k a0 l1 s = false from by unfold keyP; rw [ha]; simp)
            have HCON := Aside0.mk hcon
            clear hcon ha
            go_wp2_with (first | (go_at_call 37; refine HCON.out.mono ?_; rintro e w8 ⟨rfl, hb⟩; replace HB := Aside0.mk (below_step HB.out hb); replace HK9 := Aside0.mk (HK9.out.below hb); replace HO := Aside0.mk (Kd.S_below HO.out hb); clear hb HCON x0 x1 x2))
            go_roundg (ls.length - j)
            case measure => have := HG.out; have := HLT.out; omega
            case rel => exact ⟨j + 1, by rw [HWJ.out], ⟨HLT.out⟩, ⟨by omega⟩, ⟨by rw [HTF.out, HP.out]; simp only [Bool.false_eq_true, if_false, List.append_nil]; exact Kd.S_mono HO.out (fun k_ hk_ => hk_.elim Or.inl (fun h_ => Or.inr (h_.elim Or.inl (fun h2_ => Or.inr ⟨h2_.1, Nat.lt_succ_of_lt h2_.2⟩))))⟩, HK9, HB, HOB⟩
          | false =>
            rw [ha] at hcon
            have HP := Aside0.mk (show keyP k a0 l1 s = true from by unfold keyP; rw [hd, ha]; rfl)
            have HCON := Aside0.mk hcon
            have HLL := Aside0.mk (show (((ls.take j).filter (keyP k a0 l1)).length + 1) * 24 ≤ 140737488355328 from by have h3_ := HK.out.1; have h4_ : ((ls.take j).filter (keyP k a0 l1)).length ≤ ls.length := Nat.le_trans (List.length_filter_le _ _) (by rw [List.length_take]; omega); omega)
            clear hcon ha
            go_wp2_with (first | (go_at_call 37; refine HCON.out.mono ?_; rintro e w8 ⟨rfl, hb⟩; replace HB := Aside0.mk (below_step HB.out hb); replace HK9 := Aside0.mk (HK9.out.below hb); replace HO := Aside0.mk (Kd.S_below HO.out hb); replace HRV := Aside0.mk (Kd.R_below HRV.out hb); replace x1 := Bx.box_later x1 hb; clear hb HCON x0 x2) | ((with_reducible refine gate_builtin (b := .append) (xs := #[.tmp 34, .tmp 36]) rfl ?_); at_builtin; refine Kd.S_append (Kd.slice 3 (Kd.int .i64)) (w0 := w) w.heap.size rfl (.tmp 34) (.tmp 36) 31 37 (.slice none 0 0) 24 rfl Try.underlying31 info37 rfl (by decide) (by omega) u6 ((ls.take j).filter (keyP k a0 l1)) s [.slice A9 s.length c9] (fun k_ => k_ < w5.heap.size ∨ wL.heap.size ≤ k_ ∨ (some k_ ≠ (Value.slice (some ⟨gL, 0, none⟩) ls.length cL).ownBlock ∧ f k_ < j + 1)) (fun k_ => (w5.heap.size ≤ k_ ∧ k_ < wL.heap.size) ∧ some k_ ≠ (Value.slice (some ⟨gL, 0, none⟩) ls.length cL).ownBlock ∧ f k_ = j) rfl rfl ?aP ?aK ?aF ?aO ?aB ?aS HLL.out ?_; (case aP => exact ⟨_, rfl, Kd.R_lower (Kd.R_mono HRV.out (fun k_ hk_ => ⟨⟨hk_.2.1, hk_.2.2.1⟩, fun he_ => hk_.1.1.2 (by injection he_), hk_.1.2⟩)) H5W.out⟩); (case aK => exact fun k_ hk_ => ⟨Or.inr (Or.inr ⟨hk_.2.1, by have := hk_.2.2; omega⟩), fun he_ => by have := HOB.out k_ he_.symm; have := hk_.1; omega⟩); (case aF => exact fun k_ hk_ => Or.inr (Or.inl (Nat.le_trans HK9.out.1 hk_))); (case aO => exact Kd.S_mono HO.out (fun k_ hk_ => hk_.elim (fun h_ => ⟨Or.inl h_, fun hp_ => by have := hp_.1.1; omega⟩) (fun h_ => h_.elim (fun h2_ => ⟨Or.inr (Or.inl h2_), fun hp_ => by have := hp_.1.2; omega⟩) (fun h2_ => ⟨Or.inr (Or.inr ⟨h2_.1, Nat.lt_succ_of_lt h2_.2⟩), fun hp_ => by have := hp_.2.2; have := h2_.2; omega⟩)))); (case aB => exact HB.out); (case aS => exact HB.out.size); intro v9 w9 ho hb hg hat; have HK10 := Aside0.mk (show Kept wL w9 (fun k_ => w3.heap.size ≤ k_ ∧ k_ < w5.heap.size) from ⟨Nat.le_trans HK9.out.1 hg.size, fun i_ hi_ hn_ => (hg.block i_ (Nat.lt_of_lt_of_le hi_ HK9.out.1) (fun he_ => (HOB.out i_ he_.symm).elim hn_ (fun h_ => by omega))).trans (HK9.out.2 i_ hi_ hn_)⟩); have HOB2 := Aside0.mk (show ∀ k_, v9.ownBlock = some k_ → (w3.heap.size ≤ k_ ∧ k_ < w5.heap.size) ∨ wL.heap.size ≤ k_ from fun k_ hk_ => hat.elim (fun h_ => HOB.out k_ (h_ ▸ hk_)) (fun ⟨b_, h1_, h2_⟩ => Or.inr (by rw [h1_] at hk_; injection hk_ with hk_; have := HK9.out.1; omega))); have HO2 := Aside0.mk ho; have HB2 := Aside0.mk hb; clear ho hb hg hat))
            go_roundg (ls.length - j)
            case measure => have := HG.out; have := HLT.out; omega
            case rel => exact ⟨j + 1, by rw [HWJ.out], ⟨HLT.out⟩, ⟨by omega⟩, ⟨by rw [HTF.out, HP.out]; simp only [if_true]; exact HO2.out⟩, HK10, HB2, HOB2⟩
      · have h1 : ¬ (j : Int) < (ls.length : Int) := by omega
        have HE := Aside0.mk (show ls.take j = ls from List.take_of_length_le (by omega))
        clear hlt
        go_wp2
        go_ret2
        exact ⟨_, rfl, by have := HO.out; rw [HE.out] at this; exact Kd.S_mono this (fun _ _ => trivial), HB.out⟩
end Go.Proofs.Ytdnidldinafakaa.Pr
