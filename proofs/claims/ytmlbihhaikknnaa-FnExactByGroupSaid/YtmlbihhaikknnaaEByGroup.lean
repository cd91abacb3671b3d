/- impl.ByGroup: a row for each value of a column. Conditions: what column, sumOf, distinct come to; lengths that Go can make room for. -/
import Derived.Test.YtmlbihhaikknnaaPr0
import Derived.Test.YtmlbihhaikknnaaPr1
import Derived.Test.YtmlbihhaikknnaaPr2
import Derived.Test.YtmlbihhaikknnaaPr3
import Derived.Test.YtmlbihhaikknnaaPr4
import Derived.Test.YtmlbihhaikknnaaPr5
import Derived.Test.YtmlbihhaikknnaaKdR
import Derived.Test.YtmlbihhaikknnaaMx2
import Derived.Test.YtmlbihhaikknnaaMx6
import Derived.Test.YtmlbihhaikknnaaWFoot
namespace Go.Proofs.Ytmlbihhaikknnaa.Pr
open Go.RowKit Go.Proofs.Ytmlbihhaikknnaa Go.Proofs.YtmlbihhaikknnaaW.PrintWords Go.Proofs.YtmlbihhaikknnaaW.PrintLast Go.Proofs.YtmlbihhaikknnaaW.PrintMore
attribute [local go_sem high] eqA43
set_option linter.unusedVariables false
set_option linter.unusedSimpArgs false
def eqB (x y : S43) : Bool := x.f0 == y.f0 && (x.f1 == y.f1)
def rowG (l : List S53) (js : List Nat) : List S53 := js.map fun j => l.getD j z53
theorem rowG_len (l : List S53) (js : List Nat) : (rowG l js).length = js.length := by rw [rowG, List.length_map]
theorem rowG_filter (l : List S53) (q : S53 → Bool) : rowG l ((List.range l.length).filter fun j => q (l.getD j z53)) = l.filter q := by
  have h : (List.range l.length).map (fun j => l.getD j z53) = l := by
    refine List.ext_getElem (by simp) (fun i h1 h2 => ?_)
    simp [List.getD_eq_getElem?_getD, h2]
  unfold rowG
  conv => rhs; rw [← h]
  rw [List.filter_map]
  rfl
def byRow (k : Nat) (l : List S53) (a1 a2 : Int) (i : Nat) (v : S43) : Option S53 :=
  (impl_column.f k (l.filter fun r => eqB (rd_T43 r.f1 a1) v) a2).bind fun cs => (impl_sumOf.f k cs).bind fun s => (impl_isSmall.f s.2.2.1).bind fun b => some ⟨(i : Int), [v, ⟨false, ((l.filter fun r => eqB (rd_T43 r.f1 a1) v).length : Int)⟩, if b = true then ⟨false, s.2.2.1⟩ else ⟨true, 0⟩]⟩
def byAll (k : Nat) (l : List S53) (a1 a2 : Int) : List S43 → List S53 → Option (List S53)
  | [], out => some out
  | v :: vs, out => (byRow k l a1 a2 out.length v).bind fun r => byAll k l a1 a2 vs (out ++ [r])
def rowIn (a1 : Int) (r : S53) : Bool := decide (0 ≤ a1) && decide (a1 < (r.f1.length : Int))
def impl_ByGroup.f (k : Nat) (l0 : List S53) (a1 a2 : Int) : Option (List S53 × Bool) :=
  (impl_GoodTable.f k l0).bind fun g => if g = true then (impl_within.f a1 0 2).bind fun b1 => if b1 = true then (impl_within.f a2 0 2).bind fun b2 => if b2 = true then
    (if (l0.length + 1) * 32 ≤ 140737488355328 ∧ l0.all (rowIn a1) = true then (impl_column.f k l0 a1).bind fun cs => (impl_distinct.f cs).bind fun ds => if (ds.length + 1) * 32 ≤ 140737488355328 then (byAll k l0 a1 a2 ds []).bind fun r => some (r, true) else none else none)
    else some ([], false) else some ([], false) else some ([], false)
set_option maxHeartbeats 4000000 in
set_option maxRecDepth 100000 in
theorem by1 (r : S53) (A3 : Option Addr) (c3 B0 B1 : Nat) (g0 : Int) (v : S43) (w : World) (hg : w.cell? ⟨B0, 0, none⟩ = some (.int .i64 g0)) (hv0 : w.cell? ⟨B1, 0, none⟩ = some (.bool v.f0)) (hv1 : w.cell? ⟨B1, 1, none⟩ = some (.int .i64 v.f1))
    (hr : Kd.C k43 w A3 r.f1.length r.f1) (hc : r.f1.length ≤ c3) (h0 : 0 ≤ g0) (h1 : g0 < (r.f1.length : Int)) :
    Calls Try.prog 37 (#[.agg #[.int .i64 r.f0, .slice A3 r.f1.length c3]] ++ #[.pointer (some ⟨B0, 0, none⟩), .pointer (some ⟨B1, 0, none⟩)]) w fun e w' => e = .returned (.bool (!(eqB (rd_T43 r.f1 g0) v))) ∧ Below w.heap.size w w' := by
  obtain ⟨ad, e1, x0, x1⟩ := at_T43 hr g0 h0 h1
  subst e1
  have hn : r.f1.length ≤ 9223372036854775807 := hr.2.1
  unfold eqB
  generalize rd_T43 r.f1 g0 = y at x0 x1 ⊢
  show Calls _ _ #[.agg #[.int .i64 r.f0, .slice (some ad) r.f1.length c3], .pointer (some ⟨B0, 0, none⟩), .pointer (some ⟨B1, 0, none⟩)] w _
  clear hr
  go_enter Try.func37, Try.ntmps37
  go_wp2
  have z1 : (w.alloc (.cells #[.int .i64 r.f0, .slice (some ad) r.f1.length c3] 53)).cell? ⟨w.heap.size, 1, none⟩ = some (.slice (some ad) r.f1.length c3) := Bx.box_new _ _ _ _ _ rfl
  have hal := below_alloc (Below.refl w.heap.size w) (.cells #[.int .i64 r.f0, .slice (some ad) r.f1.length c3] 53)
  replace hg := Bx.box_later hg hal
  replace hv0 := Bx.box_later hv0 hal
  replace hv1 := Bx.box_later hv1 hal
  replace x0 := Bx.box_later x0 hal
  replace x1 := Bx.box_later x1 hal
  have HB := Aside0.mk hal
  generalize hg_ : w.alloc (.cells #[.int .i64 r.f0, .slice (some ad) r.f1.length c3] 53) = wa at z1 hg hv0 hv1 x0 x1 HB ⊢
  clear hg_ hal
  refine Bx.start_any (n := 8) (S := fun w_ => w_.cell? ⟨w.heap.size, 1, none⟩ = some (.slice (some ad) r.f1.length c3) ∧ w_.cell? ⟨B0, 0, none⟩ = some (.int .i64 g0) ∧ w_.cell? ⟨B1, 0, none⟩ = some (.bool v.f0) ∧ w_.cell? ⟨B1, 1, none⟩ = some (.int .i64 v.f1) ∧ w_.cell? (ad.add (g0.toNat * 2)) = some (.bool y.f0) ∧ w_.cell? ⟨(ad.add (g0.toNat * 2)).block, (ad.add (g0.toNat * 2)).off + 1, none⟩ = some (.int .i64 y.f1)) (ds := []) #[false, false, false, false, false, false, false, false] (by kernel_rfl) rfl rfl ⟨z1, hg, hv0, hv1, x0, x1⟩ (fun w2 hb hHeld => ?_)
  replace HB := Aside0.mk (below_step HB.out hb)
  clear hb
  refine pure_ (i := 0) (N := some 5) (v := ?_) (a' := ?_) #[true, false, false, false, false, false, false, false] rfl rfl (by kernel_rfl) (fun _ _ _ h => h) (Or.inl ⟨by rfl, ?_⟩) ?_ ?_
  rotate_left
  · intro w'
    go_simp
    with_reducible rfl
  rotate_left
  · simp only [Act.put, List.setIfInBounds_toArray, List.set_cons_zero, List.set_cons_succ, i64_w, i32_w]
    rfl
  refine take_ (i := 1) (N := some 6) (v := ?_) (a' := ?_) #[true, true, false, false, false, false, false, false] rfl rfl (by kernel_rfl) (fun _ _ _ h => h) (Or.inl ⟨by rfl, ?_⟩) hHeld ?_ ?_
  rotate_left
  · rintro w' ⟨s0_, s1_, s2_, s3_, s4_, s5_⟩
    go_simp
    with_reducible rfl
  rotate_left
  · simp only [Act.put, List.setIfInBounds_toArray, List.set_cons_zero, List.set_cons_succ, i64_w, i32_w]
    rfl
  refine take_ (i := 2) (N := some 7) (v := ?_) (a' := ?_) #[true, true, true, false, false, false, false, false] rfl rfl (by kernel_rfl) (fun _ _ _ h => h) (Or.inl ⟨by rfl, ?_⟩) hHeld ?_ ?_
  rotate_left
  · rintro w' ⟨s0_, s1_, s2_, s3_, s4_, s5_⟩
    go_simp
    with_reducible rfl
  rotate_left
  · simp only [Act.put, List.setIfInBounds_toArray, List.set_cons_zero, List.set_cons_succ, i64_w, i32_w]
    rfl
  refine pure_ (i := 3) (N := some 8) (v := ?_) (a' := ?_) #[true, true, true, true, false, false, false, false] rfl rfl (by kernel_rfl) (fun _ _ _ h => h) (Or.inl ⟨by rfl, ?_⟩) ?_ ?_
  rotate_left
  · intro w'
    go_simp
    with_reducible rfl
  rotate_left
  · simp only [Act.put, List.setIfInBounds_toArray, List.set_cons_zero, List.set_cons_succ, i64_w, i32_w]
    rfl
  refine take_ (i := 4) (N := some 9) (v := ?_) (a' := ?_) #[true, true, true, true, true, false, false, false] rfl rfl (by kernel_rfl) (fun _ _ _ h => h) (Or.inl ⟨by rfl, ?_⟩) hHeld ?_ ?_
  rotate_left
  · rintro w' ⟨s0_, s1_, s2_, s3_, s4_, s5_⟩
    go_simp
    with_reducible rfl
  rotate_left
  · simp only [Act.put, List.setIfInBounds_toArray, List.set_cons_zero, List.set_cons_succ, i64_w, i32_w]
    rfl
  refine take_ (i := 5) (N := some 10) (v := ?_) (a' := ?_) #[true, true, true, true, true, true, false, false] rfl rfl (by kernel_rfl) (fun _ _ _ h => h) (Or.inl ⟨by rfl, ?_⟩) hHeld ?_ ?_
  rotate_left
  · rintro w' ⟨s0_, s1_, s2_, s3_, s4_, s5_⟩
    go_simp
    with_reducible rfl
  rotate_left
  · simp only [Act.put, List.setIfInBounds_toArray, List.set_cons_zero, List.set_cons_succ, i64_w, i32_w]
    rfl
  refine pure_ (i := 6) (N := some 11) (v := ?_) (a' := ?_) #[true, true, true, true, true, true, true, false] rfl rfl (by kernel_rfl) (fun _ _ _ h => h) (Or.inl ⟨by rfl, ?_⟩) ?_ ?_
  rotate_left
  · intro w'
    go_simp
    with_reducible rfl
  rotate_left
  · simp only [Act.put, List.setIfInBounds_toArray, List.set_cons_zero, List.set_cons_succ, i64_w, i32_w]
    rfl
  refine pure_ (i := 7) (N := some 4) (v := ?_) (a' := ?_) #[true, true, true, true, true, true, true, true] rfl rfl (by kernel_rfl) (fun _ _ _ h => h) (Or.inl ⟨by rfl, ?_⟩) ?_ ?_
  rotate_left
  · intro w'
    go_simp
    with_reducible rfl
  rotate_left
  · simp only [Act.put, List.setIfInBounds_toArray, List.set_cons_zero, List.set_cons_succ, i64_w, i32_w]
    rfl
  refine done_ (by kernel_rfl) ?_
  go_wp2
  go_ret
  refine ⟨?_, HB.out⟩
  show Ending.returned (.bool (!(y.f0 == v.f0) || !(y.f1 == v.f1))) = _
  rw [Bool.not_and]
set_option maxHeartbeats 8000000 in
set_option maxRecDepth 100000 in
theorem impl_ByGroup.calls (k : Nat) (A0 : Option Addr) (c0 : Nat) (l0 : List S53) (a1 : Int) (a2 : Int) (r1 : List S53) (r2 : Bool) (w : World) (hr0 : Kd.C k53 w A0 l0.length l0) (hc0 : l0.length ≤ c0) (h : impl_ByGroup.f k l0 a1 a2 = some (r1, r2)) :
    Calls Try.prog 15 #[.slice A0 l0.length c0, .int .i64 a1, .int .i64 a2] w fun e w' => ∃ v0_ : Value, e = .returned (.tuple #[v0_, .bool r2]) ∧ Kd.S k53 53 w' w.heap.size (fun _ => True) v0_ r1 ∧ Below w.heap.size w w' := by
  have hu55 := Try.underlying55
  have hu53 := Try.underlying53
  have hu43 := Try.underlying43
  unfold impl_ByGroup.f at h
  obtain ⟨g, hg, h2⟩ := Option.bind_eq_some_iff.mp h
  clear h
  have xg : (w.alloc (.cells #[.int .i64 a1] 3)).cell? ⟨w.heap.size, 0, none⟩ = some (.int .i64 a1) := Bx.box_new _ _ _ _ _ rfl
  have HB := Aside0.mk (below_alloc (Below.refl w.heap.size w) (.cells #[.int .i64 a1] 3))
  have HR1 := Aside0.mk (Kd.C_alloc hr0 (.cells #[.int .i64 a1] 3))
  have HR0 := Aside0.mk hr0
  have HG := Aside0.mk hg
  have HC0 := Aside0.mk hc0
  clear hr0 hc0 hg
  cases g with
  | false =>
    simp only [Bool.false_eq_true, if_false] at h2
    obtain ⟨rfl, rfl⟩ : [] = r1 ∧ false = r2 := by simpa using h2
    clear h2
    go_enter Try.func15, Try.ntmps15
    go_wp2_with (first | (go_at_call 32; refine (impl_GoodTable.calls k A0 c0 l0 false _ HR1.out HC0.out HG.out).mono ?_; rintro e w3 ⟨rfl, hb⟩; replace HB := Aside0.mk (below_step HB.out hb); replace xg := Bx.box_later xg hb; clear hb HG HR1))
    go_ret2
    exact ⟨.slice none 0 0, rfl, Kd.S_nil _ _ _ _ _, HB.out⟩
  | true =>
  simp only [if_true] at h2
  obtain ⟨b1, hb1, h3⟩ := Option.bind_eq_some_iff.mp h2
  clear h2
  have HW1 := Aside0.mk hb1
  clear hb1
  cases b1 with
  | false =>
    simp only [Bool.false_eq_true, if_false] at h3
    obtain ⟨rfl, rfl⟩ : [] = r1 ∧ false = r2 := by simpa using h3
    clear h3
    go_enter Try.func15, Try.ntmps15
    go_wp2_with (first | (go_at_call 32; refine (impl_GoodTable.calls k A0 c0 l0 true _ HR1.out HC0.out HG.out).mono ?_; rintro e w3 ⟨rfl, hb⟩; replace HB := Aside0.mk (below_step HB.out hb); replace xg := Bx.box_later xg hb; clear hb HG HR1) | (go_at_call 33; with_reducible refine (impl_within.calls a1 0 2 false _ HW1.out).mono ?_; rintro e wz ⟨rfl, hd_⟩; obtain ⟨nd_, hd_⟩ := hd_; have hb := show Below (World.heap w3).size w3 wz from hd_ ▸ pw_below_drewN (Below.refl _ _) nd_; clear hd_; replace HB := Aside0.mk (below_step HB.out hb); replace xg := Bx.box_later xg hb; clear hb HW1))
    go_ret2
    exact ⟨.slice none 0 0, rfl, Kd.S_nil _ _ _ _ _, HB.out⟩
  | true =>
  simp only [if_true] at h3
  obtain ⟨b2, hb2, h4⟩ := Option.bind_eq_some_iff.mp h3
  clear h3
  have HW2 := Aside0.mk hb2
  clear hb2
  cases b2 with
  | false =>
    simp only [Bool.false_eq_true, if_false] at h4
    obtain ⟨rfl, rfl⟩ : [] = r1 ∧ false = r2 := by simpa using h4
    clear h4
    go_enter Try.func15, Try.ntmps15
    go_wp2_with (first | (go_at_call 32; refine (impl_GoodTable.calls k A0 c0 l0 true _ HR1.out HC0.out HG.out).mono ?_; rintro e w3 ⟨rfl, hb⟩; replace HB := Aside0.mk (below_step HB.out hb); replace xg := Bx.box_later xg hb; clear hb HG HR1) | (go_at_call 33; with_reducible refine (impl_within.calls a1 0 2 true _ HW1.out).mono ?_; rintro e wz ⟨rfl, hd_⟩; obtain ⟨nd_, hd_⟩ := hd_; have hb := show Below (World.heap w3).size w3 wz from hd_ ▸ pw_below_drewN (Below.refl _ _) nd_; clear hd_; replace HB := Aside0.mk (below_step HB.out hb); replace xg := Bx.box_later xg hb; clear hb HW1) | (go_at_call 33; with_reducible refine (impl_within.calls a2 0 2 false _ HW2.out).mono ?_; rintro e wE ⟨rfl, hd_⟩; obtain ⟨nd_, hd_⟩ := hd_; have hb := show Below (World.heap wz).size wz wE from hd_ ▸ pw_below_drewN (Below.refl _ _) nd_; clear hd_; replace HB := Aside0.mk (below_step HB.out hb); replace xg := Bx.box_later xg hb; clear hb HW2))
    go_ret2
    exact ⟨.slice none 0 0, rfl, Kd.S_nil _ _ _ _ _, HB.out⟩
  | true =>
  simp only [if_true] at h4
  by_cases hk : (l0.length + 1) * 32 ≤ 140737488355328 ∧ l0.all (rowIn a1) = true
  rotate_left
  · rw [if_neg hk] at h4
    cases h4
  rw [if_pos hk] at h4
  obtain ⟨cs0, hcs0, h5⟩ := Option.bind_eq_some_iff.mp h4
  obtain ⟨ds, hds, h6⟩ := Option.bind_eq_some_iff.mp h5
  clear h4 h5
  by_cases hk2 : (ds.length + 1) * 32 ≤ 140737488355328
  rotate_left
  · rw [if_neg hk2] at h6
    cases h6
  rw [if_pos hk2] at h6
  obtain ⟨r, hr, h7⟩ := Option.bind_eq_some_iff.mp h6
  obtain ⟨rfl, rfl⟩ : r = r1 ∧ true = r2 := by simpa using h7
  clear h6 h7
  obtain ⟨cf, hcf, hcC⟩ := kI_of HR0.out
  have hform : ∀ j, j < l0.length → ∃ (A3 : Option Addr) (c3 : Nat), cf j = [.int .i64 (l0.getD j z53).f0, .slice A3 (l0.getD j z53).f1.length c3] ∧ (l0.getD j z53).f1.length ≤ c3 ∧ Kd.C k43 w A3 (l0.getD j z53).f1.length (l0.getD j z53).f1 := fun j hj => by
    obtain ⟨A3, c3, e, h1, h2⟩ := k53_open (hcf j hj)
    exact ⟨A3, c3, e, h1, h2⟩
  have HFO := Aside0.mk hform
  have HK := Aside0.mk hk
  have HK2 := Aside0.mk hk2
  have HCS := Aside0.mk hcs0
  have HDS := Aside0.mk hds
  have HF := Aside0.mk hr
  have HCF := Aside0.mk hcf
  have HCC := Aside0.mk hcC
  have HRL := Aside0.mk (List.length_range : (List.range l0.length).length = l0.length)
  have HRG := Aside0.mk (fun q => rowG_filter l0 q)
  have HRM := Aside0.mk (fun j (hj : j ∈ List.range l0.length) => List.mem_range.1 hj)
  generalize List.range l0.length = js0 at HCC HRL HRG HRM
  have HCA := Aside0.mk (show ∀ W, Kd.C (kI cf) W A0 js0.length js0 → Calls Try.prog 36 #[.slice A0 l0.length c0] W fun e w' => ∃ v0_ : Value, e = .returned (v0_) ∧ (kI cf).R 53 w' W.heap.size (fun _ => True) v0_ js0 ∧ Below W.heap.size W w' from fun W hW => by
    have := cloneI cf A0 c0 js0 W hW (by rw [HRL.out]; exact HC0.out) (by rw [HRL.out]; have := HK.out.1; omega)
    rwa [HRL.out] at this)
  clear hk hk2 hcs0 hds hr hcf hcC hform
  go_enter Try.func15, Try.ntmps15
  go_wp2_with (first | (go_at_call 32; refine (impl_GoodTable.calls k A0 c0 l0 true _ HR1.out HC0.out HG.out).mono ?_; rintro e w3 ⟨rfl, hb⟩; replace HB := Aside0.mk (below_step HB.out hb); replace xg := Bx.box_later xg hb; clear hb HG HR1) | (go_at_call 33; with_reducible refine (impl_within.calls a1 0 2 true _ HW1.out).mono ?_; rintro e wz ⟨rfl, hd_⟩; obtain ⟨nd_, hd_⟩ := hd_; have hb := show Below (World.heap w3).size w3 wz from hd_ ▸ pw_below_drewN (Below.refl _ _) nd_; clear hd_; replace HB := Aside0.mk (below_step HB.out hb); replace xg := Bx.box_later xg hb; clear hb HW1) | (go_at_call 33; with_reducible refine (impl_within.calls a2 0 2 true _ HW2.out).mono ?_; rintro e wE ⟨rfl, hd_⟩; obtain ⟨nd_, hd_⟩ := hd_; have hb := show Below (World.heap wz).size wz wE from hd_ ▸ pw_below_drewN (Below.refl _ _) nd_; clear hd_; replace HB := Aside0.mk (below_step HB.out hb); replace xg := Bx.box_later xg hb; clear hb HW2) | ((with_reducible refine gate_dst (N := 26) rfl ?_); refine Kd.S_lit k53 _ 53 ?hg (N := 26) ?hd (xs := ([] : List S53)) (inner := []) (ok := fun _ => True) (okp := fun _ => True) ?hr ?hp (fun _ hk => hk) trivial (Below.refl _ _) (Nat.le_refl _) (by simp) ?_; (case hd => rfl); (case hg => rfl); (case hr => first | (go_simp; done) | (go_simp; rfl)); (case hp => exact (Reps.none _ _)); intro v8 w5 ho hb hg_ hnew_; clear hg_ hnew_; have HXG := Aside0.mk (Bx.box_lt xg); have HB3 := Aside0.mk (Kd.S_base ho); have HOB := Aside0.mk (Kd.S_lt ho); have HO := Aside0.mk (Kd.S_lower (Kd.S_mono (ok' := fun k => k < w5.heap.size) (Kd.S_bound ho) (fun k hk => hk.2.2.1)) HB.out.size); replace HB := Aside0.mk (below_step HB.out hb); replace xg := Bx.box_later xg hb; clear ho hb) | (go_at_call 34; refine (impl_column.calls k A0 c0 l0 a1 cs0 _ (Kd.C_below HR0.out HB.out) HC0.out HCS.out).mono ?_; rintro e w6 ⟨v6, rfl, ho, hb⟩; obtain ⟨A6, c6, rfl⟩ := Kd.R_slice ho; have HO6 := Aside0.mk ho; have H56 := Aside0.mk hb.size; replace HO := Aside0.mk (Kd.S_below HO.out hb); replace HB := Aside0.mk (below_step HB.out hb); replace xg := Bx.box_later xg hb; clear ho hb) | (go_at_call 23; refine (impl_distinct.calls A6 c6 cs0 ds _ (Kd.R_reads' HO6.out).2.2 (Kd.R_reads' HO6.out).2.1 HDS.out).mono ?_; rintro e wL ⟨vL, rfl, ho, hb⟩; obtain ⟨AL, cL, rfl⟩ := Kd.R_slice ho; have HD := Aside0.mk (Kd.R_mono (ok' := fun k => w5.heap.size ≤ k ∧ k < wL.heap.size) (Kd.R_bound ho) (fun k hk => ⟨Nat.le_trans H56.out hk.2.1, hk.2.2.1⟩)); have H5L := Aside0.mk (Nat.le_trans H56.out hb.size); replace HO := Aside0.mk (Kd.S_below HO.out hb); replace HB := Aside0.mk (below_step HB.out hb); replace xg := Bx.box_later xg hb; clear ho hb HO6))
  have HN := Aside0.mk (Kd.R_reads' HD.out).2.2.2.1
  have xgL := Aside0.mk xg
  have HBL := Aside0.mk HB.out.size
  clear xg HCS HDS
  go_loopg [8, 32] (ds.length + 1) (fun gg v8 v32 wr => ∃ (j : Nat) (vs : List S43) (out : List S53), v32 = .int .i64 j ∧ Aside0 (ds.drop j = vs) ∧ Aside0 (out.length = j) ∧ Aside0 (ds.length + 1 - j ≤ gg) ∧ Aside0 (byAll k l0 a1 a2 vs out = some r) ∧ Aside0 (Kd.S k53 53 wr w.heap.size (fun k_ => k_ < w5.heap.size ∨ wL.heap.size ≤ k_) v8 out) ∧ Aside0 (Kept wL wr (fun k_ => wE.heap.size ≤ k_ ∧ k_ < w5.heap.size)) ∧ Aside0 (Below w.heap.size w wr) ∧ Aside0 (∀ k_, v8.ownBlock = some k_ → (wE.heap.size ≤ k_ ∧ k_ < w5.heap.size) ∨ wL.heap.size ≤ k_))
  case atStart => exact ⟨0, ds, [], rfl, ⟨rfl⟩, ⟨rfl⟩, ⟨by omega⟩, HF, ⟨Kd.S_mono HO.out (fun k_ hk_ => Or.inl hk_)⟩, ⟨Kept.refl _ _⟩, HB, ⟨fun k_ hk_ => Or.inl ⟨HB3.out k_ hk_, HOB.out k_ hk_⟩⟩⟩
  case round =>
    clear HO HOB HB3 HF
    obtain ⟨j, vs, out, rfl, HV, HOL, HG2, HF, HO, HK9, HB', HOB⟩ := hrel
    clear HB
    have HB := HB'
    clear HB'
    have xg := cell_kept xgL.out HK9.out (fun hs => by have := HXG.out; have := hs.1; simp only at *; omega)
    have HDr := Aside0.mk (Kd.R_kept HD.out HK9.out (fun k_ hk_ hs_ => by have := hk_.1; have := hs_.2; omega))
    cases vs with
    | nil =>
      have hge := Pl.drop_nil HV.out
      have h1 : ¬ (j : Int) < (ds.length : Int) := by omega
      have hf := HF.out
      have hE : out = r := by simpa [byAll] using hf
      subst hE
      clear hf hge
      go_wp2
      go_ret2
      exact ⟨_, rfl, Kd.S_mono HO.out (fun _ _ => trivial), HB.out⟩
    | cons v vs =>
      obtain ⟨hlt, hat, hdr⟩ := Pl.drop_cons HV.out
      have h1 : (j : Int) < (ds.length : Int) := by omega
      obtain ⟨ad, e1, x0, x1⟩ := at_T43 (Kd.R_reads' HDr.out).2.2 (j : Int) (by omega) (by omega)
      subst e1
      have hrd : rd_T43 ds (j : Int) = v := by simp [rd_T43, List.getD_eq_getElem?_getD, hat]
      rw [hrd] at x0 x1
      simp only [Int.toNat_natCast] at x0 x1
      have hf := HF.out
      rw [byAll, HOL.out] at hf
      obtain ⟨row, hrow, hf2⟩ := Option.bind_eq_some_iff.mp hf
      unfold byRow at hrow
      obtain ⟨cs, hcs, hrow2⟩ := Option.bind_eq_some_iff.mp hrow
      obtain ⟨s, hs, hrow3⟩ := Option.bind_eq_some_iff.mp hrow2
      obtain ⟨b, hb, hrow4⟩ := Option.bind_eq_some_iff.mp hrow3
      obtain ⟨s1, s2, s3, s4, s5, s6, s7⟩ := s
      have hrw := Option.some.inj hrow4
      have HCS := Aside0.mk hcs
      have HSS := Aside0.mk hs
      have HSM := Aside0.mk hb
      have HRW := Aside0.mk hrw
      have HF := Aside0.mk hf2
      have HLT := Aside0.mk hlt
      have HDR := Aside0.mk hdr
      have HWJ := Aside0.mk (Pl.wrap_succ (show j < 9223372036854775807 by have := HN.out; omega))
      clear hf hrow hrow2 hrow3 hrow4 hcs hs hb hrw hf2 hlt hat hdr hrd HV
      have hLr : wL.heap.size ≤ wr.heap.size := HK9.out.1
      have HLR := Aside0.mk hLr
      clear hLr
      go_wp2_with (first | (go_at_call 36; fail))
      have y0 : (wr.alloc (.cells #[.bool v.f0, .int .i64 v.f1] 43)).cell? ⟨wr.heap.size, 0, none⟩ = some (.bool v.f0) := Bx.box_new _ _ _ _ _ rfl
      have y1 : (wr.alloc (.cells #[.bool v.f0, .int .i64 v.f1] 43)).cell? ⟨wr.heap.size, 1, none⟩ = some (.int .i64 v.f1) := Bx.box_new _ _ _ _ _ rfl
      have hal := below_alloc (Below.refl wr.heap.size wr) (.cells #[.bool v.f0, .int .i64 v.f1] 43)
      have hsz : wr.heap.size < (wr.alloc (.cells #[.bool v.f0, .int .i64 v.f1] 43)).heap.size := by rw [boxed_size]; exact Nat.lt_succ_self _
      replace xg := Bx.box_later xg hal
      replace HB := Aside0.mk (below_step HB.out hal)
      replace HK9 := Aside0.mk (HK9.out.below hal)
      replace HO := Aside0.mk (Kd.S_old HO.out hal)
      generalize hg_ : wr.alloc (.cells #[.bool v.f0, .int .i64 v.f1] 43) = wa at y0 y1 xg HB HK9 HO hsz ⊢
      have HSZ := Aside0.mk hsz
      clear hg_ hal x0 x1 hsz
      refine (HCA.out wa (Kd.C_below HCC.out HB.out)).mono ?_
      rintro e w2 ⟨v2, rfl, ho, hb⟩
      have HO2 := Aside0.mk (Kd.R_mono (ok' := fun k_ => wa.heap.size ≤ k_) (Kd.R_bound ho) (fun k_ hk_ => hk_.2.1))
      have HB2 := Aside0.mk hb
      have HY := Aside0.mk (And.intro xg (And.intro y0 y1))
      have HDF := Aside0.mk (DelI 37 #[.pointer (some ⟨w.heap.size, 0, none⟩), .pointer (some ⟨wr.heap.size, 0, none⟩)] (enters_of Try.func37 rfl rfl) cf (fun x => !(eqB (rd_T43 (l0.getD x z53).f1 a1) v)) (fun k_ => wa.heap.size ≤ k_) v2 js0 wa w2 HB2.out HO2.out (fun x hx => by
        obtain ⟨A3, c3, e, _, _⟩ := HFO.out x (HRM.out x hx)
        exact ⟨_, A3, _, c3, by unfold ca; rw [e]; rfl, by unfold cb; rw [e]; rfl⟩) (fun W x hx hkp => by
        obtain ⟨A3, c3, e, hl, hC⟩ := HFO.out x (HRM.out x hx)
        have hin : rowIn a1 (l0.getD x z53) = true := by
          have hl3 := HRM.out x hx
          rw [List.getD_eq_getElem?_getD, List.getElem?_eq_getElem hl3]
          exact List.all_eq_true.1 HK.out.2 _ (List.getElem_mem hl3)
        simp only [rowIn, Bool.and_eq_true, decide_eq_true_eq] at hin
        have hkw : Kept wa W (fun k_ => wa.heap.size ≤ k_) := ((Kept.of_below HB2.out _).then_ hkp (fun k_ hk_ => .inl hk_))
        have c1 := cell_kept HY.out.1 hkw (fun hs => by have := Bx.box_lt HY.out.1; simp only at *; omega)
        have c2 := cell_kept HY.out.2.1 hkw (fun hs => by have := Bx.box_lt HY.out.2.1; simp only at *; omega)
        have c3_ := cell_kept HY.out.2.2 hkw (fun hs => by have := Bx.box_lt HY.out.2.2; simp only at *; omega)
        have hCw := (Kd.heap_iso _ (Kd.heap_pair Kd.heap_bool (Kd.heap_int _)) : Kd.Heap k43).C (fun k_ hlt => (hkw.2 k_ (Nat.lt_of_lt_of_le hlt HB.out.size) (by have := HB.out.size; omega)).trans (HB.out.block k_ hlt)) hC
        have := by1 (l0.getD x z53) A3 c3 w.heap.size wr.heap.size a1 v W c1 c2 c3_ hCw hl hin.1 hin.2
        unfold ca cb
        rw [e]
        exact this))
      clear ho hb HO2
      go_wp2_with (first | (go_at_call 35; fail))
      refine HDF.out.mono ?_
      rintro e w3 ⟨v3, rfl, ho, hb⟩
      obtain ⟨js1, hjs1⟩ : ∃ js1, js1 = js0.filter (fun x => !(!(eqB (rd_T43 (l0.getD x z53).f1 a1) v))) := ⟨_, rfl⟩
      rw [← hjs1] at ho
      have hflt : rowG l0 js1 = l0.filter fun r => eqB (rd_T43 r.f1 a1) v := by
        rw [hjs1, ← HRG.out]
        simp only [Bool.not_not]
      have hmem : ∀ x ∈ js1, x < l0.length := fun x hx => HRM.out x (List.mem_filter.1 (hjs1 ▸ hx)).1
      obtain ⟨A3, c3, rfl⟩ := Kd.R_slice ho
      replace y0 := Bx.box_later y0 hb
      replace y1 := Bx.box_later y1 hb
      replace HK9 := Aside0.mk (HK9.out.below hb)
      replace HO := Aside0.mk (Kd.S_below HO.out hb)
      replace HB := Aside0.mk (below_step HB.out hb)
      have HC3 := Aside0.mk (show Kd.C k53 w3 A3 (rowG l0 js1).length (rowG l0 js1) from by
        rw [rowG_len]
        exact C_of_kI (Kd.R_reads' ho).2.2 (fun x hx => k53.K_below HB.out (HCF.out x (hmem x hx))))
      have HL3 := Aside0.mk (show js1.length = (rowG l0 js1).length from (rowG_len _ _).symm)
      have HLE := Aside0.mk (show (rowG l0 js1).length ≤ c3 from by rw [rowG_len]; exact (Kd.R_reads' ho).2.1)
      have HFL := Aside0.mk hflt
      have HS3 := Aside0.mk (Nat.le_trans (Nat.le_of_lt HSZ.out) hb.size)
      clear ho hb hjs1 hmem hflt HDF HB2 HY xg
      go_wp2_with (first | (go_at_call 34; fail))
      refine Bx.calls_at (by rw [HL3.out]) ((impl_column.calls k A3 c3 (rowG l0 js1) a2 cs _ HC3.out HLE.out (by rw [HFL.out]; exact HCS.out)).mono ?_)
      rintro e w4 ⟨v4, rfl, ho, hb⟩
      obtain ⟨A4, c4, rfl⟩ := Kd.R_slice ho
      replace y0 := Bx.box_later y0 hb
      replace y1 := Bx.box_later y1 hb
      replace HK9 := Aside0.mk (HK9.out.below hb)
      replace HO := Aside0.mk (Kd.S_below HO.out hb)
      replace HB := Aside0.mk (below_step HB.out hb)
      replace HS3 := Aside0.mk (Nat.le_trans HS3.out hb.size)
      have HO4 := Aside0.mk ho
      clear ho hb HC3
      go_wp2_with (first | (go_at_call 38; fail))
      refine (impl_sumOf.calls k A4 c4 cs s1 s2 s3 s4 s5 s6 s7 _ (Kd.R_reads' HO4.out).2.2 (Kd.R_reads' HO4.out).2.1 HSS.out).mono ?_
      rintro e w7 ⟨rfl, hb⟩
      replace y0 := Bx.box_later y0 hb
      replace y1 := Bx.box_later y1 hb
      replace HK9 := Aside0.mk (HK9.out.below hb)
      replace HO := Aside0.mk (Kd.S_below HO.out hb)
      replace HB := Aside0.mk (below_step HB.out hb)
      replace HS3 := Aside0.mk (Nat.le_trans HS3.out hb.size)
      clear hb HO4
      have hfd : ∀ W : World, (Instr.field 55 (.agg #[.int .i64 s1, .int .i64 s2, .int .i64 s3, .bool s4, .int .i64 s5, .bool s6, .int .i64 s7]) 2).run Try.prog W = .ok (.int .i64 s3) W := fun _ => by kernel_rfl
      go_wp2_with (first | (go_at_call 39; fail))
      have hal := below_alloc (Below.refl w7.heap.size w7) (.cells #[.bool false, .int .i64 s3] 43)
      have BT : (w7.alloc (.cells #[.bool false, .int .i64 s3] 43)).heap[w7.heap.size]? = some (.cells #[.bool false, .int .i64 s3] 43 (0, 0)) := blk_new _ _
      have hn1 : wr.heap.size < w7.heap.size := Bx.box_lt y0
      replace y0 := Bx.box_later y0 hal
      replace y1 := Bx.box_later y1 hal
      replace HK9 := Aside0.mk (HK9.out.below hal)
      replace HO := Aside0.mk (Kd.S_below HO.out hal)
      replace HB := Aside0.mk (below_step HB.out hal)
      replace HS3 := Aside0.mk (Nat.le_trans HS3.out hal.size)
      generalize hg_ : w7.alloc (.cells #[.bool false, .int .i64 s3] 43) = wb at BT y0 y1 HB HK9 HO HS3 ⊢
      clear hg_ hal
      refine (impl_isSmall.calls s3 b _ HSM.out).mono ?_
      rintro e wc ⟨rfl, hd_⟩
      obtain ⟨nd_, hd_⟩ := hd_
      have hb := show Below wb.heap.size wb wc from hd_ ▸ pw_below_drewN (Below.refl _ _) nd_
      clear hd_
      replace y0 := Bx.box_later y0 hb
      replace y1 := Bx.box_later y1 hb
      replace HK9 := Aside0.mk (HK9.out.below hb)
      replace HO := Aside0.mk (Kd.S_below HO.out hb)
      replace HB := Aside0.mk (below_step HB.out hb)
      replace HS3 := Aside0.mk (Nat.le_trans HS3.out hb.size)
      have BT2 := blk_below BT hb
      have t0 : wc.cell? ⟨w7.heap.size, 0, none⟩ = some (.bool false) := (blk_cell BT2 0).trans rfl
      have t1 : wc.cell? ⟨w7.heap.size, 1, none⟩ = some (.int .i64 s3) := (blk_cell BT2 1).trans rfl
      have f0 := blk_frozen BT2 0
      have f1 := blk_frozen BT2 1
      have hne1 : ¬ wr.heap.size = w7.heap.size := by omega
      have hne2 : ¬ w7.heap.size = wr.heap.size := by omega
      have HWT := Aside0.mk (Nat.le_of_lt hn1)
      clear hb BT BT2 hn1
      cases b with
      | true =>
        have HBs := HB
        have HOs := HO
        have HKs := HK9
        have HSs := HS3
        obtain ⟨n3, hn3⟩ : ∃ n3 : Nat, n3 = js1.length := ⟨_, rfl⟩
        go_wp2_with (first | ((with_reducible refine gate_dst (N := 59) rfl ?_); refine Kd.R_lit k43 _ 43 ?hg (N := 59) ?hd (xs := ([v, ⟨false, (js1.length : Int)⟩, ⟨false, s3⟩] : List S43)) (inner := [.bool v.f0, .int .i64 v.f1, .bool false, .int .i64 (js1.length : Int), .bool false, .int .i64 s3]) (ok := fun _ => True) (okp := fun _ => True) ?hr ?hp (fun _ hk => hk) trivial (Below.refl _ _) (Nat.le_refl _) (by simp) ?_; (case hd => rfl); (case hg => rfl); (case hr => first | (go_simp; done) | (go_simp; rfl)); (case hp => exact (Reps.c2 (show Kd.M k43 _ _ _ v [.bool v.f0, .int .i64 v.f1] from k43_mkM _ _ _ v) (Reps.c2 (show Kd.M k43 _ _ _ (⟨false, (js1.length : Int)⟩ : S43) [.bool false, .int .i64 (js1.length : Int)] from k43_mkM _ _ _ (⟨false, (js1.length : Int)⟩ : S43)) (Reps.c2 (show Kd.M k43 _ _ _ (⟨false, s3⟩ : S43) [.bool false, .int .i64 s3] from k43_mkM _ _ _ (⟨false, s3⟩ : S43)) (Reps.none _ _))))); intro v9 w8 ho hb hg_ hnew_; clear hg_ hnew_; obtain ⟨A9, c9, rfl⟩ := Kd.R_slice ho; have HV9 := Aside0.mk (Kd.R_lower (Kd.R_mono (ok' := fun k_ => wr.heap.size ≤ k_) (Kd.R_bound ho) (fun k_ hk_ => Nat.le_trans HSs.out hk_.2.1)) HBs.out.size); replace HOs := Aside0.mk (Kd.S_below HOs.out hb); replace HKs := Aside0.mk (HKs.out.below hb); replace HBs := Aside0.mk (below_step HBs.out hb); replace HSs := Aside0.mk (Nat.le_trans HSs.out hb.size); clear ho hb) | ((with_reducible refine gate_builtin (b := .append) (xs := #[.tmp 52, .tmp 61]) rfl ?_); at_builtin; refine Kd.S_append k53 (w0 := w) w.heap.size rfl (.tmp 52) (.tmp 61) 33 53 (.agg #[(.int .i64 0), (.slice none 0 0)]) 32 rfl Try.underlying33 info53 rfl (show 0 < 2 by decide) (by omega) u8 out (⟨(j : Int), [v, ⟨false, (js1.length : Int)⟩, ⟨false, s3⟩]⟩ : S53) [.int .i64 (j : Int), .slice A9 3 c9] (fun k_ => k_ < w5.heap.size ∨ wL.heap.size ≤ k_) (fun k_ => wr.heap.size ≤ k_) rfl rfl ?aP ?aK ?aF ?aO ?aB ?aS ?aL ?_; (case aP => exact k53_mkM _ _ _ (⟨(j : Int), [v, ⟨false, (js1.length : Int)⟩, ⟨false, s3⟩]⟩ : S53) HV9.out); (case aK => exact fun k_ hk_ => ⟨Or.inr (Nat.le_trans HLR.out hk_), fun he_ => by have := (Kd.S_R HOs.out).1 k_ he_.symm; have := this.2; omega⟩); (case aF => exact fun k_ hk_ => Or.inr (Nat.le_trans HLR.out (Nat.le_trans HSs.out hk_))); (case aO => exact Kd.S_mono HOs.out (fun k_ hk_ => ⟨hk_.1, fun h_ => by have := hk_.2; omega⟩)); (case aB => exact HBs.out); (case aS => exact HBs.out.size); (case aL => have := HOL.out; have := HK2.out; have := HLT.out; omega); intro v10 w9 ho hb hg hat; have HK10 := Aside0.mk (show Kept wL w9 (fun k_ => wE.heap.size ≤ k_ ∧ k_ < w5.heap.size) from ⟨Nat.le_trans HKs.out.1 hg.size, fun i_ hi_ hn_ => (hg.block i_ (Nat.lt_of_lt_of_le hi_ HKs.out.1) (fun he_ => (HOB.out i_ he_.symm).elim hn_ (fun h_ => by omega))).trans (HKs.out.2 i_ hi_ hn_)⟩); have HOB2 := Aside0.mk (show ∀ k_, v10.ownBlock = some k_ → (wE.heap.size ≤ k_ ∧ k_ < w5.heap.size) ∨ wL.heap.size ≤ k_ from fun k_ hk_ => hat.elim (fun h_ => HOB.out k_ (h_ ▸ hk_)) (fun ⟨b_, h1_, h2_⟩ => Or.inr (by rw [h1_] at hk_; injection hk_ with hk_; have := HKs.out.1; omega))); have HO2 := Aside0.mk ho; have HB2 := Aside0.mk hb; clear ho hb hg hat))
        go_roundg (ds.length - j)
        case measure => have := HG2.out; have := HLT.out; omega
        case rel => exact ⟨j + 1, vs, out ++ [row], by rw [HWJ.out], HDR, ⟨by rw [List.length_append, HOL.out]; rfl⟩, ⟨by omega⟩, HF, ⟨by rw [← HRW.out, ← HFL.out, rowG_len]; exact HO2.out⟩, HK10, HB2, HOB2⟩
      | false =>
        have HBs := HB
        have HOs := HO
        have HKs := HK9
        have HSs := HS3
        replace HBs := Aside0.mk (show Below w.heap.size w ((wc.setCell ⟨w7.heap.size, 0, none⟩ (.bool true)).setCell ⟨w7.heap.size, 1, none⟩ (.int .i64 0)) from below_set (below_set HBs.out (Nat.le_trans (Nat.le_trans HBL.out HLR.out) HWT.out)) (Nat.le_trans (Nat.le_trans HBL.out HLR.out) HWT.out))
        replace HOs := Aside0.mk (show Kd.S k53 53 ((wc.setCell ⟨w7.heap.size, 0, none⟩ (.bool true)).setCell ⟨w7.heap.size, 1, none⟩ (.int .i64 0)) w.heap.size (fun k_ => (k_ < w5.heap.size ∨ wL.heap.size ≤ k_) ∧ k_ < wr.heap.size) u8 out from Kd.S_far (p := ⟨w7.heap.size, 1, none⟩) (Kd.S_far (p := ⟨w7.heap.size, 0, none⟩) HOs.out (fun k_ hk_ he_ => by have := hk_.2; have := HWT.out; simp only at *; omega) _) (fun k_ hk_ he_ => by have := hk_.2; have := HWT.out; simp only at *; omega) _)
        replace HKs := Aside0.mk (show Kept wL ((wc.setCell ⟨w7.heap.size, 0, none⟩ (.bool true)).setCell ⟨w7.heap.size, 1, none⟩ (.int .i64 0)) (fun k_ => wE.heap.size ≤ k_ ∧ k_ < w5.heap.size) from (HKs.out.setCell (p := ⟨w7.heap.size, 0, none⟩) (Or.inr (Nat.le_trans HLR.out HWT.out)) _).setCell (p := ⟨w7.heap.size, 1, none⟩) (Or.inr (Nat.le_trans HLR.out HWT.out)) _)
        replace HSs := Aside0.mk (show wr.heap.size ≤ ((wc.setCell ⟨w7.heap.size, 0, none⟩ (.bool true)).setCell ⟨w7.heap.size, 1, none⟩ (.int .i64 0)).heap.size from by simp only [World.setCell, Array.size_modify]; exact HSs.out)
        obtain ⟨n3, hn3⟩ : ∃ n3 : Nat, n3 = js1.length := ⟨_, rfl⟩
        go_wp2_with (first | ((with_reducible refine gate_dst (N := 59) rfl ?_); refine Kd.R_lit k43 _ 43 ?hg (N := 59) ?hd (xs := ([v, ⟨false, (js1.length : Int)⟩, ⟨true, 0⟩] : List S43)) (inner := [.bool v.f0, .int .i64 v.f1, .bool false, .int .i64 (js1.length : Int), .bool true, .int .i64 0]) (ok := fun _ => True) (okp := fun _ => True) ?hr ?hp (fun _ hk => hk) trivial (Below.refl _ _) (Nat.le_refl _) (by simp) ?_; (case hd => rfl); (case hg => rfl); (case hr => first | (go_simp; done) | (go_simp; rfl)); (case hp => exact (Reps.c2 (show Kd.M k43 _ _ _ v [.bool v.f0, .int .i64 v.f1] from k43_mkM _ _ _ v) (Reps.c2 (show Kd.M k43 _ _ _ (⟨false, (js1.length : Int)⟩ : S43) [.bool false, .int .i64 (js1.length : Int)] from k43_mkM _ _ _ (⟨false, (js1.length : Int)⟩ : S43)) (Reps.c2 (show Kd.M k43 _ _ _ (⟨true, 0⟩ : S43) [.bool true, .int .i64 0] from k43_mkM _ _ _ (⟨true, 0⟩ : S43)) (Reps.none _ _))))); intro v9 w8 ho hb hg_ hnew_; clear hg_ hnew_; obtain ⟨A9, c9, rfl⟩ := Kd.R_slice ho; have HV9 := Aside0.mk (Kd.R_lower (Kd.R_mono (ok' := fun k_ => wr.heap.size ≤ k_) (Kd.R_bound ho) (fun k_ hk_ => Nat.le_trans HSs.out hk_.2.1)) HBs.out.size); replace HOs := Aside0.mk (Kd.S_below HOs.out hb); replace HKs := Aside0.mk (HKs.out.below hb); replace HBs := Aside0.mk (below_step HBs.out hb); replace HSs := Aside0.mk (Nat.le_trans HSs.out hb.size); clear ho hb) | ((with_reducible refine gate_builtin (b := .append) (xs := #[.tmp 52, .tmp 61]) rfl ?_); at_builtin; refine Kd.S_append k53 (w0 := w) w.heap.size rfl (.tmp 52) (.tmp 61) 33 53 (.agg #[(.int .i64 0), (.slice none 0 0)]) 32 rfl Try.underlying33 info53 rfl (show 0 < 2 by decide) (by omega) u8 out (⟨(j : Int), [v, ⟨false, (js1.length : Int)⟩, ⟨true, 0⟩]⟩ : S53) [.int .i64 (j : Int), .slice A9 3 c9] (fun k_ => k_ < w5.heap.size ∨ wL.heap.size ≤ k_) (fun k_ => wr.heap.size ≤ k_) rfl rfl ?aP ?aK ?aF ?aO ?aB ?aS ?aL ?_; (case aP => exact k53_mkM _ _ _ (⟨(j : Int), [v, ⟨false, (js1.length : Int)⟩, ⟨true, 0⟩]⟩ : S53) HV9.out); (case aK => exact fun k_ hk_ => ⟨Or.inr (Nat.le_trans HLR.out hk_), fun he_ => by have := (Kd.S_R HOs.out).1 k_ he_.symm; have := this.2; omega⟩); (case aF => exact fun k_ hk_ => Or.inr (Nat.le_trans HLR.out (Nat.le_trans HSs.out hk_))); (case aO => exact Kd.S_mono HOs.out (fun k_ hk_ => ⟨hk_.1, fun h_ => by have := hk_.2; omega⟩)); (case aB => exact HBs.out); (case aS => exact HBs.out.size); (case aL => have := HOL.out; have := HK2.out; have := HLT.out; omega); intro v10 w9 ho hb hg hat; have HK10 := Aside0.mk (show Kept wL w9 (fun k_ => wE.heap.size ≤ k_ ∧ k_ < w5.heap.size) from ⟨Nat.le_trans HKs.out.1 hg.size, fun i_ hi_ hn_ => (hg.block i_ (Nat.lt_of_lt_of_le hi_ HKs.out.1) (fun he_ => (HOB.out i_ he_.symm).elim hn_ (fun h_ => by omega))).trans (HKs.out.2 i_ hi_ hn_)⟩); have HOB2 := Aside0.mk (show ∀ k_, v10.ownBlock = some k_ → (wE.heap.size ≤ k_ ∧ k_ < w5.heap.size) ∨ wL.heap.size ≤ k_ from fun k_ hk_ => hat.elim (fun h_ => HOB.out k_ (h_ ▸ hk_)) (fun ⟨b_, h1_, h2_⟩ => Or.inr (by rw [h1_] at hk_; injection hk_ with hk_; have := HKs.out.1; omega))); have HO2 := Aside0.mk ho; have HB2 := Aside0.mk hb; clear ho hb hg hat))
        go_roundg (ds.length - j)
        case measure => have := HG2.out; have := HLT.out; omega
        case rel => exact ⟨j + 1, vs, out ++ [row], by rw [HWJ.out], HDR, ⟨by rw [List.length_append, HOL.out]; rfl⟩, ⟨by omega⟩, HF, ⟨by rw [← HRW.out, ← HFL.out, rowG_len]; exact HO2.out⟩, HK10, HB2, HOB2⟩
end Go.Proofs.Ytmlbihhaikknnaa.Pr
