/- impl.Rename: a name given another one, the names sorted anew, the tuples picked in that order. Conditions: what under comes to; lengths that Go can make room for. -/
import Derived.Test.YtcengijoicmldaaPr0
import Derived.Test.YtcengijoicmldaaPr1
import Derived.Test.YtcengijoicmldaaESorted
import Derived.Test.YtcengijoicmldaaECloneInt
import Derived.Test.YtcengijoicmldaaERelated
import Derived.Test.YtcengijoicmldaaIv
import Derived.Test.YtcengijoicmldaaWFoot
namespace Go.Proofs.Ytcengijoicmldaa.Pr
open Go.RowKit Go.Shelf Go.Proofs.Ytcengijoicmldaa Go.Proofs.YtcengijoicmldaaW.PrintWords Go.Proofs.YtcengijoicmldaaW.PrintLast Go.Proofs.YtcengijoicmldaaW.PrintMore
set_option linter.unusedVariables false
set_option linter.unusedSimpArgs false
def undK (k : Nat) (now names t : List Int) : List Int := (impl_under.f k now t names).getD []
def undOk (k : Nat) (now names t : List Int) : Bool := (impl_under.f k now t names).isSome
theorem undOk_eq {k : Nat} {now names t : List Int} (h : undOk k now names t = true) : impl_under.f k now t names = some (undK k now names t) := by
  unfold undOk at h
  unfold undK
  cases e : impl_under.f k now t names with
  | none => rw [e] at h; cases h
  | some t => rfl
theorem int_at {W : World} {e0 base g0 n c : Nat} {ok : Nat → Prop} {xs : List Int} (ho : (Kd.int .i64).R e0 W base ok (.slice (some ⟨g0, 0, none⟩) n c) xs) (i : Nat) (hi : i < xs.length) :
    W.cell? ⟨g0, i, none⟩ = some (.int .i64 (xs.getD i 0)) ∧ W.frozen? ⟨g0, i, none⟩ = false := by
  obtain ⟨rfl, _, _⟩ := Kd.R_reads' ho
  obtain ⟨ce, hcl, hM, hcc, hfr⟩ := Kd.R_elem ho (0 : Int) (i : Int) (by omega) (by omega)
  have hM2 : ce = [.int .i64 (xs.getD i 0)] := hM
  subst hM2
  have c0 := hcc 0 _ rfl
  have f0 := hfr 0
  simp only [Int.toNat_natCast, show (Kd.int .i64).sz = 1 from rfl, Nat.mul_one, Nat.add_zero] at c0 f0
  exact ⟨c0, f0⟩
theorem int_put {W : World} {e0 base g0 c : Nat} {xs : List Int} (ho : (Kd.int .i64).R e0 W base (fun _ => True) (.slice (some ⟨g0, 0, none⟩) xs.length c) xs) (i : Nat) (hi : i < xs.length) (x : Int) :
    (Kd.int .i64).R e0 (W.setCell ⟨g0, i, none⟩ (.int .i64 x)) base (fun _ => True) (.slice (some ⟨g0, 0, none⟩) (xs.set i x).length c) (xs.set i x) := by
  obtain ⟨ce, hcl, hM, hcc, hfr⟩ := Kd.R_elem ho (0 : Int) (i : Int) (by omega) (by omega)
  have hM2 : ce = [.int .i64 (xs.getD i 0)] := hM
  subst hM2
  have h := (Kd.R_seg ho (i : Int) (by omega) (by omega) (seg := [.int .i64 x]) (j := 0) hcl hcc (show 0 + 1 ≤ 1 from by decide) (x' := x) (show (Kd.int .i64).M _ _ _ x [.int .i64 x] from rfl) (fun _ hk => hk)).1
  rw [List.length_set]
  simpa [World.setCells, show (Kd.int .i64).sz = 1 from rfl] using h
def renMain (k : Nat) (l0 : List Int) (l1 : List (List Int)) (a1 a2 : Int) : Option (List Int × (List (List Int)) × Bool) :=
  (slices_Index_int_int.f k l0 a1).bind fun i => if (0 ≤ i ∧ i < (l0.length : Int)) ∧ l0.length * 8 ≤ 140737488355328 ∧ (l1.length + 1) * 24 ≤ 140737488355328 ∧ l1.all (undOk k (l0.set i.toNat a2) (sortI (l0.set i.toNat a2))) = true
    then impl_related.f (sortI (l0.set i.toNat a2)) (l1.map (undK k (l0.set i.toNat a2) (sortI (l0.set i.toNat a2)))) else none
def impl_Rename.f (k : Nat) (l0 : List Int) (l1 : List (List Int)) (a1 a2 : Int) : Option (List Int × (List (List Int)) × Bool) :=
  (impl_GoodRelation.f k l0 l1).bind fun g => if g = false then some ([], [], false) else
    (slices_Contains_int_int.f k l0 a1).bind fun h => if h = false then some ([], [], false) else
      (slices_Contains_int_int.f k l0 a2).bind fun h2 => if h2 = true then some ([], [], false) else
        (impl_within.f a2 0 20).bind fun i => if i = false then some ([], [], false) else renMain k l0 l1 a1 a2
set_option maxHeartbeats 8000000 in
set_option maxRecDepth 100000 in
theorem impl_Rename.calls (k : Nat) (A0_0 : Option Addr) (c0_0 : Nat) (l0_0 : List Int) (A0_1 : Option Addr) (c0_1 : Nat) (l0_1 : List (List Int)) (a1 : Int) (a2 : Int) (r1 : List Int) (r2 : List (List Int)) (r3 : Bool) (w : World) (hr0_0 : Kd.C (Kd.int .i64) w A0_0 l0_0.length l0_0) (hc0_0 : l0_0.length ≤ c0_0) (hr0_1 : Kd.C (Kd.slice 3 (Kd.int .i64)) w A0_1 l0_1.length l0_1) (hc0_1 : l0_1.length ≤ c0_1) (h : impl_Rename.f k l0_0 l0_1 a1 a2 = some (r1, r2, r3)) :
    Calls Try.prog 25 #[.agg #[.slice A0_0 l0_0.length c0_0, .slice A0_1 l0_1.length c0_1], .int .i64 a1, .int .i64 a2] w fun e w' => ∃ v0_ v1_ : Value, e = .returned (.tuple #[.agg #[v0_, v1_], .bool r3]) ∧ Kd.R (Kd.int .i64) 3 w' w.heap.size (fun _ => True) v0_ r1 ∧ Kd.S (Kd.slice 3 (Kd.int .i64)) 24 w' w.heap.size (fun k_ => some k_ ≠ (v0_ : Value).ownBlock) v1_ r2 ∧ Below w.heap.size w w' := by
  have HY := Aside0.mk (show ((w.alloc (.cells #[.slice A0_0 l0_0.length c0_0, .slice A0_1 l0_1.length c0_1] 27)).alloc (.cells #[.slice none 0 0, .slice none 0 0] 27)).heap[w.heap.size + 1]? = some (.cells #[.slice none 0 0, .slice none 0 0] 27 (0, 0)) from by
    have h_ := blk_new (w.alloc (.cells #[.slice A0_0 l0_0.length c0_0, .slice A0_1 l0_1.length c0_1] 27)) (.cells #[.slice none 0 0, .slice none 0 0] 27)
    rwa [boxed_size] at h_)
  have x0 : ((w.alloc (.cells #[.slice A0_0 l0_0.length c0_0, .slice A0_1 l0_1.length c0_1] 27)).alloc (.cells #[.slice none 0 0, .slice none 0 0] 27)).cell? ⟨w.heap.size, 0, none⟩ = some (.slice A0_0 l0_0.length c0_0) := Bx.box_alloc _ (Bx.box_new _ _ _ _ _ rfl)
  have x1 : ((w.alloc (.cells #[.slice A0_0 l0_0.length c0_0, .slice A0_1 l0_1.length c0_1] 27)).alloc (.cells #[.slice none 0 0, .slice none 0 0] 27)).cell? ⟨w.heap.size, 1, none⟩ = some (.slice A0_1 l0_1.length c0_1) := Bx.box_alloc _ (Bx.box_new _ _ _ _ _ rfl)
  have y0 : ((w.alloc (.cells #[.slice A0_0 l0_0.length c0_0, .slice A0_1 l0_1.length c0_1] 27)).alloc (.cells #[.slice none 0 0, .slice none 0 0] 27)).cell? ⟨w.heap.size + 1, 0, none⟩ = some (.slice none 0 0) := (blk_cell HY.out 0).trans rfl
  have y1 : ((w.alloc (.cells #[.slice A0_0 l0_0.length c0_0, .slice A0_1 l0_1.length c0_1] 27)).alloc (.cells #[.slice none 0 0, .slice none 0 0] 27)).cell? ⟨w.heap.size + 1, 1, none⟩ = some (.slice none 0 0) := (blk_cell HY.out 1).trans rfl
  have hf0 := blk_frozen HY.out 0
  have hf1 := blk_frozen HY.out 1
  have HB := Aside0.mk (below_alloc (below_alloc (Below.refl w.heap.size w) (.cells #[.slice A0_0 l0_0.length c0_0, .slice A0_1 l0_1.length c0_1] 27)) (.cells #[.slice none 0 0, .slice none 0 0] 27))
  have HR0 := Aside0.mk hr0_0
  have HR1 := Aside0.mk hr0_1
  have HC0 := Aside0.mk hc0_0
  have HC1 := Aside0.mk hc0_1
  clear hr0_0 hr0_1 hc0_0 hc0_1
  unfold impl_Rename.f at h
  obtain ⟨g, hg, h2_⟩ := Option.bind_eq_some_iff.mp h
  clear h
  have h := h2_
  clear h2_
  have HG := Aside0.mk hg
  clear hg
  cases g
  · skip
    simp only [if_true] at h
    obtain ⟨rfl, rfl, rfl⟩ : [] = r1 ∧ [] = r2 ∧ false = r3 := by simpa using h
    clear h
    go_enter Try.func25, Try.ntmps25
    go_wp2_with (first | (go_at_call 33; with_reducible refine (impl_GoodRelation.calls k _ _ l0_0 _ _ l0_1 false _ (Kd.C_below HR0.out HB.out) HC0.out (Kd.C_below HR1.out HB.out) HC1.out HG.out).mono ?_; rintro e w3 ⟨rfl, hb⟩; replace x0 := Bx.box_later x0 hb; replace x1 := Bx.box_later x1 hb; replace HY := Aside0.mk (blk_below HY.out hb); replace HB := Aside0.mk (below_step HB.out hb); clear hb; replace y0 := (blk_cell HY.out 0).trans rfl; replace y1 := (blk_cell HY.out 1).trans rfl; replace hf0 := blk_frozen HY.out 0; replace hf1 := blk_frozen HY.out 1))
    have hBA := below_set (j := 1) (v := .slice none 0 0) (below_set (j := 0) (v := .slice none 0 0) HB.out (Nat.le_succ _)) (Nat.le_succ w.heap.size)
    refine bodyPost_ret (results_ct rfl _ _ (w.heap.size + 1) 27 #[.slice none 0 0, .slice none 0 0] (0, 0) _ rfl (blk_put (cs := #[.slice none 0 0, .slice none 0 0]) (blk_put HY.out 0 _ rfl) 1 _ rfl) Try.underlying27 rfl (by kernel_rfl)) rfl ?_
    exact ⟨_, _, rfl, Kd.R_nil _ _ _ _ _, Kd.S_nil _ _ _ _ _, hBA⟩
  rw [if_neg (by decide)] at h
  obtain ⟨g1, hg1, h2_⟩ := Option.bind_eq_some_iff.mp h
  clear h
  have h := h2_
  clear h2_
  have H1 := Aside0.mk hg1
  clear hg1
  cases g1
  · skip
    simp only [if_true] at h
    obtain ⟨rfl, rfl, rfl⟩ : [] = r1 ∧ [] = r2 ∧ false = r3 := by simpa using h
    clear h
    go_enter Try.func25, Try.ntmps25
    go_wp2_with (first | (go_at_call 33; with_reducible refine (impl_GoodRelation.calls k _ _ l0_0 _ _ l0_1 true _ (Kd.C_below HR0.out HB.out) HC0.out (Kd.C_below HR1.out HB.out) HC1.out HG.out).mono ?_; rintro e w3 ⟨rfl, hb⟩; replace x0 := Bx.box_later x0 hb; replace x1 := Bx.box_later x1 hb; replace HY := Aside0.mk (blk_below HY.out hb); replace HB := Aside0.mk (below_step HB.out hb); clear hb; replace y0 := (blk_cell HY.out 0).trans rfl; replace y1 := (blk_cell HY.out 1).trans rfl; replace hf0 := blk_frozen HY.out 0; replace hf1 := blk_frozen HY.out 1) | (go_at_call 47; with_reducible refine (slices_Contains_int_int.calls k _ _ l0_0 a1 false _ (Kd.C_below HR0.out HB.out) HC0.out H1.out).mono ?_; rintro e w4 ⟨rfl, nd_, hd_⟩; have hb := show Below (World.heap w3).size w3 w4 from hd_ ▸ pw_below_drewN (Below.refl _ _) nd_; clear hd_; replace x0 := Bx.box_later x0 hb; replace x1 := Bx.box_later x1 hb; replace HY := Aside0.mk (blk_below HY.out hb); replace HB := Aside0.mk (below_step HB.out hb); clear hb; replace y0 := (blk_cell HY.out 0).trans rfl; replace y1 := (blk_cell HY.out 1).trans rfl; replace hf0 := blk_frozen HY.out 0; replace hf1 := blk_frozen HY.out 1))
    have hBA := below_set (j := 1) (v := .slice none 0 0) (below_set (j := 0) (v := .slice none 0 0) HB.out (Nat.le_succ _)) (Nat.le_succ w.heap.size)
    refine bodyPost_ret (results_ct rfl _ _ (w.heap.size + 1) 27 #[.slice none 0 0, .slice none 0 0] (0, 0) _ rfl (blk_put (cs := #[.slice none 0 0, .slice none 0 0]) (blk_put HY.out 0 _ rfl) 1 _ rfl) Try.underlying27 rfl (by kernel_rfl)) rfl ?_
    exact ⟨_, _, rfl, Kd.R_nil _ _ _ _ _, Kd.S_nil _ _ _ _ _, hBA⟩
  rw [if_neg (by decide)] at h
  obtain ⟨g2, hg2, h2_⟩ := Option.bind_eq_some_iff.mp h
  clear h
  have h := h2_
  clear h2_
  have H2 := Aside0.mk hg2
  clear hg2
  cases g2
  rotate_left
  · skip
    simp only [if_true] at h
    obtain ⟨rfl, rfl, rfl⟩ : [] = r1 ∧ [] = r2 ∧ false = r3 := by simpa using h
    clear h
    go_enter Try.func25, Try.ntmps25
    go_wp2_with (first | (go_at_call 33; with_reducible refine (impl_GoodRelation.calls k _ _ l0_0 _ _ l0_1 true _ (Kd.C_below HR0.out HB.out) HC0.out (Kd.C_below HR1.out HB.out) HC1.out HG.out).mono ?_; rintro e w3 ⟨rfl, hb⟩; replace x0 := Bx.box_later x0 hb; replace x1 := Bx.box_later x1 hb; replace HY := Aside0.mk (blk_below HY.out hb); replace HB := Aside0.mk (below_step HB.out hb); clear hb; replace y0 := (blk_cell HY.out 0).trans rfl; replace y1 := (blk_cell HY.out 1).trans rfl; replace hf0 := blk_frozen HY.out 0; replace hf1 := blk_frozen HY.out 1) | (go_at_call 47; with_reducible refine (slices_Contains_int_int.calls k _ _ l0_0 a1 true _ (Kd.C_below HR0.out HB.out) HC0.out H1.out).mono ?_; rintro e w4 ⟨rfl, nd_, hd_⟩; have hb := show Below (World.heap w3).size w3 w4 from hd_ ▸ pw_below_drewN (Below.refl _ _) nd_; clear hd_; replace x0 := Bx.box_later x0 hb; replace x1 := Bx.box_later x1 hb; replace HY := Aside0.mk (blk_below HY.out hb); replace HB := Aside0.mk (below_step HB.out hb); clear hb; replace y0 := (blk_cell HY.out 0).trans rfl; replace y1 := (blk_cell HY.out 1).trans rfl; replace hf0 := blk_frozen HY.out 0; replace hf1 := blk_frozen HY.out 1) | (go_at_call 47; with_reducible refine (slices_Contains_int_int.calls k _ _ l0_0 a2 true _ (Kd.C_below HR0.out HB.out) HC0.out H2.out).mono ?_; rintro e w5 ⟨rfl, nd_, hd_⟩; have hb := show Below (World.heap w4).size w4 w5 from hd_ ▸ pw_below_drewN (Below.refl _ _) nd_; clear hd_; replace x0 := Bx.box_later x0 hb; replace x1 := Bx.box_later x1 hb; replace HY := Aside0.mk (blk_below HY.out hb); replace HB := Aside0.mk (below_step HB.out hb); clear hb; replace y0 := (blk_cell HY.out 0).trans rfl; replace y1 := (blk_cell HY.out 1).trans rfl; replace hf0 := blk_frozen HY.out 0; replace hf1 := blk_frozen HY.out 1))
    have hBA := below_set (j := 1) (v := .slice none 0 0) (below_set (j := 0) (v := .slice none 0 0) HB.out (Nat.le_succ _)) (Nat.le_succ w.heap.size)
    refine bodyPost_ret (results_ct rfl _ _ (w.heap.size + 1) 27 #[.slice none 0 0, .slice none 0 0] (0, 0) _ rfl (blk_put (cs := #[.slice none 0 0, .slice none 0 0]) (blk_put HY.out 0 _ rfl) 1 _ rfl) Try.underlying27 rfl (by kernel_rfl)) rfl ?_
    exact ⟨_, _, rfl, Kd.R_nil _ _ _ _ _, Kd.S_nil _ _ _ _ _, hBA⟩
  rw [if_neg (by decide)] at h
  obtain ⟨g3, hg3, h2_⟩ := Option.bind_eq_some_iff.mp h
  clear h
  have h := h2_
  clear h2_
  have HI := Aside0.mk hg3
  clear hg3
  cases g3
  · skip
    simp only [if_true] at h
    obtain ⟨rfl, rfl, rfl⟩ : [] = r1 ∧ [] = r2 ∧ false = r3 := by simpa using h
    clear h
    go_enter Try.func25, Try.ntmps25
    go_wp2_with (first | (go_at_call 33; with_reducible refine (impl_GoodRelation.calls k _ _ l0_0 _ _ l0_1 true _ (Kd.C_below HR0.out HB.out) HC0.out (Kd.C_below HR1.out HB.out) HC1.out HG.out).mono ?_; rintro e w3 ⟨rfl, hb⟩; replace x0 := Bx.box_later x0 hb; replace x1 := Bx.box_later x1 hb; replace HY := Aside0.mk (blk_below HY.out hb); replace HB := Aside0.mk (below_step HB.out hb); clear hb; replace y0 := (blk_cell HY.out 0).trans rfl; replace y1 := (blk_cell HY.out 1).trans rfl; replace hf0 := blk_frozen HY.out 0; replace hf1 := blk_frozen HY.out 1) | (go_at_call 47; with_reducible refine (slices_Contains_int_int.calls k _ _ l0_0 a1 true _ (Kd.C_below HR0.out HB.out) HC0.out H1.out).mono ?_; rintro e w4 ⟨rfl, nd_, hd_⟩; have hb := show Below (World.heap w3).size w3 w4 from hd_ ▸ pw_below_drewN (Below.refl _ _) nd_; clear hd_; replace x0 := Bx.box_later x0 hb; replace x1 := Bx.box_later x1 hb; replace HY := Aside0.mk (blk_below HY.out hb); replace HB := Aside0.mk (below_step HB.out hb); clear hb; replace y0 := (blk_cell HY.out 0).trans rfl; replace y1 := (blk_cell HY.out 1).trans rfl; replace hf0 := blk_frozen HY.out 0; replace hf1 := blk_frozen HY.out 1) | (go_at_call 47; with_reducible refine (slices_Contains_int_int.calls k _ _ l0_0 a2 false _ (Kd.C_below HR0.out HB.out) HC0.out H2.out).mono ?_; rintro e w5 ⟨rfl, nd_, hd_⟩; have hb := show Below (World.heap w4).size w4 w5 from hd_ ▸ pw_below_drewN (Below.refl _ _) nd_; clear hd_; replace x0 := Bx.box_later x0 hb; replace x1 := Bx.box_later x1 hb; replace HY := Aside0.mk (blk_below HY.out hb); replace HB := Aside0.mk (below_step HB.out hb); clear hb; replace y0 := (blk_cell HY.out 0).trans rfl; replace y1 := (blk_cell HY.out 1).trans rfl; replace hf0 := blk_frozen HY.out 0; replace hf1 := blk_frozen HY.out 1) | (go_at_call 30; with_reducible refine (impl_within.calls a2 0 20 false _ HI.out).mono ?_; rintro e w6 ⟨rfl, nd_, hd_⟩; have hb := show Below (World.heap w5).size w5 w6 from hd_ ▸ pw_below_drewN (Below.refl _ _) nd_; clear hd_; replace x0 := Bx.box_later x0 hb; replace x1 := Bx.box_later x1 hb; replace HY := Aside0.mk (blk_below HY.out hb); replace HB := Aside0.mk (below_step HB.out hb); clear hb; replace y0 := (blk_cell HY.out 0).trans rfl; replace y1 := (blk_cell HY.out 1).trans rfl; replace hf0 := blk_frozen HY.out 0; replace hf1 := blk_frozen HY.out 1))
    have hBA := below_set (j := 1) (v := .slice none 0 0) (below_set (j := 0) (v := .slice none 0 0) HB.out (Nat.le_succ _)) (Nat.le_succ w.heap.size)
    refine bodyPost_ret (results_ct rfl _ _ (w.heap.size + 1) 27 #[.slice none 0 0, .slice none 0 0] (0, 0) _ rfl (blk_put (cs := #[.slice none 0 0, .slice none 0 0]) (blk_put HY.out 0 _ rfl) 1 _ rfl) Try.underlying27 rfl (by kernel_rfl)) rfl ?_
    exact ⟨_, _, rfl, Kd.R_nil _ _ _ _ _, Kd.S_nil _ _ _ _ _, hBA⟩
  rw [if_neg (by decide)] at h
  unfold renMain at h
  obtain ⟨i, hi, h2_⟩ := Option.bind_eq_some_iff.mp h
  clear h
  by_cases hm : (0 ≤ i ∧ i < (l0_0.length : Int)) ∧ l0_0.length * 8 ≤ 140737488355328 ∧ (l0_1.length + 1) * 24 ≤ 140737488355328 ∧ l0_1.all (undOk k (l0_0.set i.toNat a2) (sortI (l0_0.set i.toNat a2))) = true
  rotate_left
  · rw [if_neg hm] at h2_
    cases h2_
  rw [if_pos hm] at h2_
  have H := Aside0.mk h2_
  have HM := Aside0.mk hm.2
  have HIX := Aside0.mk hi
  obtain ⟨i0, i1⟩ := hm.1
  clear h2_ hm hi
  obtain ⟨n, rfl⟩ : ∃ n : Nat, i = n := ⟨i.toNat, by omega⟩
  simp only [Int.toNat_natCast] at H HM
  have hn : n < l0_0.length := by omega
  go_enter Try.func25, Try.ntmps25
  go_wp2_with (first | (go_at_call 33; with_reducible refine (impl_GoodRelation.calls k _ _ l0_0 _ _ l0_1 true _ (Kd.C_below HR0.out HB.out) HC0.out (Kd.C_below HR1.out HB.out) HC1.out HG.out).mono ?_; rintro e w3 ⟨rfl, hb⟩; replace x0 := Bx.box_later x0 hb; replace x1 := Bx.box_later x1 hb; replace HY := Aside0.mk (blk_below HY.out hb); replace HB := Aside0.mk (below_step HB.out hb); clear hb; replace y0 := (blk_cell HY.out 0).trans rfl; replace y1 := (blk_cell HY.out 1).trans rfl; replace hf0 := blk_frozen HY.out 0; replace hf1 := blk_frozen HY.out 1) | (go_at_call 47; with_reducible refine (slices_Contains_int_int.calls k _ _ l0_0 a1 true _ (Kd.C_below HR0.out HB.out) HC0.out H1.out).mono ?_; rintro e w4 ⟨rfl, nd_, hd_⟩; have hb := show Below (World.heap w3).size w3 w4 from hd_ ▸ pw_below_drewN (Below.refl _ _) nd_; clear hd_; replace x0 := Bx.box_later x0 hb; replace x1 := Bx.box_later x1 hb; replace HY := Aside0.mk (blk_below HY.out hb); replace HB := Aside0.mk (below_step HB.out hb); clear hb; replace y0 := (blk_cell HY.out 0).trans rfl; replace y1 := (blk_cell HY.out 1).trans rfl; replace hf0 := blk_frozen HY.out 0; replace hf1 := blk_frozen HY.out 1) | (go_at_call 47; with_reducible refine (slices_Contains_int_int.calls k _ _ l0_0 a2 false _ (Kd.C_below HR0.out HB.out) HC0.out H2.out).mono ?_; rintro e w5 ⟨rfl, nd_, hd_⟩; have hb := show Below (World.heap w4).size w4 w5 from hd_ ▸ pw_below_drewN (Below.refl _ _) nd_; clear hd_; replace x0 := Bx.box_later x0 hb; replace x1 := Bx.box_later x1 hb; replace HY := Aside0.mk (blk_below HY.out hb); replace HB := Aside0.mk (below_step HB.out hb); clear hb; replace y0 := (blk_cell HY.out 0).trans rfl; replace y1 := (blk_cell HY.out 1).trans rfl; replace hf0 := blk_frozen HY.out 0; replace hf1 := blk_frozen HY.out 1) | (go_at_call 30; with_reducible refine (impl_within.calls a2 0 20 true _ HI.out).mono ?_; rintro e w6 ⟨rfl, nd_, hd_⟩; have hb := show Below (World.heap w5).size w5 w6 from hd_ ▸ pw_below_drewN (Below.refl _ _) nd_; clear hd_; replace x0 := Bx.box_later x0 hb; replace x1 := Bx.box_later x1 hb; replace HY := Aside0.mk (blk_below HY.out hb); replace HB := Aside0.mk (below_step HB.out hb); clear hb; replace y0 := (blk_cell HY.out 0).trans rfl; replace y1 := (blk_cell HY.out 1).trans rfl; replace hf0 := blk_frozen HY.out 0; replace hf1 := blk_frozen HY.out 1) | (go_at_call 48; with_reducible refine (slices_Clone_int_int.calls _ _ l0_0 l0_0 _ (Kd.C_below HR0.out HB.out) HC0.out (by unfold slices_Clone_int_int.f; rw [if_pos HM.out.1])).mono ?_; rintro e w7 ⟨v7, rfl, ho, hb⟩; obtain ⟨A7, c7, rfl⟩ := Kd.R_slice ho; have HO := Aside0.mk (Kd.R_lower ho HB.out.size); have HOB := Aside0.mk (Kd.R_base ho); have H6 := Aside0.mk (Bx.box_lt x0); have H6y := Aside0.mk (blk_lt HY.out); clear ho; replace x0 := Bx.box_later x0 hb; replace x1 := Bx.box_later x1 hb; replace HY := Aside0.mk (blk_below HY.out hb); replace HB := Aside0.mk (below_step HB.out hb); clear hb; replace y0 := (blk_cell HY.out 0).trans rfl; replace y1 := (blk_cell HY.out 1).trans rfl; replace hf0 := blk_frozen HY.out 0; replace hf1 := blk_frozen HY.out 1) | (go_at_call 49; go_loud (with_reducible refine (slices_Index_int_int.calls k _ _ l0_0 a1 _ _ (Kd.R_reads' HO.out).2.2 (Kd.R_reads' HO.out).2.1 HIX.out).mono ?_; rintro e w8 ⟨rfl, nd_, hd_⟩; have hb := show Below (World.heap w7).size w7 w8 from hd_ ▸ pw_below_drewN (Below.refl _ _) nd_; clear hd_; replace HO := Aside0.mk (Kd.R_below HO.out hb); replace x0 := Bx.box_later x0 hb; replace x1 := Bx.box_later x1 hb; replace HY := Aside0.mk (blk_below HY.out hb); replace HB := Aside0.mk (below_step HB.out hb); clear hb; replace y0 := (blk_cell HY.out 0).trans rfl; replace y1 := (blk_cell HY.out 1).trans rfl; replace hf0 := blk_frozen HY.out 0; replace hf1 := blk_frozen HY.out 1; obtain ⟨g7, cap7, hv, hg7, hgl7, _⟩ := Kd.R_form HO.out (by omega); injection hv with hv1 hv2 hv3; subst hv1; subst hv3; obtain ⟨z0, z1⟩ := int_at HO.out n (by omega))))
  have hk9 := Kept.setCell (p := ⟨g7, n, none⟩) (Kept.refl w8 (fun k_ => k_ = g7)) (Or.inl rfl) (.int .i64 a2)
  have hne1 : w.heap.size + 1 ≠ g7 := by have h1_ := HOB.out g7 rfl; have h2_ := H6y.out; omega
  have hne0 : w.heap.size ≠ g7 := by have h1_ := HOB.out g7 rfl; have h2_ : w.heap.size < w6.heap.size := H6.out; omega
  have hput := int_put HO.out n hn a2
  have hby : (l0_0.set n a2).length * 8 ≤ 140737488355328 := by rw [List.length_set]; exact HM.out.1
  replace x1 := Go.Proofs.YtcengijoicmldaaW.PrintWords.cell_kept x1 hk9 hne0
  replace HY := Aside0.mk ((hk9.2 (w.heap.size + 1) (blk_lt HY.out) hne1).trans HY.out)
  replace HB := Aside0.mk (below_set (j := n) (v := .int .i64 a2) HB.out (show w.heap.size ≤ g7 from by have h1_ := HOB.out g7 rfl; have h2_ := H6y.out; omega))
  clear x0 y0 y1 hf0 hf1 hk9 hne0 hne1 HO HOB z0 z1 hg7 hgl7 hv2 H1 H2 HI HG HIX H6 H6y i0 i1
  have hNL : l0_0.length = (l0_0.set n a2).length := List.length_set.symm
  have HM2 := Aside0.mk HM.out.2
  clear HM hn
  rw [hNL]
  clear hNL
  generalize l0_0.set n a2 = nw at hput hby H HM2 ⊢
  generalize w8.setCell ⟨g7, n, none⟩ (.int .i64 a2) = w9 at x1 HY HB hput ⊢
  have HNW := Aside0.mk hput
  have HBY := Aside0.mk hby
  clear hput hby
  have hal := below_alloc (Below.refl w9.heap.size w9) (.cells #[.slice (some ⟨g7, 0, none⟩) nw.length c7] 24)
  go_wp2_with (first | (go_at_call 51; refine (callsIn_wide.1 (values_in Fence.wide 4 trivial rfl (some ⟨g7, 0, none⟩) nw.length c7 w9)).mono ?_; rintro e w10 ⟨rfl, hw_⟩; have hb := show Below w9.heap.size w9 w10 from hw_ ▸ hal; have HBX := Aside0.mk (show w10.cell? ⟨w9.heap.size, 0, none⟩ = some (.slice (some ⟨g7, 0, none⟩) nw.length c7) from hw_ ▸ Bx.box_new _ _ _ _ _ rfl); clear hw_ hal; replace x1 := Bx.box_later x1 hb; replace HY := Aside0.mk (blk_below HY.out hb); replace HB := Aside0.mk (below_step HB.out hb); replace HNW := Aside0.mk (Kd.R_below HNW.out hb); clear hb) | (go_at_call 50; refine (sorted_calls w9.heap.size w10.heap.size c7 (some ⟨g7, 0, none⟩) nw HBY.out _ (Nat.le_refl _) (fun X hb => Kd.C_below (Kd.R_reads' HNW.out).2.2 hb) (Bx.box_lt HBX.out) HBX.out).mono ?_; rintro e w11 ⟨v11, rfl, ho, hb⟩; generalize sortI nw = sn at ho H HM2; obtain ⟨AS, cS, rfl⟩ := Kd.R_slice ho; have HSN := Aside0.mk ho; replace x1 := Bx.box_later x1 hb; replace HY := Aside0.mk (blk_below HY.out hb); replace HB := Aside0.mk (below_step HB.out hb); replace HNW := Aside0.mk (Kd.R_below HNW.out hb); clear hb ho HBX) | ((with_reducible refine gate_dst (N := 47) rfl ?_); refine Kd.S_lit (Kd.slice 3 (Kd.int .i64)) _ 24 ?hg (N := 47) ?hd (xs := ([] : List (List Int))) (inner := []) (ok := fun _ => True) (okp := fun _ => True) ?hr ?hp (fun _ hk => hk) trivial (Below.refl _ _) (Nat.le_refl _) (by simp) ?_; (case hd => rfl); (case hg => rfl); (case hr => first | (go_simp; done) | (go_simp; rfl)); (case hp => exact (Reps.none _ _)); intro v12 w12 ho hb hg_ hnew_; clear hg_ hnew_; have HS := Aside0.mk (Kd.S_mono (ok' := fun k_ => w11.heap.size ≤ k_) (Kd.S_lower (Kd.S_bound ho) HB.out.size) (fun k_ hk_ => hk_.2.1)); have HW := Aside0.mk hb; have X1 := Aside0.mk x1; have HY1 := Aside0.mk HY.out; have HB1 := Aside0.mk HB.out; have HNW1 := Aside0.mk HNW.out; replace x1 := Bx.box_later x1 hb; replace HY := Aside0.mk (blk_below HY.out hb); replace HB := Aside0.mk (below_step HB.out hb); replace HNW := Aside0.mk (Kd.R_below HNW.out hb); clear hb ho))
  go_loopg [10, 51] (l0_1.length + 1) (fun gg v10 v51 wr => ∃ j : Nat, v51 = .int .i64 j ∧ Aside0 (j ≤ l0_1.length) ∧ Aside0 (l0_1.length + 1 - j ≤ gg) ∧ Aside0 (Kd.S (Kd.slice 3 (Kd.int .i64)) 24 wr w.heap.size (fun k_ => w11.heap.size ≤ k_) v10 ((l0_1.take j).map (undK k nw sn))) ∧ Aside0 (Below w11.heap.size w11 wr))
  case atStart => exact ⟨0, rfl, ⟨Nat.zero_le _⟩, ⟨by omega⟩, ⟨by rw [List.take_zero]; exact HS.out⟩, HW⟩
  case round =>
    clear HS HW x1 HY HB HNW
    obtain ⟨j, rfl, HJ, HG2, HS, HW⟩ := hrel
    have HB := Aside0.mk (below_step HB1.out HW.out)
    by_cases hlt : j < l0_1.length
    · have h1 : (j : Int) < (l0_1.length : Int) := by omega
      obtain ⟨ad, A9, c9, e9, hx9, hl9, hi9⟩ := at_L1 (Kd.C_below HR1.out HB.out) (j : Int) (by omega) h1
      cases e9
      simp only [Int.toNat_natCast] at hx9
      have hN := HR1.out.2.1
      have HWJ := Aside0.mk (Pl.wrap_succ (show j < 9223372036854775807 by omega))
      have hm9 : rd_L1 l0_1 (j : Int) ∈ l0_1 := by
        simp only [rd_L1, Int.toNat_natCast, List.getD_eq_getElem?_getD, List.getElem?_eq_getElem hlt, Option.getD_some]
        exact List.getElem_mem hlt
      have hok := undOk_eq (List.all_eq_true.1 HM2.out.2 _ hm9)
      have htk : l0_1.take (j + 1) = l0_1.take j ++ [rd_L1 l0_1 (j : Int)] := by
        rw [List.take_add_one, List.getElem?_eq_getElem hlt]
        simp [rd_L1, List.getD_eq_getElem?_getD, List.getElem?_eq_getElem hlt]
      generalize rd_L1 l0_1 (j : Int) = t at hx9 hl9 hi9 hok htk
      have HT := Aside0.mk (show (l0_1.take (j + 1)).map (undK k nw sn) = (l0_1.take j).map (undK k nw sn) ++ [undK k nw sn t] from by rw [htk, List.map_append]; rfl)
      have HOK := Aside0.mk hok
      have HI9 := Aside0.mk hi9
      have HL9 := Aside0.mk hl9
      have HLT := Aside0.mk hlt
      have HLL := Aside0.mk (show (((l0_1.take j).map (undK k nw sn)).length + 1) * 24 ≤ 140737488355328 from by rw [List.length_map, List.length_take]; have h_ := HM2.out.1; omega)
      clear htk hok hi9 hl9 hm9 hN hlt
      go_wp2_with (first | (go_at_call 52; with_reducible refine (impl_under.calls k _ _ nw _ _ t _ _ sn _ _ (Kd.C_below (Kd.R_reads' HNW1.out).2.2 HW.out) (Kd.R_reads' HNW1.out).2.1 HI9.out HL9.out (Kd.C_below (Kd.R_reads' HSN.out).2.2 HW.out) (Kd.R_reads' HSN.out).2.1 HOK.out).mono ?_; rintro e w14 ⟨v14, rfl, ho, hb⟩; obtain ⟨A14, c14, rfl⟩ := Kd.R_slice ho; have HO14 := Aside0.mk ho; have HB14 := Aside0.mk hb; clear ho hb) | ((with_reducible refine gate_builtin (b := .append) (xs := #[.tmp 55, .tmp 60]) rfl ?_); at_builtin; go_loud (refine Kd.S_append (Kd.slice 3 (Kd.int .i64)) (w0 := w) w.heap.size rfl (.tmp 55) (.tmp 60) 25 24 (.slice none 0 0) 24 rfl Try.underlying25 info24 rfl (by decide) (by omega) u10 ((l0_1.take j).map (undK k nw sn)) (undK k nw sn t) [.slice A14 (undK k nw sn t).length c14] (fun k_ => w11.heap.size ≤ k_) (fun k_ => wr.heap.size ≤ k_) rfl rfl ?aP ?aK ?aF ?aO ?aB ?aS HLL.out ?_; (case aP => exact ⟨_, rfl, Kd.R_lower (Kd.R_mono (Kd.R_bound HO14.out) (fun k_ hk_ => hk_.2.1)) HB.out.size⟩); (case aK => exact fun k_ hk_ => ⟨Nat.le_trans HW.out.size hk_, fun he_ => by have h_ := Kd.S_lt HS.out k_ he_.symm; omega⟩); (case aF => exact fun k_ hk_ => Nat.le_trans HW.out.size (Nat.le_trans HB14.out.size hk_)); (case aO => exact Kd.S_mono (Kd.S_below (Kd.S_bound HS.out) HB14.out) (fun k_ hk_ => ⟨hk_.1, fun h_ => by have h2_ := hk_.2.2.1; omega⟩)); (case aB => exact below_step HB.out HB14.out); (case aS => exact (below_step HB.out HB14.out).size); intro v15 w15 ho hb hg hat; have HW15 := Aside0.mk ((below_step HW.out HB14.out).grown hg (below_step HW.out HB14.out).size (fun k_ hk_ => (Kd.S_R HS.out).1 k_ hk_)); have HS15 := Aside0.mk ho; clear ho hb hg hat)))
      go_roundg (l0_1.length - j)
      case measure => have := HG2.out; have := HLT.out; omega
      case rel => exact ⟨j + 1, by rw [HWJ.out], ⟨HLT.out⟩, ⟨by omega⟩, ⟨by rw [HT.out]; exact HS15.out⟩, HW15⟩
    · have h1 : ¬ (j : Int) < (l0_1.length : Int) := by omega
      have HE := Aside0.mk (show l0_1.take j = l0_1 from List.take_of_length_le (by omega))
      clear hlt
      have hS := HS.out
      rw [HE.out] at hS
      generalize l0_1.map (undK k nw sn) = us at hS H
      obtain ⟨AT, cT, rfl⟩ := Kd.S_slice hS
      have HS2 := Aside0.mk hS
      clear hS
      have HYr := Aside0.mk (blk_below HY1.out HW.out)
      go_wp2_with (first | (go_at_call 34; with_reducible refine (impl_related.calls _ _ sn _ _ us r1 r2 r3 _ (Kd.C_below (Kd.R_reads' HSN.out).2.2 HW.out) (Kd.R_reads' HSN.out).2.1 (Kd.S_reads' HS2.out).2.2 (Kd.S_reads' HS2.out).2.1 H.out).mono ?_; rintro e w20 ⟨v0, v1, rfl, ho0, ho1, hb⟩; obtain ⟨E0, d0, rfl⟩ := Kd.R_slice ho0; obtain ⟨E1, d1, rfl⟩ := Kd.S_slice ho1; have HYE := Aside0.mk (blk_below HYr.out hb); have y0 := (blk_cell HYE.out 0).trans (show (#[Value.slice none 0 0, Value.slice none 0 0] : Array Value)[0]? = some (Value.slice none 0 0) from rfl); have y1 := (blk_cell HYE.out 1).trans (show (#[Value.slice none 0 0, Value.slice none 0 0] : Array Value)[1]? = some (Value.slice none 0 0) from rfl); have hf0 := blk_frozen HYE.out 0; have hf1 := blk_frozen HYE.out 1; have HBE := Aside0.mk (below_step HB.out hb); have HO0 := Aside0.mk (Kd.R_bound ho0); have HO1 := Aside0.mk (Kd.S_bound ho1); have HYL := Aside0.mk (blk_lt HYr.out); clear ho0 ho1 hb))
      have hBA := below_set (j := 1) (v := .slice E1 r2.length d1) (below_set (j := 0) (v := .slice E0 r1.length d0) HBE.out (Nat.le_succ _)) (Nat.le_succ w.heap.size)
      refine bodyPost_ret (results_ct rfl _ _ (w.heap.size + 1) 27 #[.slice E0 r1.length d0, .slice E1 r2.length d1] (0, 0) _ rfl (blk_put (cs := #[.slice E0 r1.length d0, .slice none 0 0]) (blk_put HYE.out 0 _ rfl) 1 _ rfl) Try.underlying27 rfl (by kernel_rfl)) rfl ?_
      refine ⟨_, _, rfl, ?_, ?_, hBA⟩
      · exact Kd.R_mono (Kd.R_lower (Kd.R_far (p := ⟨w.heap.size + 1, 1, none⟩) (Kd.R_far (p := ⟨w.heap.size + 1, 0, none⟩) HO0.out (fun k hk => by have := hk.2.1; have := HYL.out; show k ≠ w.heap.size + 1; omega) _) (fun k hk => by have := hk.2.1; have := HYL.out; show k ≠ w.heap.size + 1; omega) _) HB.out.size) (fun _ _ => trivial)
      · exact Kd.S_mono (Kd.S_lower (Kd.S_far (p := ⟨w.heap.size + 1, 1, none⟩) (Kd.S_far (p := ⟨w.heap.size + 1, 0, none⟩) HO1.out (fun k hk => by have := hk.2.1; have := HYL.out; show k ≠ w.heap.size + 1; omega) _) (fun k hk => by have := hk.2.1; have := HYL.out; show k ≠ w.heap.size + 1; omega) _) HB.out.size) (fun k hk => hk.1)
end Go.Proofs.Ytcengijoicmldaa.Pr
