/- impl.related: the relation of tuples in any order, where it is good. Conditions: lengths that Go can make room for. -/
import Derived.Test.YtcengijoicmldaaPr0
import Derived.Test.YtcengijoicmldaaPr1
import Derived.Test.YtcengijoicmldaaMerge0
import Derived.Test.YtcengijoicmldaaMx2
import Derived.Test.YtcengijoicmldaaMx9
import Derived.Test.YtcengijoicmldaaECompact
import Derived.Test.YtcengijoicmldaaMx3
import Derived.Test.YtcengijoicmldaaWFoot
namespace Go.Proofs.Ytcengijoicmldaa.Pr
open Go.RowKit Go.Proofs.YtcengijoicmldaaW.PrintWords Go.Proofs.YtcengijoicmldaaW.PrintLast Go.Proofs.YtcengijoicmldaaW.PrintMore
set_option linter.unusedVariables false
set_option linter.unusedSimpArgs false
theorem apt_new {u v : Value} {n : Nat} (hu : ∀ k, u.ownBlock = some k → n ≤ k) (hv : ∀ k, v.ownBlock = some k → k < n) : ∀ k, u.ownBlock = some k → some k ≠ v.ownBlock := fun k h1 h2 => by
 have := hu k h1
 have := hv k h2.symm
 omega
theorem apt_sym {u v : Value} (h : ∀ k, u.ownBlock = some k → some k ≠ v.ownBlock) : ∀ k, v.ownBlock = some k → some k ≠ u.ownBlock := fun k h1 h2 => h k h2.symm h1.symm
theorem S_reok_nil {α : Type} {d : Kd α} {e base : Nat} {ok ok' : Nat → Prop} {W : World} {v : Value} {xs : List α} (hx : xs = []) (h : Kd.S d e W base ok v xs) (hok : ∀ k, v.ownBlock = some k → ok' k) : Kd.S d e W base ok' v xs := by
 subst hx
 obtain ⟨f, h0, inner, ho, hr⟩ := h
 exact ⟨f, hok, inner, ho, hr.1, fun j p hj => by simp at hj⟩
def relRoom (l0 : List Int) (l1 : List (List Int)) : Prop := l0.length * 8 ≤ 140737488355328 ∧ l1.length * 24 ≤ 140737488355328 ∧ ∀ t ∈ l1, t.length * 8 ≤ 140737488355328
instance (l0 : List Int) (l1 : List (List Int)) : Decidable (relRoom l0 l1) := by unfold relRoom; infer_instance
def impl_related.f (l0 : List Int) (l1 : List (List Int)) : Option (List Int × (List (List Int)) × Bool) :=
 if relRoom l0 l1 then some (if Ax.gr l0 (Ax.risen Ax.ltL l1) then (l0, Ax.risen Ax.ltL l1, true) else ([], [], false)) else none
theorem related_sorted {l l' : List (List Int)} (hp : l'.Perm l) (hs : l'.Pairwise (fun x y => ¬ Ax.cmpL y x < 0)) : Ax.cptN Sp.eqL (l'.getD 0 []) l' l'.length = Ax.risen Ax.ltL l :=
 Ax.risen_of_sorted Ax.ltL_ord hp (hs.imp (fun h => by simpa [Ax.ltL] using h)) Sp.eqL (fun _ _ => rfl)
set_option maxHeartbeats 8000000 in
set_option maxRecDepth 100000 in
theorem impl_related.calls (A0 : Option Addr) (c0 : Nat) (l0 : List Int) (A1 : Option Addr) (c1 : Nat) (l1 : List (List Int)) (r1 : List Int) (r2 : List (List Int)) (r3 : Bool) (w : World) (hr0 : Kd.C (Kd.int .i64) w A0 l0.length l0) (hc0 : l0.length ≤ c0) (hr1 : Kd.C (Kd.slice 3 (Kd.int .i64)) w A1 l1.length l1) (hc1 : l1.length ≤ c1) (h : impl_related.f l0 l1 = some (r1, r2, r3)) :
  Calls Try.prog 34 #[.slice A0 l0.length c0, .slice A1 l1.length c1] w fun e w' => ∃ v0_ v1_ : Value, e = .returned (.tuple #[.agg #[v0_, v1_], .bool r3]) ∧ Kd.R (Kd.int .i64) 3 w' w.heap.size (fun _ => True) v0_ r1 ∧ Kd.S (Kd.slice 3 (Kd.int .i64)) 24 w' w.heap.size (fun k_ => some k_ ≠ (v0_ : Value).ownBlock) v1_ r2 ∧ Below w.heap.size w w' := by
 unfold impl_related.f at h
 by_cases hb : relRoom l0 l1
 ·rw [if_pos hb] at h
  replace h := Option.some.inj h
  obtain ⟨hb0, hb1, hb2⟩ := hb
  have hrr : ∀ z, z ∈ Ax.risen Ax.ltL l1 → z ∈ l1 := fun z hz => (Ax.mem_risen z l1).1 hz
  have hrl := Ax.risen_length (lt := Ax.ltL) l1
  have hP : ∀ l' : List (List Int), l'.Perm l1 → l'.Pairwise (fun x y => ¬ Ax.cmpL y x < 0) → Ax.cptN Sp.eqL (l'.getD 0 []) l' l'.length = Ax.risen Ax.ltL l1 := fun l' => related_sorted
  generalize Ax.risen Ax.ltL l1 = rr at h hrr hrl hP
  have HPP := Aside0.mk hP
  have HRL := Aside0.mk (And.intro hrl hrr)
  clear hP hrl hrr
  have hcl := fun (W : World) (A : Option Addr) (c : Nat) (l : List Int) (hW : Kd.C (Kd.int .i64) W A l.length l) (hc : l.length ≤ c) (hl : l.length * 8 ≤ 140737488355328) => slices_Clone_int_int.calls A c l l W hW hc (by unfold slices_Clone_int_int.f; rw [if_pos hl])
  have HR0 := Aside0.mk hr0
  have HR1 := Aside0.mk hr1
  have HC1 := Aside0.mk hc1
  have HC0 := Aside0.mk hc0
  have HCL := Aside0.mk hcl
  have H := Aside0.mk h
  have HB0 := Aside0.mk hb0
  have HB1 := Aside0.mk hb1
  have HB2 := Aside0.mk hb2
  clear hr0 hr1 hc1 hc0 hcl h hb0 hb1 hb2
  go_enter Try.func34, Try.ntmps34
  go_wp2_with (first | (go_at_call 48; refine (HCL.out _ A0 c0 l0 (Kd.C_alloc HR0.out _) HC0.out HB0.out).mono ?_; rintro e w1 ⟨v0, rfl, ho, hb'⟩; obtain ⟨E0, d0, rfl⟩ := Kd.R_slice ho; have HO := Aside0.mk ho; have HBN := Aside0.mk hb'; have HBW := Aside0.mk (below_step (below_alloc (Below.refl _ _) _) hb'); clear ho hb'))
  go_loopg [8, 14] (l1.length + 1) (fun gg v8 v14 wr => ∃ (j : Nat) (AT : Option Addr) (cT : Nat), v14 = .int .i64 j ∧ Aside0 (j ≤ l1.length) ∧ Aside0 (l1.length + 1 - j ≤ gg) ∧ Aside0 (wr.heap[w1.heap.size]? = some (.cells #[.slice E0 l0.length d0, .slice AT j cT] 27 (0, 0))) ∧ Aside0 (Below w1.heap.size w1 wr) ∧
   Aside0 (Kd.S (Kd.slice 3 (Kd.int .i64)) 24 wr w1.heap.size (fun k => k ≠ w1.heap.size) (.slice AT j cT) (l1.take j)))
  case atStart => exact ⟨0, none, 0, rfl, ⟨Nat.zero_le _⟩, ⟨by omega⟩, ⟨blk_new w1 _⟩, ⟨below_alloc (Below.refl _ _) _⟩, ⟨by rw [List.take_zero]; exact Kd.S_nil _ _ _ _ _⟩⟩
  case round =>
   obtain ⟨j, AT, cT, rfl, HJ, HG, HX, HB, HS⟩ := hrel
   by_cases hlt : j < l1.length
   ·have h1 : (j : Int) < (l1.length : Int) := by omega
    have hN := HR1.out.2.1
    have HWJ := Aside0.mk (Pl.wrap_succ (show j < 9223372036854775807 by omega))
    have hwr := below_step HBW.out HB.out
    obtain ⟨ad, A9, c9, e9, hx9, hl9, hi9⟩ := at_L1 (Kd.C_below HR1.out hwr) (j : Int) (by omega) h1
    cases e9
    simp only [Int.toNat_natCast] at hx9
    have hm9 : rd_L1 l1 (j : Int) ∈ l1 := by
     simp only [rd_L1, Int.toNat_natCast, List.getD_eq_getElem?_getD, List.getElem?_eq_getElem hlt, Option.getD_some]
     exact List.getElem_mem hlt
    have hb9 := HB2.out _ hm9
    have htk : l1.take (j + 1) = l1.take j ++ [rd_L1 l1 (j : Int)] := by
     rw [List.take_add_one, List.getElem?_eq_getElem hlt]
     simp [rd_L1, List.getD_eq_getElem?_getD, List.getElem?_eq_getElem hlt]
    generalize rd_L1 l1 (j : Int) = t at hx9 hl9 hi9 hb9 htk
    have HT := Aside0.mk htk
    have HI9 := Aside0.mk hi9
    have HL9 := Aside0.mk hl9
    have HB9 := Aside0.mk hb9
    have HWR := Aside0.mk hwr
    have HLT := Aside0.mk hlt
    clear hwr htk hm9 hi9 hl9 hb9 hN hlt
    go_wp2
    have hc1 : wr.cell? ⟨w1.heap.size, 1, none⟩ = some (.slice AT j cT) := (blk_cell HX.out 1).trans rfl
    refine Bx.start_any (n := 8) (S := fun w_ => w_.cell? ⟨w1.heap.size, 1, none⟩ = some (.slice AT j cT)) (ds := [7]) #[false, false, false, false, false, false, false, false] (by kernel_rfl) rfl rfl (by exact hc1) (fun w2 hb hHeld => ?_)
    have hX2 := blk_below HX.out hb
    have hB2 := below_then HB.out HB.out.size hb
    have hS2 := Kd.S_bound (Kd.S_below HS.out hb)
    have hC2 := Kd.C_below HI9.out hb
    have HX2 := Aside0.mk hX2
    have HB2' := Aside0.mk hB2
    have HS2 := Aside0.mk hS2
    have HC2 := Aside0.mk hC2
    clear hX2 hB2 hS2 hC2 HX HB HS HI9 HWR hc1 hx9 hb
    refine pure_ (i := 0) (N := some 18) (v := ?_) (a' := ?_) #[true, false, false, false, false, false, false, false] rfl rfl (by kernel_rfl) (fun _ _ _ h => h) (Or.inl ⟨by rfl, ?_⟩) ?_ ?_
    rotate_left
    ·intro w'
     go_simp
     with_reducible rfl
    rotate_left
    ·simp only [Act.put, List.setIfInBounds_toArray, List.set_cons_zero, List.set_cons_succ, i64_w, i32_w]
     rfl
    refine take_ (i := 1) (N := some 19) (v := ?_) (a' := ?_) #[true, true, false, false, false, false, false, false] rfl rfl (by kernel_rfl) (fun _ _ _ h => h) (Or.inl ⟨by rfl, ?_⟩) hHeld ?_ ?_
    rotate_left
    ·rintro w' s0_
     go_simp
     with_reducible rfl
    rotate_left
    ·simp only [Act.put, List.setIfInBounds_toArray, List.set_cons_zero, List.set_cons_succ, i64_w, i32_w]
     rfl
    refine pure_ (i := 2) (N := some 20) (v := ?_) (a' := ?_) #[true, true, true, false, false, false, false, false] rfl rfl (by kernel_rfl) (fun _ _ _ h => h) (Or.inl ⟨by rfl, ?_⟩) ?_ ?_
    rotate_left
    ·intro w'
     go_simp
     with_reducible rfl
    rotate_left
    ·simp only [Act.put, List.setIfInBounds_toArray, List.set_cons_zero, List.set_cons_succ, i64_w, i32_w]
     rfl
    refine one_ (i := 3) (N := some 21) #[true, true, true, true, false, false, false, false] rfl rfl (by kernel_rfl) (by decide) (fun K hK => ?_)
    refine goes_ Try.func48 (by kernel_rfl) rfl #[.slice A9 t.length c9] (by rfl) rfl rfl (by (try simp only [List.map_toArray, List.map_cons, List.map_nil]); first | done | rfl) ?_
    refine (HCL.out w2 A9 c9 t HC2.out HL9.out HB9.out).mono ?_
    rintro e w3 ⟨v3, rfl, ho3, hb3⟩
    refine ⟨_, rfl, ?_⟩
    obtain ⟨A3, c3, rfl⟩ := Kd.R_slice ho3
    have hX3 := blk_below HX2.out hb3
    refine hK.out _ _ ((blk_cell hX3 1).trans rfl) (fun hHeld => ?_)
    have hbs : w1.heap.size ≤ w2.heap.size := HB2'.out.size
    have hX3' := blk_alloc hX3 (.cells #[.slice A3 t.length c3] 24)
    have hB3 := below_then HB2'.out HB2'.out.size hb3
    have hS3 := Kd.S_below HS2.out hb3
    have HX3 := Aside0.mk hX3
    have HB3 := Aside0.mk hB3
    have HS3 := Aside0.mk hS3
    have HO3 := Aside0.mk ho3
    have HBS := Aside0.mk (And.intro hbs hb3.size)
    clear hb3 ho3 hS3 hB3 hX3 hbs HB2' HS2
    refine one_ (i := 4) (N := some 22) #[true, true, true, true, true, false, false, false] rfl rfl (by kernel_rfl) (by decide) (fun K hK => ?_)
    refine value_ (w1 := w3.alloc (.cells #[.slice A3 t.length c3] 24)) (v := .slice (some ⟨w3.heap.size, 0, none⟩) 1 1) (by rfl) rfl ?_ ?_
    ·go_simp
    refine hK.out _ _ ((blk_cell hX3' 1).trans rfl) (fun hHeld => ?_)
    refine one_ (i := 5) (N := some 23) #[true, true, true, true, true, true, false, false] rfl rfl (by kernel_rfl) (by decide) (fun K hK => ?_)
    refine Kd.S_append_step (Kd.slice 3 (Kd.int .i64)) (w0 := w1) w1.heap.size (by rfl) (.tmp 19) (.tmp 22) 25 24 (.slice none 0 0) 24 rfl Try.underlying25 info24 rfl (by decide) (by decide) (.slice AT j cT) (l1.take j) t [.slice A3 t.length c3] (fun k => k ≠ w1.heap.size) (fun k => w2.heap.size ≤ k) rfl rfl ?hp ?hokp ?hfresh ?HO ?HB ?hbase ?hl ?_
    case hp => exact ⟨_, rfl, Kd.R_lower (Kd.R_mono (Kd.R_bound HO3.out) (fun k hk => hk.2.1)) HBS.out.1⟩
    case hokp => exact fun k hk => ⟨by have := blk_lt HX2.out; omega, fun he => by have := (Kd.S_R HS3.out).1 k he.symm; have := this.2.2.1; omega⟩
    case hfresh => exact fun k hk => by have := blk_lt HX3.out; omega
    case HO => exact Kd.S_mono HS3.out (fun k hk => ⟨hk.1, by have := hk.2.2.1; omega⟩)
    case HB => exact HB3.out
    case hbase => exact Nat.le_of_lt (blk_lt HX3.out)
    case hl => rw [List.length_take]; have := HB1.out; have := HLT.out; omega
    intro v4 w4 hS4 hB4 hg4 hat4
    obtain ⟨A4, c4, rfl⟩ := Kd.S_slice hS4
    have hne : some w1.heap.size ≠ (Value.slice AT j cT).ownBlock := Kd.S_away HS3.out (fun k hk => hk.1)
    have hX4 := blk_grown HX3.out hg4 hne
    have hl4 : (l1.take j ++ [t]).length = j + 1 := by rw [List.length_append, List.length_take]; have := HLT.out; simp; omega
    rw [hl4] at hS4
    rw [hl4]
    have hX5 := blk_put hX4 1 (.slice A4 (j + 1) c4) rfl
    have hS5 := Kd.S_far (p := ⟨w1.heap.size, 1, none⟩) hS4 (fun k hk => hk) (.slice A4 (j + 1) c4)
    have hB5 := hB4.setCell (p := ⟨w1.heap.size, 1, none⟩) (Nat.le_refl _) (.slice A4 (j + 1) c4)
    have hc4 : w4.cell? ⟨w1.heap.size, 1, none⟩ = some (.slice AT j cT) := (blk_cell hX4 1).trans rfl
    have hf4 := blk_frozen hX4 1
    have HX5 := Aside0.mk hX5
    have HS5 := Aside0.mk hS5
    have HB5 := Aside0.mk hB5
    clear hX5 hS5 hB5 hX4 hl4 hne hS4 hB4 hg4 hat4 hX3'
    refine hK.out _ _ hc4 (fun hHeld => ?_)
    change wpAnyLast _ _ _ _ _ _ _ _ (Act.put _ (some 23) _) _
    refine norm_ (a' := ?_) ?_ ?_
    rotate_left
    ·simp only [Act.put, List.setIfInBounds_toArray, List.set_cons_zero, List.set_cons_succ, i64_w, i32_w]
     rfl
    refine pure_ (i := 6) (N := some 24) (v := ?_) (a' := ?_) #[true, true, true, true, true, true, true, false] rfl rfl (by kernel_rfl) (fun _ _ _ h => h) (Or.inl ⟨by rfl, ?_⟩) ?_ ?_
    rotate_left
    ·intro w'
     go_simp
     with_reducible rfl
    rotate_left
    ·simp only [Act.put, List.setIfInBounds_toArray, List.set_cons_zero, List.set_cons_succ, i64_w, i32_w]
     rfl
    refine last_ (i := 7) (N := none) #[true, true, true, true, true, true, true, true] rfl rfl (by kernel_rfl) (by decide) (fun K hK => ?_)
    refine skip_ (w1 := w4.setCell ⟨w1.heap.size, 1, none⟩ (.slice A4 (j + 1) c4)) (by rfl) rfl ?_ ?_
    ·go_simp
    refine hK.out _ _ (done_ (by kernel_rfl) ?_)
    generalize w4.setCell ⟨w1.heap.size, 1, none⟩ (.slice A4 (j + 1) c4) = w5 at HX5 HS5 HB5
    clear hc4 hf4 hHeld
    go_wp2
    go_roundg (l1.length - j)
    case measure => have := HG.out; have := HLT.out; omega
    case rel => exact ⟨j + 1, A4, c4, by rw [HWJ.out], ⟨HLT.out⟩, ⟨by omega⟩, HX5, HB5, ⟨by rw [HT.out]; exact HS5.out⟩⟩
   ·have h1 : ¬ (j : Int) < (l1.length : Int) := by omega
    have hj : j = l1.length := by have := HJ.out; omega
    have htk : l1.take j = l1 := by rw [hj, List.take_length]
    have hS := HS.out
    rw [htk] at hS
    have HS := Aside0.mk hS
    have HJJ := Aside0.mk hj
    clear hj htk hlt hS
    have hc0 : wr.cell? ⟨w1.heap.size, 0, none⟩ = some (.slice E0 l0.length d0) := (blk_cell HX.out 0).trans rfl
    have hc1 : wr.cell? ⟨w1.heap.size, 1, none⟩ = some (.slice AT j cT) := (blk_cell HX.out 1).trans rfl
    have hsort := Sp.SortRows w1.heap.size _ wr _ l1 HS.out (by have := HB1.out; omega) Ax.cmpL (fun x y hx hy => Ev.rounds (Ax.cmpL_ev x y hx hy)) (fun n r => Ax.cmpL_swo r)
    go_wp2_with (first | (go_at_call 64; refine hsort.mono ?_; clear hsort hc0 hc1; rintro e w6 ⟨rfl, l', hp, hs, hS6, hg6⟩; have hX6 := blk_grown HX.out hg6 (Kd.S_away HS.out (fun k hk => hk)); have hB6 := HB.out.grown hg6 HB.out.size (fun k hk => Kd.S_base HS.out k hk); have hc1 : w6.cell? ⟨w1.heap.size, 1, none⟩ = some (.slice AT j cT) := (blk_cell hX6 1).trans rfl; have hc0 : w6.cell? ⟨w1.heap.size, 0, none⟩ = some (.slice E0 l0.length d0) := (blk_cell hX6 0).trans rfl; have hcomp := Sp.Compact w1.heap.size _ w6 _ l' hS6 (fun x y hx _ => Ev.rounds (Ax.equal_ev' x y hx)); have HX6 := Aside0.mk hX6; have HB6 := Aside0.mk hB6; have HS6 := Aside0.mk hS6; have HP := Aside0.mk (HPP.out l' hp hs); clear hX6 hB6 hS6 hp hs hg6))
    go_wp2_with (first | (go_at_call 65; refine hcomp.mono ?_; clear hcomp hc1 hc0; rintro e w7 ⟨v7, rfl, hS7, hg7⟩; rw [HP.out] at hS7; obtain ⟨A7, c7, rfl⟩ := Kd.S_slice hS7; have hX7 := blk_grown HX6.out hg7 (Kd.S_away HS6.out (fun k hk => hk)); have hB7 := HB6.out.grown hg7 HB6.out.size (fun k hk => Kd.S_base HS6.out k hk); have hc1 : w7.cell? ⟨w1.heap.size, 1, none⟩ = some (.slice AT j cT) := (blk_cell hX7 1).trans rfl; have hf1 := blk_frozen hX7 1; have hX8 := blk_put hX7 1 (.slice A7 rr.length c7) rfl; have hS8 := Kd.S_far (p := ⟨w1.heap.size, 1, none⟩) hS7 (fun k hk => hk) (.slice A7 rr.length c7); have hB8 := hB7.setCell (p := ⟨w1.heap.size, 1, none⟩) (Nat.le_refl _) (.slice A7 rr.length c7); have HX8 := Aside0.mk hX8; have HB8 := Aside0.mk hB8; have HS8 := Aside0.mk hS8; have hd0 : (w7.setCell ⟨w1.heap.size, 1, none⟩ (.slice A7 rr.length c7)).cell? ⟨w1.heap.size, 0, none⟩ = some (.slice E0 l0.length d0) := (blk_cell hX8 0).trans rfl; have hd1 : (w7.setCell ⟨w1.heap.size, 1, none⟩ (.slice A7 rr.length c7)).cell? ⟨w1.heap.size, 1, none⟩ = some (.slice A7 rr.length c7) := (blk_cell hX8 1).trans rfl; clear hX7 hB7 hS7 hg7 hX8 hS8 hB8))
    have hlr : rr.length ≤ l1.length := HRL.out.1
    obtain ⟨kg, hkg⟩ := Ev.rounds (Ax.iGR_ev l0 rr (Ax.LnS_of (by have := HB0.out; omega)) ⟨by have := HB1.out; omega, fun e he => Ax.LnS_of (by have := HB2.out e (HRL.out.2 e he); omega)⟩)
    clear hd0 hd1 hc1 hf1
    generalize w7.setCell ⟨w1.heap.size, 1, none⟩ (.slice A7 rr.length c7) = w8 at HX8 HB8 HS8 ⊢
    have hgood := fun (b : Bool) (hb : impl_GoodRelation.f kg l0 rr = some b) => impl_GoodRelation.calls kg E0 d0 l0 A7 c7 rr b w8 (Kd.C_below (Kd.R_reads' HO.out).2.2 HB8.out) (Kd.R_reads' HO.out).2.1 (Kd.S_reads' HS8.out).2.2 (Kd.S_reads' HS8.out).2.1 hb
    have hb4 : w1.heap[w.heap.size]? = some (.cells #[.slice none 0 0, .slice none 0 0] 27 (0, 0)) := blk_below (blk_new w _) HBN.out
    have hl4 := blk_lt hb4
    have HL4 := Aside0.mk hl4
    have hb8 : w8.heap[w.heap.size]? = some (.cells #[.slice none 0 0, .slice none 0 0] 27 (0, 0)) := (HB8.out.block _ hl4).trans hb4
    have HG8 := Aside0.mk hb8
    cases hg : Ax.gr l0 rr with
    | true =>
     rw [hg] at hkg
     have hgd := hgood true hkg
     have hh := H.out
     rw [hg, if_pos rfl] at hh
     obtain ⟨rfl, rfl, rfl⟩ : l0 = r1 ∧ rr = r2 ∧ true = r3 := by simpa using hh
     clear hg hkg hh H hgood hb8 hl4 hb4 hlr
     refine hgd.mono ?_
     rintro e w9 ⟨rfl, hb9⟩
     have hX9 := blk_below HX8.out hb9
     have hG9 := blk_below HG8.out hb9
     have hc0 : w9.cell? ⟨w1.heap.size, 0, none⟩ = some (.slice E0 l0.length d0) := (blk_cell hX9 0).trans rfl
     have hc1 : w9.cell? ⟨w1.heap.size, 1, none⟩ = some (.slice A7 rr.length c7) := (blk_cell hX9 1).trans rfl
     have hg0 : w9.cell? ⟨w.heap.size, 0, none⟩ = some (.slice none 0 0) := (blk_cell hG9 0).trans rfl
     have hg1 : w9.cell? ⟨w.heap.size, 1, none⟩ = some (.slice none 0 0) := (blk_cell hG9 1).trans rfl
     have hf0 := blk_frozen hG9 0
     have hf1 := blk_frozen hG9 1
     have HX9 := Aside0.mk hX9
     have HG9 := Aside0.mk hG9
     have HB9 := Aside0.mk hb9
     clear hX9 hG9 hb9 hgd
     go_wp2
     have hR9 := Kd.R_bound (Kd.R_below (Kd.R_below HO.out HB8.out) HB9.out)
     have hS9 := Kd.S_bound (Kd.S_below HS8.out HB9.out)
     have hsz : (w.alloc (.cells #[.slice none 0 0, .slice none 0 0] 27)).heap.size = w.heap.size + 1 := boxed_size _ _
     have hBA := below_set (j := 1) (v := .slice A7 rr.length c7) (below_set (j := 0) (v := .slice E0 l0.length d0) (below_step (below_step HBW.out HB8.out) HB9.out) (Nat.le_refl _)) (Nat.le_refl _)
     refine bodyPost_ret (results_ct rfl _ _ w.heap.size 27 #[.slice E0 l0.length d0, .slice A7 rr.length c7] (0, 0) _ rfl (blk_put (cs := #[.slice E0 l0.length d0, .slice none 0 0]) (blk_put HG9.out 0 _ rfl) 1 _ rfl) Try.underlying27 rfl (by kernel_rfl)) rfl ?_
     refine ⟨_, _, rfl, ?_, ?_, hBA⟩
     ·exact Kd.R_mono (Kd.R_lower (Kd.R_far (p := ⟨w.heap.size, 1, none⟩) (Kd.R_far (p := ⟨w.heap.size, 0, none⟩) hR9 (fun k hk => by have := hk.2.1; show k ≠ w.heap.size; omega) _) (fun k hk => by have := hk.2.1; show k ≠ w.heap.size; omega) _) (by omega)) (fun _ _ => trivial)
     ·exact Kd.S_mono (Kd.S_lower (Kd.S_far (p := ⟨w.heap.size, 1, none⟩) (Kd.S_far (p := ⟨w.heap.size, 0, none⟩) hS9 (fun k hk => by have := hk.2.1; have := HL4.out; show k ≠ w.heap.size; omega) _) (fun k hk => by have := hk.2.1; have := HL4.out; show k ≠ w.heap.size; omega) _) (Nat.le_of_lt HL4.out)) (fun k hk he => by have := hk.2.1; have := Kd.R_lt HO.out k he.symm; omega)
    | false =>
     rw [hg] at hkg
     have hgd := hgood false hkg
     have hh := H.out
     rw [hg, if_neg (by decide)] at hh
     obtain ⟨rfl, rfl, rfl⟩ : [] = r1 ∧ [] = r2 ∧ false = r3 := by simpa using hh
     clear hg hkg hh H hgood hb8 hl4 hb4 hlr
     refine hgd.mono ?_
     rintro e w9 ⟨rfl, hb9⟩
     have hG9 := blk_below HG8.out hb9
     have hg0 : w9.cell? ⟨w.heap.size, 0, none⟩ = some (.slice none 0 0) := (blk_cell hG9 0).trans rfl
     have hg1 : w9.cell? ⟨w.heap.size, 1, none⟩ = some (.slice none 0 0) := (blk_cell hG9 1).trans rfl
     have hf0 := blk_frozen hG9 0
     have hf1 := blk_frozen hG9 1
     have HG9 := Aside0.mk hG9
     have HB9 := Aside0.mk hb9
     clear hG9 hb9 hgd
     go_wp2
     have hBA := below_set (j := 1) (v := .slice none 0 0) (below_set (j := 0) (v := .slice none 0 0) (below_step (below_step HBW.out HB8.out) HB9.out) (Nat.le_refl _)) (Nat.le_refl _)
     refine bodyPost_ret (results_ct rfl _ _ w.heap.size 27 #[.slice none 0 0, .slice none 0 0] (0, 0) _ rfl (blk_put (cs := #[.slice none 0 0, .slice none 0 0]) (blk_put HG9.out 0 _ rfl) 1 _ rfl) Try.underlying27 rfl (by kernel_rfl)) rfl ?_
     exact ⟨_, _, rfl, Kd.R_nil _ _ _ _ _, Kd.S_nil _ _ _ _ _, hBA⟩
 ·rw [if_neg hb] at h
  cases h
end Go.Proofs.Ytcengijoicmldaa.Pr
