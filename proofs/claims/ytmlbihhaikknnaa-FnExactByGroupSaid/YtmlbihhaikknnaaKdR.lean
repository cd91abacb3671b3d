/- A row of places into a given table, known by the cells of its rows: the kind; slices.Clone, slices.IndexFunc and slices.DeleteFunc over it (the last two lean on the predicate's own contract). Condition: a length that Go can make room for. -/
import Derived.Test.YtmlbihhaikknnaaPr0
import Derived.Test.YtmlbihhaikknnaaMx5
import Derived.Test.YtmlbihhaikknnaaMx3
import Derived.Test.YtmlbihhaikknnaaMx6
import Derived.Test.YtmlbihhaikknnaaFd
import Derived.Lib.LazyBuf
import Derived.Lib.BufferMore
namespace Go.Proofs.Ytmlbihhaikknnaa.Pr
open Go.RowKit Go.Proofs.Ytmlbihhaikknnaa Go.Proofs.YtmlbihhaikknnaaW.PrintWords Go.Proofs.YtmlbihhaikknnaaW.PrintLast Go.Proofs.YtmlbihhaikknnaaW.PrintMore
set_option linter.unusedVariables false
set_option linter.unusedSimpArgs false
def kI (cf : Nat → List Value) : Kd Nat where
  sz := 2
  E := []
  K := fun _ j cs => cs = cf j ∧ cs.length = 2 ∧ ∀ u ∈ cs, u.oneCell' = true
  M := fun _ _ _ j cs => cs = cf j ∧ cs.length = 2 ∧ ∀ u ∈ cs, u.oneCell' = true
  K_len := fun h => h.2.1
  K_one := fun h => h.2.2
  K_below := fun _ h => h
  K_of_M := fun h => h
  M_mono := fun _ h => h
  M_bound := fun h => h
  M_move := fun _ h => h
  M_lower := fun _ h => h
theorem kI_of {w : World} {A : Option Addr} {l : List S53} (h : k53.C w A l.length l) : ∃ cf : Nat → List Value, (∀ j, j < l.length → k53.K w (l.getD j z53) (cf j)) ∧ (kI cf).C w A (List.range l.length).length (List.range l.length) := by
  rcases Nat.eq_zero_or_pos l.length with h0 | h0
  · refine ⟨fun _ => [], fun j hj => by omega, ?_⟩
    rw [h0]
    exact ⟨rfl, by simp, fun h => by simp at h⟩
  · obtain ⟨ad, e, hc⟩ := h.2.2 h0
    have hall : ∀ j, ∃ c : List Value, j < l.length → c.length = k53.sz ∧ k53.K w (l.getD j z53) c ∧ ∀ i u, c[i]? = some u → w.cell? (ad.add (j * k53.sz + i)) = some u := fun j => by
      by_cases hj : j < l.length
      · obtain ⟨c, h1, h2, h3⟩ := hc j _ (List.getElem?_eq_getElem hj)
        refine ⟨c, fun _ => ⟨h1, ?_, h3⟩⟩
        rw [List.getD_eq_getElem?_getD, List.getElem?_eq_getElem hj]
        exact h2
      · exact ⟨[], fun h => absurd h hj⟩
    refine ⟨fun j => Classical.choose (hall j), fun j hj => (Classical.choose_spec (hall j) hj).2.1, rfl, by rw [List.length_range]; exact h.2.1, fun _ => ⟨ad, e, fun j p hj => ?_⟩⟩
    obtain ⟨hl, hp⟩ := List.getElem?_eq_some_iff.1 hj
    rw [List.getElem_range] at hp
    subst hp
    rw [List.length_range] at hl
    obtain ⟨h1, h2, h3⟩ := Classical.choose_spec (hall j) hl
    exact ⟨_, h1, ⟨rfl, h1, k53.K_one h2⟩, h3⟩
theorem C_of_kI {cf : Nat → List Value} {W : World} {A : Option Addr} {n : Nat} {js : List Nat} {l : List S53} (h : (kI cf).C W A n js) (hK : ∀ j ∈ js, k53.K W (l.getD j z53) (cf j)) : k53.C W A n (js.map fun j => l.getD j z53) := by
  refine ⟨by rw [List.length_map]; exact h.1, h.2.1, fun hn => ?_⟩
  obtain ⟨ad, e, hc⟩ := h.2.2 hn
  refine ⟨ad, e, fun j p hj => ?_⟩
  rw [List.getElem?_map] at hj
  obtain ⟨q, hq, rfl⟩ := Option.map_eq_some_iff.1 hj
  obtain ⟨c, h1, h2, h3⟩ := hc j q hq
  exact ⟨c, h1, h2.1 ▸ hK q (List.mem_of_getElem? hq), h3⟩
theorem R_room {α : Type} {d : Kd α} {e base g n cap : Nat} {ok : Nat → Prop} {W : World} {xs : List α} (h : d.R e W base ok (.slice (some ⟨g, 0, none⟩) n cap) xs) (m : Nat) (hm : m < cap * d.sz) : (W.cell? ⟨g, m, none⟩).isSome = true ∧ W.frozen? ⟨g, m, none⟩ = false := by
  obtain ⟨_, inner, ho, hr⟩ := h
  obtain ⟨ho1, ho2⟩ := ho
  rcases ho2 with ⟨hv, _⟩ | ⟨g', cap', cur, hv, hb, hh, hnc', hcm, hcs, ht⟩
  · cases hv
  injection hv with ha _ hc
  injection ha with ha
  injection ha with hg
  subst hg; subst hc
  refine ⟨?_, blk_frozen hh m⟩
  rw [blk_cell hh m, Array.getElem?_eq_getElem (by omega)]
  rfl
set_option maxHeartbeats 1000000 in
set_option maxRecDepth 100000 in
theorem cloneI (cf : Nat → List Value) (A0 : Option Addr) (c0 : Nat) (l0 : List Nat) (w : World) (hr0 : (kI cf).C w A0 l0.length l0) (hc0 : l0.length ≤ c0) (hb : l0.length * 32 ≤ 140737488355328) :
    Calls Try.prog 36 #[.slice A0 l0.length c0] w fun e w' => ∃ v0_ : Value, e = .returned (v0_) ∧ (kI cf).R 53 w' w.heap.size (fun _ => True) v0_ l0 ∧ Below w.heap.size w w' := by
  have hnil := fun (W : World) => run_eql_slice_nil (P := Try.prog) W 33 53 A0 l0.length c0 Try.underlying33
  cases A0 with
  | none =>
    have h0 : l0 = [] := by
      rcases Nat.eq_zero_or_pos l0.length with h0 | h0
      · exact List.eq_nil_of_length_eq_zero h0
      · obtain ⟨ad, e1, _⟩ := hr0.2.2 h0
        cases e1
    subst h0
    have hnil2 := fun (W : World) => Lib.run_eql_slice_nil_nil (P := Try.prog) W 0 c0 Try.underlying33
    clear hb hr0 hc0 hnil
    go_enter Try.func36, Try.ntmps36
    go_wp2
    go_ret
    exact ⟨_, rfl, Kd.R_nil _ _ _ _ _, Below.refl _ _⟩
  | some ad =>
    have HR := Aside0.mk hr0
    have HL := Aside0.mk hb
    have HB := Aside0.mk (Below.refl w.heap.size w)
    clear hr0 hb
    go_enter Try.func36, Try.ntmps36
    go_wp2_with (first | ((with_reducible refine gate_dst (N := 5) rfl ?_); refine Kd.R_lit (kI cf) _ 53 ?hg (N := 5) ?hd (xs := ([] : List Nat)) (inner := []) (ok := fun _ => True) (okp := fun _ => True) ?hr ?hp (fun _ hk => hk) trivial (Below.refl _ _) (Nat.le_refl _) (by simp) ?_; (case hd => rfl); (case hg => rfl); (case hr => first | (go_simp; done) | (go_simp; rfl)); (case hp => exact (Reps.none _ _)); intro v5 w5 ho5 hb5 hg_ hnew_; clear hg_ hnew_; have HO := Aside0.mk ho5; have HB5 := Aside0.mk hb5; clear ho5 hb5 HB) | ((with_reducible refine gate_builtin (b := .append) (xs := #[.tmp 5, .tmp 6]) rfl ?_); at_builtin; refine Kd.R_append_rows (kI cf) (w0 := w) w.heap.size rfl (.tmp 5) (.tmp 6) 33 53 (.agg #[(.int .i64 0), (.slice none 0 0)]) 32 rfl Try.underlying33 info53 rfl (show 0 < 2 by decide) (by omega) v5 [] l0 _ _ _ (fun _ => True) (fun _ => False) rfl rfl ?aO ?aR (fun _ _ h => h) (fun _ h => h.elim) (fun _ _ => trivial) ?aB ?aS ?aL ?_; (case aR => exact Kd.C_below HR.out HB5.out); (case aB => exact HB5.out); (case aO => exact HO.out); (case aS => exact HB5.out.size); (case aL => have := HL.out; simpa using this); intro v6 w6 ho hb6 hg6 hat6; have HO6 := Aside0.mk ho; have HB6 := Aside0.mk hb6; clear ho hb6 hg6 hat6 HO HB5))
    go_ret
    exact ⟨_, rfl, by simpa using HO6.out, HB6.out⟩
def ca (cf : Nat → List Value) (j : Nat) : Value := (cf j).getD 0 undef
def cb (cf : Nat → List Value) (j : Nat) : Value := (cf j).getD 1 undef
theorem kI_cells {cf : Nat → List Value} {j : Nat} {cs : List Value} (h : cs = cf j ∧ cs.length = 2 ∧ ∀ u ∈ cs, u.oneCell' = true) : cs = [ca cf j, cb cf j] := by
  obtain ⟨h1, h2, _⟩ := h
  subst h1
  unfold ca cb
  generalize cf j = cs at h2
  match cs, h2 with
  | [x, y], _ => rfl
theorem at_I {cf : Nat → List Value} {w : World} {A : Option Addr} {n : Nat} {js : List Nat} (h : (kI cf).C w A n js) (i : Int) (h0 : 0 ≤ i) (h1 : i < n) :
    ∃ ad, A = some ad ∧ w.cell? (ad.add (i.toNat * 2)) = some (ca cf (js.getD i.toNat 0)) ∧ w.cell? ⟨(ad.add (i.toNat * 2)).block, (ad.add (i.toNat * 2)).off + 1, none⟩ = some (cb cf (js.getD i.toNat 0)) := by
  obtain ⟨ad, c, e, _, hK, hc0⟩ := Kd.C_get h 0 i h0 h1
  have hc : ∀ j u, c[j]? = some u → w.cell? (ad.add (i.toNat * 2 + j)) = some u := hc0
  have hK2 := kI_cells hK
  subst hK2
  exact ⟨ad, e, hc 0 _ rfl, by rw [← add_field _ _ 1 (by omega)]; exact hc 1 _ rfl⟩
theorem rdI_get {l : List Nat} {kk : Nat} (h : kk < l.length) : l[kk]? = some (l.getD (kk : Int).toNat 0) := by
  simp [List.getD_eq_getElem?_getD, List.getElem?_eq_getElem h]
set_option maxHeartbeats 1000000 in
set_option maxRecDepth 100000 in
theorem IdxI (g : Nat) (lb : Array Value) (eg : ∀ args w, (callFunc g args).run Try.prog w = .ok (.enter g args) w) (cf : Nat → List Value) (p : Nat → Bool) (A : Option Addr) (c : Nat) (l : List Nat) (w : World) (hr : (kI cf).C w A l.length l)
    (hp : ∀ (W : World) (x : Nat), x ∈ l → Below w.heap.size w W → Calls Try.prog g (#[.agg #[ca cf x, cb cf x]] ++ lb) W fun e w' => e = .returned (.bool (p x)) ∧ Below W.heap.size W w') :
    Calls Try.prog 50 #[.slice A l.length c, .func (.func g) #[] lb] w (IdxPost p l w) := by
  have HR := Aside0.mk hr
  have HP := Aside0.mk hp
  have HN := Aside0.mk hr.2.1
  clear hr hp
  go_enter Try.func50, Try.ntmps50
  go_wp2
  go_loopg [8] (l.length + 1) (fun gg v8 wr => ∃ kk : Nat, v8 = .int .i64 kk ∧ Aside0 (kk ≤ l.length) ∧ Aside0 (l.length + 1 - kk ≤ gg) ∧ Aside0 (∀ y ∈ l.take kk, p y = false) ∧ Aside0 (Below w.heap.size w wr))
  case atStart => exact ⟨0, rfl, ⟨Nat.zero_le _⟩, ⟨by omega⟩, ⟨by simp⟩, ⟨Below.refl _ _⟩⟩
  case round =>
    obtain ⟨kk, rfl, HK, HG, HF, HB⟩ := hrel
    by_cases hlt : kk < l.length
    · have h0 : (0 : Int) ≤ (kk : Int) := by omega
      have h1 : (kk : Int) < (l.length : Int) := by omega
      obtain ⟨ad, e1, x0, x1⟩ := at_I HR.out (kk : Int) h0 h1
      have hN := HN.out
      have hw : wrap64 ((kk : Int) + 1) = ((kk + 1 : Nat) : Int) := Pl.wrap_succ (by omega)
      have HW := Aside0.mk hw
      have hx := rdI_get hlt
      have hlt := Aside0.mk hlt
      clear hw hN
      cases e1
      replace x0 := (HB.out.cell (World.block_lt_of_cell? w _ x0)).trans x0
      replace x1 := (HB.out.cell (World.block_lt_of_cell? w _ x1)).trans x1
      have hcall := HP.out wr (l.getD (kk : Int).toNat 0) (List.mem_of_getElem? hx) HB.out
      generalize l.getD (kk : Int).toNat 0 = x at x0 x1 hcall hx
      simp only [Int.toNat_natCast] at x0 x1
      have HX := Aside0.mk hx
      clear hx
      generalize ca cf x = u0 at x0 hcall
      generalize cb cf x = u1 at x1 hcall
      cases hq : p x with
      | true =>
        rw [hq] at hcall
        have HQ := Aside0.mk hq
        clear hq
        go_wp2_with (first | (go_at_fn g; refine hcall.mono ?_; rintro e w' ⟨rfl, hb'⟩; have HB' := Aside0.mk hb'; clear hb'))
        go_ret
        exact ⟨(kk : Int), rfl, IsIdx_hit hlt.out HX.out HQ.out HF.out, below_step HB.out HB'.out⟩
      | false =>
        rw [hq] at hcall
        have HQ := Aside0.mk hq
        clear hq
        go_wp2_with (first | (go_at_fn g; refine hcall.mono ?_; rintro e w' ⟨rfl, hb'⟩; have HB' := Aside0.mk hb'; clear hb'))
        go_roundg (l.length - kk)
        case measure => have := HG.out; have := hlt.out; omega
        case rel =>
          exact ⟨kk + 1, by rw [HW.out], ⟨hlt.out⟩, ⟨by omega⟩, ⟨IsIdx_step hlt.out HX.out HQ.out HF.out⟩, ⟨below_step HB.out HB'.out⟩⟩
    · have h1 : ¬ (kk : Int) < (l.length : Int) := by omega
      have hge : l.length ≤ kk := by omega
      have HGE := Aside0.mk hge
      clear hge hlt
      go_wp2
      go_ret
      exact ⟨-1, rfl, IsIdx_miss HGE.out HF.out, HB.out⟩
theorem M_at {cf : Nat → List Value} {e base g n c : Nat} {ok : Nat → Prop} {W : World} {xs : List Nat} {y : Nat} (ho : (kI cf).R e W base ok (.slice (some ⟨g, 0, none⟩) n c) xs) (j : Int) (h0 : 0 ≤ j) (h1 : j < n) (hy : xs.getD j.toNat 0 = y) : [ca cf y, cb cf y] = cf y ∧ [ca cf y, cb cf y].length = 2 ∧ ∀ u ∈ [ca cf y, cb cf y], u.oneCell' = true := by
  obtain ⟨ci, hcl, hM, hcc, fr⟩ := Kd.R_elem ho (0 : Nat) j h0 h1
  rw [hy] at hM
  have h2 := kI_cells hM
  subst h2
  exact hM
set_option maxHeartbeats 4000000 in
set_option maxRecDepth 100000 in
theorem DelI (g : Nat) (lb : Array Value) (eg : ∀ args w, (callFunc g args).run Try.prog w = .ok (.enter g args) w) (cf : Nat → List Value) (p : Nat → Bool) (P0 : Nat → Prop) (u : Value) (l : List Nat) (w0 w : World)
    (hB : Below w0.heap.size w0 w) (ho : Kd.R (kI cf) 53 w w0.heap.size P0 u l)
    (hfm : ∀ x ∈ l, ∃ (k : Int) (A : Option Addr) (n c : Nat), ca cf x = .int .i64 k ∧ cb cf x = .slice A n c) (hp : ∀ (W : World) (x : Nat), x ∈ l → Kept w W P0 → Calls Try.prog g (#[.agg #[ca cf x, cb cf x]] ++ lb) W fun e w' => e = .returned (.bool (p x)) ∧ Below W.heap.size W w') :
    Calls Try.prog 35 #[u, .func (.func g) #[] lb] w (DelPost (kI cf) 53 (l.filter fun x => !p x) w0) := by
  obtain ⟨A, c, rfl⟩ := Kd.R_slice ho
  have hC := (Kd.R_reads' ho).2.2
  have hidx := IdxI g lb eg cf p A c l w hC (fun W x hx hb => hp W x hx (Kept.of_below hb _))
  have HN := Aside0.mk hC.2.1
  have HO := Aside0.mk ho
  have HP := Aside0.mk hp
  have HFM := Aside0.mk hfm
  have HB := Aside0.mk hB
  clear hC ho hp hB hfm
  by_cases hany : ∀ x ∈ l, p x = false
  · have hi : Calls Try.prog 50 #[.slice A l.length c, .func (.func g) #[] lb] w fun e w' => e = .returned (.int .i64 (-1)) ∧ Below w.heap.size w w' := hidx.mono (by
      rintro e w' ⟨i, rfl, hi, hb⟩
      rcases hi with ⟨rfl, _⟩ | ⟨pre, x, post, rfl, rfl, hx, _⟩
      · exact ⟨rfl, hb⟩
      · rw [hany x (by simp)] at hx
        cases hx)
    have hf : l.filter (fun x => !p x) = l := List.filter_eq_self.2 (fun x hx => by simp [hany x hx])
    have HF := Aside0.mk hf
    clear hf hany hidx
    go_enter Try.func35, Try.ntmps35
    go_wp2_with (first | (go_at_call 50; refine hi.mono ?_; rintro e w' ⟨rfl, hb'⟩; have HB' := Aside0.mk hb'; clear hb' hi))
    go_ret
    exact ⟨_, rfl, by rw [HF.out]; exact Kd.R_mono (Kd.R_below HO.out HB'.out) (fun _ _ => trivial), below_step HB.out HB'.out⟩
  · have hx0 : ∃ pre x post, l = pre ++ x :: post ∧ p x = true ∧ (∀ y ∈ pre, p y = false) ∧ Calls Try.prog 50 #[.slice A l.length c, .func (.func g) #[] lb] w fun e w' => e = .returned (.int .i64 (pre.length : Nat)) ∧ Below w.heap.size w w' := by
      obtain ⟨pre, x, post, h1, h2, h3⟩ := first_hit p l hany
      refine ⟨pre, x, post, h1, h2, h3, hidx.mono ?_⟩
      rintro e w' ⟨i, rfl, hi, hb⟩
      rw [IsIdx_uniq hi h1 h2 h3]
      exact ⟨rfl, hb⟩
    obtain ⟨pre, x, post, hl, hx, hpre, hi⟩ := hx0
    have hlen : pre.length < l.length := by rw [hl]; simp
    have hinv : DelInv p l pre.length (pre.length + 1) l := DelInv_start hl hx hpre
    clear hidx hany
    obtain ⟨b, cap, hu, hb0, hbl, cells, hcells⟩ := Kd.R_form HO.out (by omega)
    obtain ⟨rfl, rfl⟩ : A = some ⟨b, 0, none⟩ ∧ c = cap := by
      injection hu with e1 e2 e3
      exact ⟨e1, e3⟩
    have hP0 : P0 b := HO.out.1 b rfl
    have HP0 := Aside0.mk hP0
    have HI := Aside0.mk hinv
    have HLN := Aside0.mk hlen
    have HB0 := Aside0.mk hb0
    have HM := Aside0.mk (show pre.length + 1 < 9223372036854775808 from by have := HN.out; omega)
    have hw1 : wrap64 ((pre.length : Nat) + 1 : Int) = ((pre.length + 1 : Nat) : Int) := Pl.wrap_succ (by have := HN.out; omega)
    have HW1 := Aside0.mk hw1
    have hne : (((pre.length : Nat) : Int) == -1) = false := beq_eq_false_iff_ne.2 (by omega)
    generalize hk0 : pre.length = k0 at hi HI HLN HM HW1 hne
    clear hu hP0 hinv hlen hb0 hw1 hcells hbl hl hx hpre hk0
    go_enter Try.func35, Try.ntmps35
    go_wp2_with (first | (go_at_call 50; refine hi.mono ?_; rintro e w' ⟨rfl, hb'⟩; have HB' := Aside0.mk hb'; clear hb' hi))
    go_loopg [5, 6] (l.length + 1) (fun gg v5 v6 wr => ∃ (i j : Nat) (xs : List Nat), v5 = .int .i64 i ∧ v6 = .int .i64 j ∧ Aside0 (l.length + 1 - j ≤ gg) ∧ Aside0 (DelInv p l i j xs) ∧ Aside0 (Kd.R (kI cf) 53 wr w0.heap.size (fun _ => True) (.slice (some ⟨b, 0, none⟩) l.length c) xs) ∧ Aside0 (Kept w wr P0) ∧ Aside0 (Below w0.heap.size w0 wr))
    case atStart => exact ⟨k0, k0 + 1, l, rfl, by rw [HW1.out], ⟨by omega⟩, HI, ⟨Kd.R_mono (Kd.R_below HO.out HB'.out) (fun _ _ => trivial)⟩, ⟨Kept.of_below HB'.out _⟩, ⟨below_step HB.out HB'.out⟩⟩
    case round =>
      clear HO HB HB' HI hne HW1
      obtain ⟨i, j, xs, rfl, rfl, HG, HI, HO, HK, HB⟩ := hrel
      by_cases hlt : j < l.length
      · have h1 : (j : Int) < (l.length : Int) := by omega
        obtain ⟨d1, d2, d3, d4, d5⟩ := HI.out
        have hC2 := (Kd.R_reads' HO.out).2.2
        obtain ⟨ad, e1, x0, x1⟩ := at_I hC2 (j : Int) (by omega) (by omega)
        obtain ⟨ad2, e2, xi0, xi1⟩ := at_I hC2 (i : Int) (by omega) (by omega)
        obtain ⟨_, _, _, _, hfr⟩ := Kd.R_elem HO.out (0 : Nat) (i : Int) (by omega) (by omega)
        have hf0 := hfr 0
        have hf1 := hfr 1
        obtain rfl : (⟨b, 0, none⟩ : Addr) = ad := by injection e1
        obtain rfl : (⟨b, 0, none⟩ : Addr) = ad2 := by injection e2
        have hxj : xs.getD (j : Int).toNat 0 = l[j] := DelInv_at HI.out hlt
        rw [hxj] at x0 x1
        simp only [add_plain, Int.toNat_natCast] at x0 x1 xi0 xi1
        simp only [Int.toNat_natCast, show (kI cf).sz = 2 from rfl, Nat.add_zero] at hf0 hf1
        have hwj : wrap64 ((j : Int) + 1) = ((j + 1 : Nat) : Int) := Pl.wrap_succ (by have := HN.out; omega)
        have hwi : wrap64 ((i : Int) + 1) = ((i + 1 : Nat) : Int) := Pl.wrap_succ (by have := HN.out; omega)
        have HWJ := Aside0.mk hwj
        have HWI := Aside0.mk hwi
        have HLT := Aside0.mk hlt
        have HIL := Aside0.mk (show i < l.length by omega)
        have hil : (i : Int) < (l.length : Int) := by omega
        have hyx := hxj
        generalize hy : l[j] = y at x0 x1 hyx
        have HYX := Aside0.mk hyx
        clear hyx
        have HY := Aside0.mk hy
        have HM_ := Aside0.mk (show y ∈ l from hy ▸ List.getElem_mem HLT.out)
        have HMY := Aside0.mk (M_at HO.out (j : Int) (by omega) (by omega) HYX.out)
        obtain ⟨ky, Ay, ny, cy, hy0, hy1⟩ := HFM.out y HM_.out
        have HY01 := Aside0.mk (And.intro hy0 hy1)
        rw [hy0] at x0
        rw [hy1] at x1
        replace HMY := Aside0.mk (show [.int .i64 ky, .slice Ay ny cy] = cf y ∧ [Value.int .i64 ky, .slice Ay ny cy].length = 2 ∧ ∀ u ∈ [Value.int .i64 ky, .slice Ay ny cy], u.oneCell' = true from by have := HMY.out; rwa [hy0, hy1] at this)
        clear hy0 hy1
        have HXI := Aside0.mk (And.intro xi0 xi1)
        clear hC2 e1 e2 hfr hxj hwj hwi hy d1 d2 d3 d4 d5 xi0 xi1 hf0 hf1
        cases hq : p y with
        | true =>
          have HQ := Aside0.mk hq
          clear hq
          have hcall : ∀ W, Kept w W P0 → Calls Try.prog g (#[.agg #[.int .i64 ky, .slice Ay ny cy]] ++ lb) W fun e w' => e = .returned (.bool true) ∧ Below W.heap.size W w' := fun W hk => by have := HP.out W y HM_.out hk; rwa [HQ.out, HY01.out.1, HY01.out.2] at this
          go_wp2_with (first | (go_at_fn g; refine (hcall _ ?hk).mono ?_; (case hk => first | exact HK.out | exact HK.out.alloc _); rintro e w2 ⟨rfl, hb2⟩; have HB2 := Aside0.mk hb2; clear hb2))
          go_roundg (l.length - j)
          case measure => have := HG.out; have := HLT.out; omega
          case rel => exact ⟨i, j + 1, xs, rfl, by rw [HWJ.out], ⟨by omega⟩, ⟨DelInv_skip HI.out HLT.out HY.out HQ.out⟩, ⟨Kd.R_below (Kd.R_alloc HO.out _) HB2.out⟩, ⟨(HK.out.alloc _).below HB2.out⟩, ⟨below_step (below_alloc HB.out _) HB2.out⟩⟩
        | false =>
          have HQ := Aside0.mk hq
          clear hq
          have hcall : ∀ W, Kept w W P0 → Calls Try.prog g (#[.agg #[.int .i64 ky, .slice Ay ny cy]] ++ lb) W fun e w' => e = .returned (.bool false) ∧ Below W.heap.size W w' := fun W hk => by have := HP.out W y HM_.out hk; rwa [HQ.out, HY01.out.1, HY01.out.2] at this
          go_wp2_with (first | (go_at_fn g; refine (hcall _ ?hk).mono ?_; (case hk => exact HK.out.alloc _); rintro e w2 ⟨rfl, hb2⟩; have bx0 : (wr.alloc (.cells #[.int .i64 ky, .slice Ay ny cy] 53)).cell? ⟨wr.heap.size, 0, none⟩ = some (.int .i64 ky) := Bx.box_new _ _ _ _ _ rfl; have bx1 : (wr.alloc (.cells #[.int .i64 ky, .slice Ay ny cy] 53)).cell? ⟨wr.heap.size, 1, none⟩ = some (.slice Ay ny cy) := Bx.box_new _ _ _ _ _ rfl; replace bx0 := Bx.box_later bx0 hb2; replace bx1 := Bx.box_later bx1 hb2; have HO2 := Kd.R_below (Kd.R_alloc HO.out _) hb2; obtain ⟨ci, hcl, hMi, hcc, fr2⟩ := Kd.R_elem HO2 (0 : Nat) (i : Int) (by omega) (by have := HIL.out; omega); obtain rfl := kI_cells hMi; have HP2 := Aside0.mk (Kd.R_seg HO2 (i : Int) (by omega) (by have := HIL.out; omega) (seg := [.int .i64 ky, .slice Ay ny cy]) (j := 0) hcl hcc (show 0 + 2 ≤ 2 from by decide) (x' := y) (HMY.out) (fun _ hk => hk)); have ci0 := hcc 0 _ rfl; have ci1 := hcc 1 _ rfl; have fi0 := fr2 0; have fi1 := fr2 1; simp only [Int.toNat_natCast, show (kI cf).sz = 2 from rfl, Nat.add_zero] at ci0 ci1 fi0 fi1; have HK2 := Aside0.mk ((HK.out.alloc (.cells #[.int .i64 ky, .slice Ay ny cy] 53)).below hb2); have HB2 := Aside0.mk (below_step (below_alloc HB.out (.cells #[.int .i64 ky, .slice Ay ny cy] 53)) hb2); clear fr2 HO2 hb2 hcc hcl hMi))
          go_roundg (l.length - j)
          case measure => have := HG.out; have := HLT.out; omega
          case rel => exact ⟨i + 1, j + 1, xs.set i y, by rw [HWI.out], by rw [HWJ.out], ⟨by omega⟩, ⟨DelInv_keep HI.out HLT.out HY.out HQ.out⟩, ⟨HP2.out.1⟩, ⟨(HK2.out.setCell (Or.inl HP0.out) _).setCell (Or.inl HP0.out) _⟩, ⟨below_set (below_set HB2.out HB0.out) HB0.out⟩⟩
      · obtain ⟨d1, d2, d3, d4, d5⟩ := HI.out
        have h1 : ¬ (j : Int) < (l.length : Int) := by omega
        have hj : j = l.length := by omega
        have HE := Aside0.mk (DelInv_end HI.out (by omega))
        obtain ⟨hn, hnc, _⟩ := Kd.R_reads' HO.out
        have HNC := Aside0.mk hnc
        have hcell : ∀ m : Nat, m < (l.length - i) * 2 → (wr.cell? ⟨b, i * 2 + m, none⟩).isSome = true ∧ wr.frozen? ⟨b, i * 2 + m, none⟩ = false := fun m hm => R_room HO.out _ (by show _ < c * 2; omega)
        obtain ⟨L, hL, hclr⟩ := Pm.run_clear (P := Try.prog) wr 33 53 0 (.agg #[.int .i64 0, .slice none 0 0]) Try.underlying33 (fun W => by go_simp) (by simp [Value.cells, Value.oneCell']) b (i * 2) (l.length - i) (c - i) (by omega) (fun m hm => (hcell m hm).1) (fun m hm => (hcell m hm).2)
        have HR := Aside0.mk (Pm.R_behind HO.out i (by omega) L (by rw [hL]; show i * 2 + (l.length - i) * 2 ≤ c * 2; omega))
        have hi1 : (i : Int) ≤ (l.length : Int) := by omega
        have hi2 : (i : Int) ≤ (c : Int) := by omega
        have hci : ¬ c = i := by omega
        clear hcell hL d1 d2 d3 d4 d5 hn hnc
        go_wp2
        go_ret
        refine ⟨_, rfl, ?_, ?_⟩
        · rw [← HE.out]
          exact HR.out.1
        · exact pw_below_grown HB.out (some b) HB.out.size HR.out.2 (fun k hk => by injection hk with hk; rw [← hk]; exact HB0.out)
end Go.Proofs.Ytmlbihhaikknnaa.Pr
