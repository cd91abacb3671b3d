/- What a read comes from, named in two ways: the names agree exactly where the origins do, if each dealer's acts are the same. Conditions: at most 16 acts, dealers 0 to 3. -/
import Derived.Test.YtpnlkmpoaboncaaPr0
import Derived.Test.YtpnlkmpoaboncaaA7l
namespace Go.Proofs.Ytpnlkmpoaboncaa.Ax
open Go.RowKit Go.Proofs.Ytpnlkmpoaboncaa.Pr Go.Proofs.Ytpnlkmpoaboncaa.Pl Go.Proofs.YtpnlkmpoaboncaaW.PrintWords Go.Proofs.YtpnlkmpoaboncaaW.PrintLast Go.Proofs.YtpnlkmpoaboncaaW.PrintMore
set_option linter.unusedVariables false
set_option linter.unusedSimpArgs false
def sameA (x y : S44) : Bool := x.f0 == y.f0 && (x.f1 == y.f1 && x.f2 == y.f2)
theorem sameA_iff {x y : S44} : sameA x y = true ↔ x = y := by cases x; cases y; simp [sameA]
instance decA : DecidableEq S44 := fun x y => decidable_of_iff (sameA x y = true) sameA_iff
def sameO (x y : S52) : Bool := x.f0 == y.f0 && x.f1 == y.f1
theorem sameO_iff {x y : S52} : sameO x y = true ↔ x = y := by cases x; cases y; simp [sameO]
instance decO : DecidableEq S52 := fun x y => decidable_of_iff (sameO x y = true) sameO_iff
/-- A dealer's acts. -/
def DD (l : List S44) (w : Int) : List S44 := l.filter fun x => x.f0 == w
def cnt (l : List S44) (x : S44) : Nat := l.countP fun y => sameA y x
/-- The name of the act at k, and its origin. -/
def nmN (l : List S44) (k : Int) : Int := if k < 0 then k else 100 * (rd_T44 l k).f0 + ((DD (l.take k.toNat) (rd_T44 l k).f0).length : Int)
def ogN (l : List S44) (k : Int) : Int × Int := if k < 0 then (-1, -1) else ((rd_T44 l k).f0, (cnt (l.take k.toNat) (rd_T44 l k) : Int))
theorem rdA_get {l : List S44} {k : Nat} (h : k < l.length) : rd_T44 l (k : Int) = l[k] := by simp [rd_T44, List.getD_eq_getElem?_getD, h]
theorem DD_cut {l : List S44} {k : Nat} (h : k < l.length) : DD l (rd_T44 l (k : Int)).f0 = DD (l.take k) (rd_T44 l (k : Int)).f0 ++ rd_T44 l (k : Int) :: DD (l.drop (k + 1)) (rd_T44 l (k : Int)).f0 := by
  rw [rdA_get h]
  have e : l = l.take k ++ l[k] :: l.drop (k + 1) := by rw [← List.drop_eq_getElem_cons h, List.take_append_drop]
  generalize l[k] = x at *
  have hh : DD l x.f0 = DD (l.take k ++ x :: l.drop (k + 1)) x.f0 := congrArg (fun m => DD m x.f0) e
  rw [hh]
  simp only [DD, List.filter_append, List.filter_cons, beq_self_eq_true, if_true]
theorem cnt_DD (P : List S44) (x : S44) : cnt P x = cnt (DD P x.f0) x := by
  unfold cnt DD
  rw [List.countP_filter]
  congr 1
  funext y
  cases h : sameA y x
  · simp
  · rw [sameA_iff] at h
    subst h
    simp
theorem pre_len {A B A' B' : List S44} {x : S44} (h : A ++ x :: B = A' ++ x :: B') (hc : cnt A x = cnt A' x) : A.length = A'.length := by
  have hx : sameA x x = true := sameA_iff.2 rfl
  rcases List.append_eq_append_iff.1 h with ⟨a', e1, e2⟩ | ⟨a', e1, e2⟩
  · cases a' with
    | nil => simp [e1]
    | cons z t =>
      simp only [List.cons_append, List.cons.injEq] at e2
      obtain ⟨rfl, -⟩ := e2
      rw [e1] at hc
      simp [cnt, List.countP_append, List.countP_cons, hx] at hc
  · cases a' with
    | nil => simp [e1]
    | cons z t =>
      simp only [List.cons_append, List.cons.injEq] at e2
      obtain ⟨rfl, -⟩ := e2
      rw [e1] at hc
      simp [cnt, List.countP_append, List.countP_cons, hx] at hc
def okL (l : List S44) : Prop := l.length ≤ 16 ∧ ∀ x ∈ l, 0 ≤ x.f0 ∧ x.f0 ≤ 3
theorem rdA_ok {l : List S44} (hl : okL l) {k : Nat} (h : k < l.length) : 0 ≤ (rd_T44 l (k : Int)).f0 ∧ (rd_T44 l (k : Int)).f0 ≤ 3 := by
  rw [rdA_get h]
  exact hl.2 _ (List.getElem_mem h)
theorem DD_len (l : List S44) (w : Int) (k : Nat) : (DD (l.take k) w).length ≤ l.length := Nat.le_trans (List.length_filter_le _ _) (by rw [List.length_take]; omega)
def eqD (l1 l2 : List S44) : Prop := ∀ w : Int, 0 ≤ w → w ≤ 3 → DD l1 w = DD l2 w
theorem nm_og {l1 l2 : List S44} (h1 : okL l1) (h2 : okL l2) (hD : eqD l1 l2) {k1 k2 : Nat} (hk1 : k1 < l1.length) (hk2 : k2 < l2.length) (hi : (rd_T44 l1 (k1 : Int)).f1 = (rd_T44 l2 (k2 : Int)).f1)
    (hf1 : (rd_T44 l1 (k1 : Int)).f2 = true) (hf2 : (rd_T44 l2 (k2 : Int)).f2 = true) : nmN l1 (k1 : Int) = nmN l2 (k2 : Int) ↔ ogN l1 (k1 : Int) = ogN l2 (k2 : Int) := by
  have c1 := DD_cut hk1
  have c2 := DD_cut hk2
  have w1 := rdA_ok h1 hk1
  have w2 := rdA_ok h2 hk2
  have L1 := Nat.le_trans (DD_len l1 (rd_T44 l1 (k1 : Int)).f0 k1) h1.1
  have L2 := Nat.le_trans (DD_len l2 (rd_T44 l2 (k2 : Int)).f0 k2) h2.1
  unfold nmN ogN
  rw [if_neg (show ¬ ((k1 : Int) < 0) by omega), if_neg (show ¬ ((k2 : Int) < 0) by omega), if_neg (show ¬ ((k1 : Int) < 0) by omega), if_neg (show ¬ ((k2 : Int) < 0) by omega), Int.toNat_natCast, Int.toNat_natCast, cnt_DD, cnt_DD (l2.take k2)]
  generalize rd_T44 l1 (k1 : Int) = x1 at *
  generalize rd_T44 l2 (k2 : Int) = x2 at *
  constructor
  · intro e
    have e0 : x1.f0 = x2.f0 := by omega
    have el : (DD (l1.take k1) x1.f0).length = (DD (l2.take k2) x2.f0).length := by omega
    have hx : DD l1 x1.f0 = DD l2 x2.f0 := by rw [hD x1.f0 w1.1 w1.2, e0]
    rw [c1, c2] at hx
    have := List.append_inj hx el
    have hxx : x1 = x2 := by have := this.2; simp at this; exact this.1
    rw [this.1, hxx]
  · intro e
    simp only [Prod.mk.injEq, Int.natCast_inj] at e
    obtain ⟨e0, ec⟩ := e
    have hxx : x1 = x2 := by
      cases x1; cases x2
      simp_all
    subst hxx
    have hx : DD l1 x1.f0 = DD l2 x1.f0 := hD x1.f0 w1.1 w1.2
    rw [c1, c2] at hx
    have := pre_len hx ec
    omega
/-- k is none, or a Write of the item. -/
def isPos (l : List S44) (it k : Int) : Prop := k = -1 ∨ ∃ j : Nat, k = (j : Int) ∧ j < l.length ∧ (rd_T44 l (j : Int)).f1 = it ∧ (rd_T44 l (j : Int)).f2 = true
theorem lwN_pos (l : List S44) (it : Int) : ∀ m, m ≤ l.length → isPos l it (lwN l it m)
  | 0, _ => Or.inl rfl
  | m + 1, h => by
    rw [lwN]
    split
    · rename_i hw
      simp only [isW, Bool.and_eq_true, decide_eq_true_eq] at hw
      exact Or.inr ⟨m, rfl, by omega, by simpa [rd_T44] using hw.2, by simpa [rd_T44] using hw.1⟩
    · exact lwN_pos l it m (by omega)
theorem lw_pos (l : List S44) (it : Int) : isPos l it (lw l it) := lwN_pos l it l.length (Nat.le_refl _)
theorem lw_take_pos (l : List S44) (it : Int) (j : Nat) : isPos l it (lw (l.take j) it) := by
  rcases lw_pos (l.take j) it with h | ⟨k, h, hk, h1, h2⟩
  · exact Or.inl h
  · have hk2 : k < l.length := by rw [List.length_take] at hk; omega
    have e : rd_T44 (l.take j) (k : Int) = rd_T44 l (k : Int) := by rw [rdA_get hk, rdA_get hk2, List.getElem_take]
    exact Or.inr ⟨k, h, hk2, e ▸ h1, e ▸ h2⟩
theorem nm_og' {l1 l2 : List S44} (h1 : okL l1) (h2 : okL l2) (hD : eqD l1 l2) {it k1 k2 : Int} (p1 : isPos l1 it k1) (p2 : isPos l2 it k2) : nmN l1 k1 = nmN l2 k2 ↔ ogN l1 k1 = ogN l2 k2 := by
  rcases p1 with rfl | ⟨j1, rfl, a1, b1, d1⟩
  · rcases p2 with rfl | ⟨j2, rfl, a2, b2, d2⟩
    · simp [nmN, ogN]
    · have := rdA_ok h2 a2
      simp only [nmN, ogN, if_neg (show ¬ ((j2 : Int) < 0) by omega), if_pos (show (-1 : Int) < 0 by omega), Prod.mk.injEq]
      constructor
      · intro h; omega
      · intro h; omega
  · rcases p2 with rfl | ⟨j2, rfl, a2, b2, d2⟩
    · have := rdA_ok h1 a1
      simp only [nmN, ogN, if_neg (show ¬ ((j1 : Int) < 0) by omega), if_pos (show (-1 : Int) < 0 by omega), Prod.mk.injEq]
      constructor
      · intro h; omega
      · intro h; omega
    · exact nm_og h1 h2 hD a1 a2 (b1.trans b2.symm) d1 d2
/-- A dealer's acts, each with the Write ahead of it. -/
def PW (l : List S44) (w : Int) : List S44 → Nat → List (S44 × Int)
  | [], _ => []
  | y :: ys, j => if y.f0 = w then (y, lw (l.take j) y.f1) :: PW l w ys (j + 1) else PW l w ys (j + 1)
theorem PW_fst (l : List S44) (w : Int) : ∀ ys j, (PW l w ys j).map Prod.fst = DD ys w
  | [], _ => rfl
  | y :: ys, j => by
    have ih := PW_fst l w ys (j + 1)
    rw [PW]
    by_cases h : y.f0 = w
    · simpa [h, DD] using ih
    · simpa [h, DD] using ih
theorem PW_pos (l : List S44) (w : Int) : ∀ ys j, ∀ p ∈ PW l w ys j, isPos l p.1.f1 p.2
  | [], _, p, h => by cases h
  | y :: ys, j, p, h => by
    rw [PW] at h
    split at h
    · rcases List.mem_cons.1 h with rfl | h
      · exact lw_take_pos l _ j
      · exact PW_pos l w ys (j + 1) p h
    · exact PW_pos l w ys (j + 1) p h
theorem PW_len (l : List S44) (w : Int) (ys : List S44) (j : Nat) : (PW l w ys j).length ≤ ys.length := by
  have := congrArg List.length (PW_fst l w ys j)
  rw [List.length_map] at this
  rw [this]
  exact List.length_filter_le _ _
def eN (l : List S44) (p : S44 × Int) : Int := if p.1.f2 then -2 else nmN l p.2
def oN (l : List S44) (k : Int) : S52 := ⟨(ogN l k).1, (ogN l k).2⟩
theorem oN_inj {l1 l2 : List S44} {k1 k2 : Int} : oN l1 k1 = oN l2 k2 ↔ ogN l1 k1 = ogN l2 k2 := by
  unfold oN
  constructor
  · intro h
    simp only [S52.mk.injEq] at h
    exact Prod.ext h.1 h.2
  · intro h
    rw [h]
def eO (l : List S44) (P : List (S44 × Int)) : List S52 := (P.filter fun p => !p.1.f2).map fun p => oN l p.2
theorem pairs_iff {l1 l2 : List S44} (h1 : okL l1) (h2 : okL l2) (hD : eqD l1 l2) : ∀ P1 P2 : List (S44 × Int), P1.map Prod.fst = P2.map Prod.fst → (∀ p ∈ P1, isPos l1 p.1.f1 p.2) → (∀ p ∈ P2, isPos l2 p.1.f1 p.2) →
    (P1.map (eN l1) = P2.map (eN l2) ↔ eO l1 P1 = eO l2 P2)
  | [], [], _, _, _ => by simp [eO]
  | [], _ :: _, h, _, _ => by simp at h
  | _ :: _, [], h, _, _ => by simp at h
  | (y, k1) :: P1, (z, k2) :: P2, h, p1, p2 => by
    simp only [List.map_cons, List.cons.injEq] at h
    obtain ⟨h, ht⟩ := h
    change y = z at h
    subst h
    have ih := pairs_iff h1 h2 hD P1 P2 ht (fun p hp => p1 p (List.mem_cons_of_mem _ hp)) (fun p hp => p2 p (List.mem_cons_of_mem _ hp))
    have hh := nm_og' h1 h2 hD (p1 (y, k1) (List.mem_cons_self ..)) (p2 (y, k2) (List.mem_cons_self ..))
    simp only [List.map_cons, List.cons.injEq, eN]
    cases e : y.f2
    · have e3 : ∀ (l : List S44) (k : Int) (P : List (S44 × Int)), eO l ((y, k) :: P) = oN l k :: eO l P := fun l k P => by simp [eO, e]
      rw [e3, e3, List.cons.injEq, oN_inj, ← ih]
      simp only [Bool.false_eq_true, if_false]
      rw [hh]
    · have e3 : ∀ (l : List S44) (k : Int) (P : List (S44 × Int)), eO l ((y, k) :: P) = eO l P := fun l k P => by simp [eO, e]
      rw [e3, e3, ← ih]
      simp
def efW (l : List S44) (w : Int) : List Int := (PW l w l 0).map (eN l)
def ogW (l : List S44) (w : Int) : List S52 := eO l (PW l w l 0)
theorem efW_iff {l1 l2 : List S44} (h1 : okL l1) (h2 : okL l2) (hD : eqD l1 l2) (w : Int) (h0 : 0 ≤ w) (h3 : w ≤ 3) : efW l1 w = efW l2 w ↔ ogW l1 w = ogW l2 w :=
  pairs_iff h1 h2 hD _ _ (by rw [PW_fst, PW_fst, hD w h0 h3]) (PW_pos _ _ _ _) (PW_pos _ _ _ _)
theorem efW_len {l1 l2 : List S44} (hD : eqD l1 l2) (w : Int) (h0 : 0 ≤ w) (h3 : w ≤ 3) : (efW l1 w).length = (efW l2 w).length := by
  have a := congrArg List.length (PW_fst l1 w l1 0)
  have b := congrArg List.length (PW_fst l2 w l2 0)
  rw [List.length_map] at a b
  simp only [efW, List.length_map]
  rw [a, b, hD w h0 h3]
def efL (l : List S44) : List Int := efW l 0 ++ (efW l 1 ++ (efW l 2 ++ (efW l 3 ++ (lasts l 0 4).map (nmN l))))
/-- Both sides' answers, all acts of a dealer alike. -/
theorem efL_iff {l1 l2 : List S44} (h1 : okL l1) (h2 : okL l2) (hD : eqD l1 l2) : efL l1 = efL l2 ↔
    ((ogW l1 0 = ogW l2 0 ∧ ogW l1 1 = ogW l2 1 ∧ ogW l1 2 = ogW l2 2 ∧ ogW l1 3 = ogW l2 3) ∧ (ogN l1 (lw l1 0) = ogN l2 (lw l2 0) ∧ ogN l1 (lw l1 1) = ogN l2 (lw l2 1) ∧ ogN l1 (lw l1 2) = ogN l2 (lw l2 2) ∧ ogN l1 (lw l1 3) = ogN l2 (lw l2 3))) := by
  have app : ∀ {a b c d : List Int}, a.length = c.length → (a ++ b = c ++ d ↔ a = c ∧ b = d) := fun h => ⟨fun e => List.append_inj e h, fun e => by rw [e.1, e.2]⟩
  unfold efL
  rw [app (efW_len hD 0 (by omega) (by omega)), app (efW_len hD 1 (by omega) (by omega)), app (efW_len hD 2 (by omega) (by omega)), app (efW_len hD 3 (by omega) (by omega)),
    efW_iff h1 h2 hD 0 (by omega) (by omega), efW_iff h1 h2 hD 1 (by omega) (by omega), efW_iff h1 h2 hD 2 (by omega) (by omega), efW_iff h1 h2 hD 3 (by omega) (by omega)]
  simp only [lasts_succ, List.map_cons, List.cons.injEq, Nat.zero_add]
  have n := fun it => nm_og' h1 h2 hD (lw_pos l1 it) (lw_pos l2 it)
  have e : (lasts l1 4 0).map (nmN l1) = (lasts l2 4 0).map (nmN l2) := by simp [lasts]
  simp only [n, show ((0 : Nat) : Int) = 0 from rfl, show ((1 : Nat) : Int) = 1 from rfl, show ((1 + 1 : Nat) : Int) = 2 from rfl, show ((1 + 1 + 1 : Nat) : Int) = 3 from rfl]
  constructor
  · rintro ⟨a, b, c, d, f, g, h, i, -⟩
    exact ⟨⟨a, b, c, d⟩, f, g, h, i⟩
  · rintro ⟨⟨a, b, c, d⟩, f, g, h, i⟩
    exact ⟨a, b, c, d, f, g, h, i, by simp [lasts]⟩
end Go.Proofs.Ytpnlkmpoaboncaa.Ax
