/- slices.SortFunc over values (structs of two cells) by impl.distinct's comparer: contract over a row of the call's own. Conditions: that the comparer orders. -/
import Derived.Test.YtmlbihhaikknnaaPr0
import Derived.Test.YtmlbihhaikknnaaPr2
import Derived.Test.YtmlbihhaikknnaaMx3
import Derived.Test.YtmlbihhaikknnaaShelf
import Derived.Test.YtmlbihhaikknnaaMx5
namespace Go.Proofs.Ytmlbihhaikknnaa.Sp
open Go.RowKit Go.Sort Go.Lib Go.Proofs Go.Proofs.Ytmlbihhaikknnaa.Pr Go.Proofs.YtmlbihhaikknnaaW.PrintWords Go.Proofs.YtmlbihhaikknnaaW.PrintLast Go.Proofs.YtmlbihhaikknnaaW.PrintMore
set_option linter.unusedVariables false
set_option linter.unusedSimpArgs false
instance inhV : Inhabited S43 := ⟨z43⟩
def ve (x : S43) : List Value := [.bool x.f0, .int .i64 x.f1]
theorem ve_len (x : S43) : (ve x).length = 2 := rfl
theorem flat_get (l : List S43) (t : Nat) (h : t < l.length * 2) : (flatK ve 2 l.toArray)[t]! = (ve (l.getD (t / 2) z43))[t % 2]! := by
  have hj : t / 2 < l.length := by omega
  rw [get_flatK ve 2 l.toArray t (by simpa using h)]
  congr 2
  simp [List.getD_eq_getElem?_getD, hj, getElem!_pos]
theorem reps_flat {R : S43 → List Value → Prop} (hR : ∀ x cs, R x cs → cs = ve x) {l : List S43} {inner : List Value} (h : Reps R 2 l inner) : inner = (flatK ve 2 l.toArray).toList := by
  apply List.ext_getElem
  · simp [h.1]
  · intro t h1 h2
    have ht : t < l.length * 2 := by rw [h.1] at h1; exact h1
    have hj : t / 2 < l.length := by omega
    have hc := hR _ _ (h.2 (t / 2) l[t / 2] (List.getElem?_eq_getElem hj))
    have hg := flat_get l t ht
    rw [getElem!_pos (flatK ve 2 l.toArray) t (by simpa using ht)] at hg
    rw [Array.getElem_toList (xs := flatK ve 2 l.toArray), hg]
    have e1 : l.getD (t / 2) z43 = l[t / 2] := by simp [List.getD_eq_getElem?_getD, hj]
    rw [e1, ← hc]
    have hm : t % 2 < 2 := Nat.mod_lt _ (by omega)
    have hlen : ((inner.drop (t / 2 * 2)).take 2).length = 2 := by rw [hc]; rfl
    rw [getElem!_pos _ _ (by rw [hlen]; exact hm), List.getElem_take, List.getElem_drop]
    congr 1
    omega
theorem flat_reps {R : S43 → List Value → Prop} (hR : ∀ x, R x (ve x)) (l : List S43) : Reps R 2 l (flatK ve 2 l.toArray).toList := by
  refine ⟨by simp, fun j p hp => ?_⟩
  obtain ⟨hj, rfl⟩ := List.getElem?_eq_some_iff.1 hp
  have : (((flatK ve 2 l.toArray).toList.drop (j * 2)).take 2) = ve l[j] := by
    apply List.ext_getElem
    · simp [ve]; omega
    · intro t h1 h2
      have ht2 : t < 2 := h2
      rw [List.getElem_take, List.getElem_drop, Array.getElem_toList (xs := flatK ve 2 l.toArray)]
      have hg := flat_get l (j * 2 + t) (by omega)
      rw [getElem!_pos (flatK ve 2 l.toArray) (j * 2 + t) (by simp; omega)] at hg
      rw [hg, show (j * 2 + t) / 2 = j by omega, show (j * 2 + t) % 2 = t by omega]
      have e1 : l.getD j z43 = l[j] := by simp [List.getD_eq_getElem?_getD, hj]
      rw [e1]
      exact getElem!_pos (ve l[j]) t h2
  rw [this]
  exact hR _
theorem put_ownsK {w : World} {base g cap n m s : Nat} {e : TypeId} {os : Array Obj} {cur : Array Value} {fs : List Value} (hlen : fs.length = m * s) (hbase : base ≤ g) (hb : w.heap[g]? = some (.cells cur e (0, 0))) (h1 : m ≤ cap) (h2 : cap ≤ maxLen) (h3 : cur.size = cap * s) :
    (grow (putRow id (Sort.ahead w n) g 0 fs.toArray) os).ownsRow base e s (.slice (some ⟨g, 0, none⟩) m cap) m fs := by
  have hle : m * s ≤ cap * s := Nat.mul_le_mul_right s h1
  refine ⟨hlen, .inr ⟨g, cap, _, rfl, hbase, put_heap id _ hb, h1, h2, by simp [putCells, h3], ?_⟩⟩
  rw [← hlen]
  apply List.ext_getElem?
  intro j
  by_cases hj : j < fs.length
  · rw [List.getElem?_take_of_lt hj, Array.getElem?_toList]
    simp [putCells, hj, show j < cur.size by omega]
  · rw [List.getElem?_take_eq_none (by omega), List.getElem?_eq_none (by omega)]
set_option maxHeartbeats 1000000 in
theorem SortVals (base : Nat) (ok : Nat → Prop) (w : World) (v : Value) (l : List S43) (ho : k43.R 43 w base ok v l) (hsz : l.length < 4611686018427387904) (cf : S43 → S43 → Int)
    (hcmp : ∀ x y : S43, impl_distinct_1.f x.f0 x.f1 y.f0 y.f1 = some (cf x y)) (hO : SWO (ltOf cf)) :
    Calls Try.prog 44 #[v, .func (.func 45) #[] #[]] w fun e w' => e = .returned (.tuple #[]) ∧ ∃ l' : List S43, l'.Perm l ∧ l'.Pairwise (fun x y => ¬ cf y x < 0) ∧ k43.R 43 w' base ok v l' ∧ w.grownBy w' v.ownBlock := by
  obtain ⟨A, c, rfl⟩ := Kd.R_slice ho
  rcases Nat.eq_zero_or_pos l.length with h0 | h0
  · obtain rfl := List.eq_nil_of_length_eq_zero h0
    refine (Try.slices_SortFunc_none (α := Int) A c _ w).mono ?_
    rintro e w' ⟨rfl, rfl⟩
    exact ⟨rfl, [], List.Perm.refl _, List.Pairwise.nil, ho, ⟨rfl, rfl, rfl, Nat.le_refl _, fun _ _ _ => rfl⟩⟩
  · obtain ⟨g, cap, hv, hg, hgl, _⟩ := Kd.R_form ho h0
    injection hv with hv1 hv2 hv3
    subst hv1; subst hv3
    obtain ⟨hok, inner, hown, hr⟩ := ho
    have hfl := reps_flat (fun x cs h => k43_openM h) hr
    subst hfl
    rcases hown.2 with ⟨hv, _⟩ | ⟨g', cap', cur, hv, hb, hh, h1, h2, h3, h4⟩
    · cases hv
    injection hv with ha hn2 hc
    injection ha with ha
    injection ha with hg2
    subst hg2; subst hc
    have hH : HoldsK ve 2 w g 0 l.toArray := by
      have := holds_of id (ss := (flatK ve 2 l.toArray).toList) hh (by simp only [List.map_id, Array.length_toList, size_flatK, List.size_toArray]; exact h4)
      simpa [HoldsK] using this
    have hlay : CmpLays Try.prog 45 #[] ve 2 cf g 0 l.toArray.size w := fun m os dk hs x y => cmpV x.f0 x.f1 y.f0 y.f1 _ _ (hcmp x y)
    have hc := Try.slices_SortFunc 2 (fun w => by rfl) (fun w => by rfl) ve ve_len (by intro x v hv; simp [ve] at hv; rcases hv with rfl | rfl <;> rfl) cf hO 45 #[] g 0 c l.toArray w (fun args w => enters_ Try.func45 (by kernel_rfl) rfl args w) hlay hH hgl (by simpa using hsz)
    rw [List.size_toArray] at hc
    refine hc.mono ?_
    rintro e w' ⟨rfl, d', q, os, hp, hs, rfl⟩
    have hd : d'.size = l.length := by have := hp.1; simpa using this
    have hperm : d'.toList.Perm l := by
      have := hp.2.2
      simpa [hd, Array.extract_eq_self_of_le] using this
    refine ⟨rfl, d'.toList, hperm, ?_, ⟨hok, (flatK ve 2 d').toList, ?_, ?_⟩, ?_⟩
    · rw [List.pairwise_iff_getElem]
      intro i j hi hj hij
      have := hs i j (Nat.zero_le _) hij (by simpa [hd] using hj)
      simp only [Array.length_toList] at hi hj
      rw [getElem!_pos d' i hi, getElem!_pos d' j hj] at this
      simpa [ltOf] using this
    · have := put_ownsK (w := w) (base := base) (g := g) (cap := c) (n := q) (m := d'.toList.length) (s := 2) (e := 43) (os := os) (cur := cur) (fs := (flatK ve 2 d').toList) (by simp) hb hh (by simp [hd]; omega) h2 h3
      simp only [Array.length_toList, hd] at this ⊢
      exact this
    · have := flat_reps (R := k43.M (sortWorldK ve 2 w g 0 q d' os) base (fun k => ok k ∧ some k ≠ (Value.slice (some ⟨g, 0, none⟩) l.length c).ownBlock)) (fun x => k43_mkM _ _ _ x) d'.toList
      rw [Array.toArray_toList] at this
      exact this
    · exact put_grown id (flatK ve 2 d')
end Go.Proofs.Ytmlbihhaikknnaa.Sp
