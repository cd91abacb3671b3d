/- What GoodSum tells, in plain words. No condition. -/
import Derived.Test.YtmjcaajlklidmaaPr1
import Derived.Test.YtmjcaajlklidmaaPr3
import Derived.Test.YtmjcaajlklidmaaA1
namespace Go.Proofs.Ytmjcaajlklidmaa.Ax
open Go.RowKit Go.Proofs.Ytmjcaajlklidmaa.Pr Go.Proofs.Ytmjcaajlklidmaa.Pl Go.Proofs.YtmjcaajlklidmaaW.PrintWords Go.Proofs.YtmjcaajlklidmaaW.PrintLast Go.Proofs.YtmjcaajlklidmaaW.PrintMore
set_option linter.unusedVariables false
set_option linter.unusedSimpArgs false
/-- Is a sum good? -/
def gs (r n t : Int) (lb : Bool) (ln : Int) (hb : Bool) (hn : Int) : Bool :=
  win r 0 10000 && (win n 0 r && (win t (-1000000) 1000000 && (gv lb ln && (gv hb hn && (if n = 0 then lb && (hb && t == 0) else !lb && (!hb && (decide (ln ≤ hn) && win t (wrap64 (n * ln)) (wrap64 (n * hn)))))))))
theorem sGoodSum_eq (k : Nat) (r n t : Int) (lb : Bool) (ln : Int) (hb : Bool) (hn : Int) : spec_GoodSum.f (k + 1) r n t lb ln hb hn = some (gs r n t lb ln hb hn) := by
  unfold gs
  simp only [spec_GoodSum.f, l1In_eq, sGoodValue_eq, Option.bind_some, spec_GoodSum.j0]
  cases win r 0 10000 <;> cases win n 0 r <;> cases win t (-1000000) 1000000 <;> cases gv lb ln <;> cases gv hb hn <;> simp
  by_cases h0 : n = 0
  · cases lb <;> cases hb <;> simp [h0]
  · cases lb <;> cases hb <;> simp [h0]
    by_cases hl : ln ≤ hn <;> simp [hl]
theorem iGoodSum_eq (k : Nat) (r n t : Int) (lb : Bool) (ln : Int) (hb : Bool) (hn : Int) : impl_GoodSum.f (k + 1) r n t lb ln hb hn = some (gs r n t lb ln hb hn) := by
  unfold gs
  simp only [impl_GoodSum.f, within_eq, iGoodValue_eq, Option.bind_some, impl_GoodSum.j0]
  cases win r 0 10000 <;> cases win n 0 r <;> cases win t (-1000000) 1000000 <;> cases gv lb ln <;> cases gv hb hn <;> simp
  by_cases h0 : n = 0
  · cases lb <;> cases hb <;> simp [h0]
  · cases lb <;> cases hb <;> simp [h0]
    by_cases hl : ln ≤ hn <;> simp [hl]
end Go.Proofs.Ytmjcaajlklidmaa.Ax
