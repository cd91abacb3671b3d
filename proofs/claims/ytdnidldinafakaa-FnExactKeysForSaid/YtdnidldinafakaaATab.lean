/- Lists of columns by their numbers: finite tables. No condition. -/
import Derived.Test.YtdnidldinafakaaPr1
import Derived.Test.YtdnidldinafakaaPr6
import Derived.Test.YtdnidldinafakaaMerge0
namespace Go.Proofs.Ytdnidldinafakaa.Ax
open Go.RowKit Go.Proofs.Ytdnidldinafakaa.Pr Go.Proofs.Ytdnidldinafakaa.Pl Go.Proofs.YtdnidldinafakaaW.PrintWords Go.Proofs.YtdnidldinafakaaW.PrintLast Go.Proofs.YtdnidldinafakaaW.PrintMore
set_option linter.unusedVariables false
set_option linter.unusedSimpArgs false
def lo6 (x : Nat) : List Int := ((List.range 6).filter fun i => x.testBit i).map Int.ofNat
def sub6 (n : Nat) : List (List Int) := ((List.range (n + 1)).filter fun x => x &&& n == x).map lo6
set_option maxRecDepth 100000 in
theorem tab_list : ∀ n : Nat, n < 64 → spec_l5List.f 10 (n : Int) = some (lo6 n) := by decide +kernel
set_option maxRecDepth 100000 in
theorem tab_subs : ∀ n : Nat, n < 64 → impl_lists.f 600 (lo6 n) = some (sub6 n) := by decide +kernel
theorem tab_rise : ∀ x : Nat, x < 64 → (lo6 x).Pairwise (· < ·) := by decide +kernel
end Go.Proofs.Ytdnidldinafakaa.Ax
