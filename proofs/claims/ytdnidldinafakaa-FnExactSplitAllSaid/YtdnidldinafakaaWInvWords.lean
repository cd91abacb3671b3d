-- words that print.sh laid, what this claim does not name taken out (prunew.py)
import Derived.Test.YtdnidldinafakaaWInv
import Derived.Test.YtdnidldinafakaaWFootNe
namespace Go.Proofs.YtdnidldinafakaaW.PrintWords
open Go.RowKit
end Go.Proofs.YtdnidldinafakaaW.PrintWords
namespace Go.Proofs.YtdnidldinafakaaW.PrintLast
section
variable {ops : Array Oper} {a : Act} {o og : Oper} {g : Nat} {t : Tmp} {u : Bool}
end
end Go.Proofs.YtdnidldinafakaaW.PrintLast
