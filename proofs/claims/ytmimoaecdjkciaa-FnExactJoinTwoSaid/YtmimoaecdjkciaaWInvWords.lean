-- words that print.sh laid, what this claim does not name taken out (prunew.py)
import Derived.Test.YtmimoaecdjkciaaWInv
import Derived.Test.YtmimoaecdjkciaaWFootNe
namespace Go.Proofs.YtmimoaecdjkciaaW.PrintWords
open Go.RowKit
end Go.Proofs.YtmimoaecdjkciaaW.PrintWords
namespace Go.Proofs.YtmimoaecdjkciaaW.PrintLast
section
variable {ops : Array Oper} {a : Act} {o og : Oper} {g : Nat} {t : Tmp} {u : Bool}
end
end Go.Proofs.YtmimoaecdjkciaaW.PrintLast
