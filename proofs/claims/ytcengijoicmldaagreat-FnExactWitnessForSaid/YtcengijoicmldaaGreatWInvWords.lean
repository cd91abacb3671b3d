-- words that print.sh laid, what this claim does not name taken out (prunew.py)
import Derived.Test.YtcengijoicmldaaGreatWInv
import Derived.Test.YtcengijoicmldaaGreatWFootNe
namespace Go.Proofs.YtcengijoicmldaaGreatW.PrintWords
open Go.RowKit
end Go.Proofs.YtcengijoicmldaaGreatW.PrintWords
namespace Go.Proofs.YtcengijoicmldaaGreatW.PrintLast
section
variable {ops : Array Oper} {a : Act} {o og : Oper} {g : Nat} {t : Tmp} {u : Bool}
end
end Go.Proofs.YtcengijoicmldaaGreatW.PrintLast
