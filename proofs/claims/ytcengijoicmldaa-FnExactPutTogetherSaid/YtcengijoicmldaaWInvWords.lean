import Derived.Test.YtcengijoicmldaaWInv
import Derived.Test.YtcengijoicmldaaWFootNe
namespace Go.Proofs.YtcengijoicmldaaW.PrintWords
open Go.RowKit
end Go.Proofs.YtcengijoicmldaaW.PrintWords
namespace Go.Proofs.YtcengijoicmldaaW.PrintLast
section
variable {ops : Array Oper} {a : Act} {o og : Oper} {g : Nat} {t : Tmp} {u : Bool}
end
end Go.Proofs.YtcengijoicmldaaW.PrintLast
