-- words that print.sh laid, what this claim does not name taken out (prunew.py)
import Derived.Test.YtmlbihhaikknnaaWInv
import Derived.Test.YtmlbihhaikknnaaWFootNe
namespace Go.Proofs.YtmlbihhaikknnaaW.PrintWords
open Go.RowKit
end Go.Proofs.YtmlbihhaikknnaaW.PrintWords
namespace Go.Proofs.YtmlbihhaikknnaaW.PrintLast
section
variable {ops : Array Oper} {a : Act} {o og : Oper} {g : Nat} {t : Tmp} {u : Bool}
end
end Go.Proofs.YtmlbihhaikknnaaW.PrintLast
