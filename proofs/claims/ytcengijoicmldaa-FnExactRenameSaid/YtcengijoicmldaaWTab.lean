-- words that print.sh laid, what this claim does not name taken out (prunew.py)
import Derived.Test.YtcengijoicmldaaWLast
import Derived.Test.YtcengijoicmldaaWWords
namespace Go.Proofs.YtcengijoicmldaaW.PrintLast
open Go.Proofs.YtcengijoicmldaaW.PrintWords (Aside0)
section
variable {md : Region.Mode} {ops : Array Oper} {T : Bool × List (List Nat × List Nat)} {l l' li lj lk : Array Bool} {ds : List Nat} {i j k : Nat}
end
end Go.Proofs.YtcengijoicmldaaW.PrintLast
