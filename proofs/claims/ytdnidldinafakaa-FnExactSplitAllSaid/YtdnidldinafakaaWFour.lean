-- words that print.sh laid, what this claim does not name taken out (prunew.py)
import Derived.Test.YtdnidldinafakaaWTab
namespace Go.Proofs.YtdnidldinafakaaW.PrintLast
section
variable {P : Program} {ops : Array Oper} {Q : Exit → Act → World → Prop} {md : Region.Mode} {S : World → Prop} {ds : List Nat} {T : Bool × List (List Nat × List Nat)}
end
end Go.Proofs.YtdnidldinafakaaW.PrintLast
