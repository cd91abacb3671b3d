-- words that print.sh laid, what this claim does not name taken out (prunew.py)
import Derived.Test.YtdnidldinafakaaWWords
import Derived.Laws.StructEq
namespace Go.Proofs.YtdnidldinafakaaW.PrintWords
open Go.RowKit
section
variable {P : Program} {d : Nat} {xs ys : Array Value} {f : Field} {fs : List Field} {a b : Value} {r s : Bool} {w : World}
end
end Go.Proofs.YtdnidldinafakaaW.PrintWords
