-- words that print.sh laid, what this claim does not name taken out (prunew.py)
import Derived.Test.YtdnidldinafakaaWN
namespace Go.Proofs.YtdnidldinafakaaW.PrintWords
open Go.RowKit
namespace Kd
section
variable {α : Type} {d : Kd α} {W : World} {g n : Nat} {S ok : Nat → Prop} {A : Option Addr} {ad : Addr} {xs : List α}
end
end Kd
end Go.Proofs.YtdnidldinafakaaW.PrintWords
